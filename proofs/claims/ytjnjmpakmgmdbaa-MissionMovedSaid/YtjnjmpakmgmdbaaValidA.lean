/- mission.Valid's closures that read numbers alone, the one on home. | mission.Valid's closures on the lists: sizes, ways, rocks. | mission.Valid's closures on ways and rocks; slices.IndexFunc, ContainsFunc over rocks. -/
import Derived.Test.YtjnjmpakmgmdbaaBetween
import Derived.Test.YtjnjmpakmgmdbaaWay
import Derived.LoopTactic
namespace Go.Proofs.Ytjnjmpakmgmdbaa
open Go.RowKit

/-- a mission that closures capture -/
def MsnBox (W : World) (B : Nat) (m : Msn) (vw vh vr : Value) : Prop := Has W B (msnCells m vw vh vr) 26
theorem MsnBox.low {W W' : World} {B : Nat} {m : Msn} {vw vh vr : Value} (h : MsnBox W B m vw vh vr) (hb : Low W W') : MsnBox W' B m vw vh vr := Has.below h hb.out h.lt

theorem v5_any (B : Nat) (m : Msn) (vw vh vr : Value) (w : World) (H : MsnBox w B m vw vh vr) :
    Calls Try.prog 47 #[.pointer (some ⟨B, 0, none⟩)] w fun e w' => e = .returned (.bool (inB m.start 0 100000 && inB m.speed 1 20000)) ∧ Below w.heap.size w w' := by
  obtain ⟨c0, c1, c2, c3, c4, c5, c6, c7, c8, c9, c10⟩ := msn_cells H
  cases h : inB m.start 0 100000
  · go_enter Try.func47, Try.ntmps47
    go_wp2_with (go_at_call 48; refine (from_any _ _ _).mono ?_; rintro e w' ⟨rfl, rfl⟩)
    go_ret
    exact ⟨rfl, by repeat (first | exact Below.refl _ _ | assumption | apply Below.drew | refine Below.setCell ?_ (by first | omega | (simp; done) | (simp; omega)) _ | refine Below.alloc ?_ (by first | omega | (simp; done) | (simp; omega)) _ | refine Below.call (by assumption) ?_ (by first | omega | (simp; done) | (simp; omega)))⟩
  · cases h2 : inB m.speed 1 20000
    · rcases inB_false h2 with h3 | ⟨h3, h4⟩
      · have d : decide (1 ≤ m.speed) = false := by simp; omega
        clear h2 h3
        go_enter Try.func47, Try.ntmps47
        go_wp2_with (go_at_call 48; refine (from_any _ _ _).mono ?_; rintro e w' ⟨rfl, rfl⟩)
        go_ret
        exact ⟨rfl, by repeat (first | exact Below.refl _ _ | assumption | apply Below.drew | refine Below.setCell ?_ (by first | omega | (simp; done) | (simp; omega)) _ | refine Below.alloc ?_ (by first | omega | (simp; done) | (simp; omega)) _ | refine Below.call (by assumption) ?_ (by first | omega | (simp; done) | (simp; omega)))⟩
      · have d : decide (m.speed ≤ 20000) = false := by simp; omega
        clear h2 h4
        go_enter Try.func47, Try.ntmps47
        go_wp2_with (go_at_call 48; refine (from_any _ _ _).mono ?_; rintro e w' ⟨rfl, rfl⟩)
        go_ret
        exact ⟨rfl, by repeat (first | exact Below.refl _ _ | assumption | apply Below.drew | refine Below.setCell ?_ (by first | omega | (simp; done) | (simp; omega)) _ | refine Below.alloc ?_ (by first | omega | (simp; done) | (simp; omega)) _ | refine Below.call (by assumption) ?_ (by first | omega | (simp; done) | (simp; omega)))⟩
    · obtain ⟨h3, h4⟩ := inB_true h2
      clear h2
      go_enter Try.func47, Try.ntmps47
      go_wp2_with (go_at_call 48; refine (from_any _ _ _).mono ?_; rintro e w' ⟨rfl, rfl⟩)
      go_ret
      exact ⟨rfl, by repeat (first | exact Below.refl _ _ | assumption | apply Below.drew | refine Below.setCell ?_ (by first | omega | (simp; done) | (simp; omega)) _ | refine Below.alloc ?_ (by first | omega | (simp; done) | (simp; omega)) _ | refine Below.call (by assumption) ?_ (by first | omega | (simp; done) | (simp; omega)))⟩

theorem v3_any (B : Nat) (m : Msn) (vw vh vr : Value) (w : World) (H : MsnBox w B m vw vh vr) (hp : PtsAt w.heap.size w vh m.home) :
    Calls Try.prog 42 #[.pointer (some ⟨B, 0, none⟩)] w fun e w' => e = .returned (.bool (goValid m.home)) ∧ Below w.heap.size w w' := by
  obtain ⟨c0, c1, c2, c3, c4, c5, c6, c7, c8, c9, c10⟩ := msn_cells H
  go_enter Try.func42, Try.ntmps42
  go_wp2_with (go_at_call 43; refine (hullValid_any _ _ _ hp).mono ?_; rintro e w1 ⟨rfl, hb1⟩; have hz1 := hb1.size; try simp at hz1)
  go_ret
  exact ⟨rfl, by repeat (first | exact Below.refl _ _ | assumption | apply Below.drew | refine Below.setCell ?_ (by first | omega | (simp; done) | (simp; omega)) _ | refine Below.alloc ?_ (by first | omega | (simp; done) | (simp; omega)) _ | refine Below.call (by assumption) ?_ (by first | omega | (simp; done) | (simp; omega)))⟩

theorem v6_any (B : Nat) (m : Msn) (vw vh vr : Value) (w : World) (H : MsnBox w B m vw vh vr) :
    Calls Try.prog 49 #[.pointer (some ⟨B, 0, none⟩)] w fun e w' => e = .returned (.bool (inB m.part 0 500 && inB m.flow 0 5000)) ∧ Below w.heap.size w w' := by
  obtain ⟨c0, c1, c2, c3, c4, c5, c6, c7, c8, c9, c10⟩ := msn_cells H
  cases h : inB m.part 0 500
  · go_enter Try.func49, Try.ntmps49
    go_wp2_with (go_at_call 48; refine (from_any _ _ _).mono ?_; rintro e w' ⟨rfl, rfl⟩)
    go_ret
    exact ⟨rfl, by repeat (first | exact Below.refl _ _ | assumption | apply Below.drew | refine Below.setCell ?_ (by first | omega | (simp; done) | (simp; omega)) _ | refine Below.alloc ?_ (by first | omega | (simp; done) | (simp; omega)) _ | refine Below.call (by assumption) ?_ (by first | omega | (simp; done) | (simp; omega)))⟩
  · go_enter Try.func49, Try.ntmps49
    go_wp2_with (go_at_call 48; refine (from_any _ _ _).mono ?_; rintro e w' ⟨rfl, rfl⟩)
    go_ret
    exact ⟨rfl, by repeat (first | exact Below.refl _ _ | assumption | apply Below.drew | refine Below.setCell ?_ (by first | omega | (simp; done) | (simp; omega)) _ | refine Below.alloc ?_ (by first | omega | (simp; done) | (simp; omega)) _ | refine Below.call (by assumption) ?_ (by first | omega | (simp; done) | (simp; omega)))⟩

theorem v7_any (B : Nat) (m : Msn) (vw vh vr : Value) (w : World) (H : MsnBox w B m vw vh vr) :
    Calls Try.prog 50 #[.pointer (some ⟨B, 0, none⟩)] w fun e w' => e = .returned (.bool (inB m.idle 0 1000 && inB m.drive 0 1000)) ∧ Below w.heap.size w w' := by
  obtain ⟨c0, c1, c2, c3, c4, c5, c6, c7, c8, c9, c10⟩ := msn_cells H
  cases h : inB m.idle 0 1000
  · go_enter Try.func50, Try.ntmps50
    go_wp2_with (go_at_call 48; refine (from_any _ _ _).mono ?_; rintro e w' ⟨rfl, rfl⟩)
    go_ret
    exact ⟨rfl, by repeat (first | exact Below.refl _ _ | assumption | apply Below.drew | refine Below.setCell ?_ (by first | omega | (simp; done) | (simp; omega)) _ | refine Below.alloc ?_ (by first | omega | (simp; done) | (simp; omega)) _ | refine Below.call (by assumption) ?_ (by first | omega | (simp; done) | (simp; omega)))⟩
  · go_enter Try.func50, Try.ntmps50
    go_wp2_with (go_at_call 48; refine (from_any _ _ _).mono ?_; rintro e w' ⟨rfl, rfl⟩)
    go_ret
    exact ⟨rfl, by repeat (first | exact Below.refl _ _ | assumption | apply Below.drew | refine Below.setCell ?_ (by first | omega | (simp; done) | (simp; omega)) _ | refine Below.alloc ?_ (by first | omega | (simp; done) | (simp; omega)) _ | refine Below.call (by assumption) ?_ (by first | omega | (simp; done) | (simp; omega)))⟩

theorem v8_any (B : Nat) (m : Msn) (vw vh vr : Value) (w : World) (H : MsnBox w B m vw vh vr) :
    Calls Try.prog 51 #[.pointer (some ⟨B, 0, none⟩)] w fun e w' => e = .returned (.bool (inB m.battery 0 1000000000 && inB m.deadline 0 1000000000)) ∧ Below w.heap.size w w' := by
  obtain ⟨c0, c1, c2, c3, c4, c5, c6, c7, c8, c9, c10⟩ := msn_cells H
  cases h : inB m.battery 0 1000000000
  · go_enter Try.func51, Try.ntmps51
    go_wp2_with (go_at_call 48; refine (from_any _ _ _).mono ?_; rintro e w' ⟨rfl, rfl⟩)
    go_ret
    exact ⟨rfl, by repeat (first | exact Below.refl _ _ | assumption | apply Below.drew | refine Below.setCell ?_ (by first | omega | (simp; done) | (simp; omega)) _ | refine Below.alloc ?_ (by first | omega | (simp; done) | (simp; omega)) _ | refine Below.call (by assumption) ?_ (by first | omega | (simp; done) | (simp; omega)))⟩
  · go_enter Try.func51, Try.ntmps51
    go_wp2_with (go_at_call 48; refine (from_any _ _ _).mono ?_; rintro e w' ⟨rfl, rfl⟩)
    go_ret
    exact ⟨rfl, by repeat (first | exact Below.refl _ _ | assumption | apply Below.drew | refine Below.setCell ?_ (by first | omega | (simp; done) | (simp; omega)) _ | refine Below.alloc ?_ (by first | omega | (simp; done) | (simp; omega)) _ | refine Below.call (by assumption) ?_ (by first | omega | (simp; done) | (simp; omega)))⟩
end Go.Proofs.Ytjnjmpakmgmdbaa

namespace Go.Proofs.Ytjnjmpakmgmdbaa
open Go.RowKit

def sizesB (m : Msn) : Bool := decide (2 ≤ m.ways.length ∧ m.ways.length ≤ 41 ∧ m.rocks.length ≤ 100)

theorem v1_any (B : Nat) (m : Msn) (vw vh vr : Value) (w : World) (H : MsnBox w B m vw vh vr) (hw : WaysAt w.heap.size w vw m.ways) (hr : RocksAt w.heap.size w vr m.rocks) :
    Calls Try.prog 39 #[.pointer (some ⟨B, 0, none⟩)] w fun e w' => e = .returned (.bool (sizesB m)) ∧ Below w.heap.size w w' := by
  obtain ⟨c0, c1, c2, c3, c4, c5, c6, c7, c8, c9, c10⟩ := msn_cells H
  obtain ⟨_, a1, cap1, rfl, hc1⟩ := hw
  obtain ⟨_, a2, cap2, rfl, hc2⟩ := hr
  clear hc1 hc2
  by_cases h1 : 2 ≤ m.ways.length
  · by_cases h2 : m.ways.length ≤ 41
    · by_cases h3 : m.rocks.length ≤ 100
      · have e : sizesB m = true := by simp [sizesB]; omega
        have d1 : decide (2 ≤ (m.ways.length : Int)) = true := by simp; omega
        have d2 : decide ((m.ways.length : Int) ≤ 41) = true := by simp; omega
        have d3 : decide ((m.rocks.length : Int) ≤ 100) = true := by simp; omega
        rw [e]; clear e h1 h2 h3
        go_enter Try.func39, Try.ntmps39
        go_wp2
        go_ret
        exact ⟨rfl, by repeat (first | exact Below.refl _ _ | assumption | apply Below.drew | refine Below.setCell ?_ (by first | omega | (simp; done) | (simp; omega)) _ | refine Below.alloc ?_ (by first | omega | (simp; done) | (simp; omega)) _ | refine Below.call (by assumption) ?_ (by first | omega | (simp; done) | (simp; omega)))⟩
      · have e : sizesB m = false := by simp [sizesB]; omega
        have d1 : decide (2 ≤ (m.ways.length : Int)) = true := by simp; omega
        have d2 : decide ((m.ways.length : Int) ≤ 41) = true := by simp; omega
        have d3 : decide ((m.rocks.length : Int) ≤ 100) = false := by simp; omega
        rw [e]; clear e h1 h2 h3
        go_enter Try.func39, Try.ntmps39
        go_wp2
        go_ret
        exact ⟨rfl, by repeat (first | exact Below.refl _ _ | assumption | apply Below.drew | refine Below.setCell ?_ (by first | omega | (simp; done) | (simp; omega)) _ | refine Below.alloc ?_ (by first | omega | (simp; done) | (simp; omega)) _ | refine Below.call (by assumption) ?_ (by first | omega | (simp; done) | (simp; omega)))⟩
    · have e : sizesB m = false := by simp [sizesB]; omega
      have d1 : decide (2 ≤ (m.ways.length : Int)) = true := by simp; omega
      have d2 : decide ((m.ways.length : Int) ≤ 41) = false := by simp; omega
      rw [e]; clear e h1 h2
      go_enter Try.func39, Try.ntmps39
      go_wp2
      go_ret
      exact ⟨rfl, by repeat (first | exact Below.refl _ _ | assumption | apply Below.drew | refine Below.setCell ?_ (by first | omega | (simp; done) | (simp; omega)) _ | refine Below.alloc ?_ (by first | omega | (simp; done) | (simp; omega)) _ | refine Below.call (by assumption) ?_ (by first | omega | (simp; done) | (simp; omega)))⟩
  · have e : sizesB m = false := by simp [sizesB]; omega
    have d1 : decide (2 ≤ (m.ways.length : Int)) = false := by simp; omega
    rw [e]; clear e h1
    go_enter Try.func39, Try.ntmps39
    go_wp2
    go_ret
    exact ⟨rfl, by repeat (first | exact Below.refl _ _ | assumption | apply Below.drew | refine Below.setCell ?_ (by first | omega | (simp; done) | (simp; omega)) _ | refine Below.alloc ?_ (by first | omega | (simp; done) | (simp; omega)) _ | refine Below.call (by assumption) ?_ (by first | omega | (simp; done) | (simp; omega)))⟩

theorem v41_any (v : Value) (l : List Pt) (w : World) (hp : PtsAt w.heap.size w v l) :
    Calls Try.prog 46 #[v] w fun e w' => e = .returned (.bool (!goValid l)) ∧ Below w.heap.size w w' := by
  cases h : goValid l
  · go_enter Try.func46, Try.ntmps46
    go_wp2_with (go_at_call 43; refine (hullValid_any _ _ _ hp).mono ?_; rintro e w1 ⟨rfl, hb1⟩; have hz1 := hb1.size; try simp at hz1)
    go_ret
    exact ⟨rfl, by repeat (first | exact Below.refl _ _ | assumption | apply Below.drew | refine Below.setCell ?_ (by first | omega | (simp; done) | (simp; omega)) _ | refine Below.alloc ?_ (by first | omega | (simp; done) | (simp; omega)) _ | refine Below.call (by assumption) ?_ (by first | omega | (simp; done) | (simp; omega)))⟩
  · go_enter Try.func46, Try.ntmps46
    go_wp2_with (go_at_call 43; refine (hullValid_any _ _ _ hp).mono ?_; rintro e w1 ⟨rfl, hb1⟩; have hz1 := hb1.size; try simp at hz1)
    go_ret
    exact ⟨rfl, by repeat (first | exact Below.refl _ _ | assumption | apply Below.drew | refine Below.setCell ?_ (by first | omega | (simp; done) | (simp; omega)) _ | refine Below.alloc ?_ (by first | omega | (simp; done) | (simp; omega)) _ | refine Below.call (by assumption) ?_ (by first | omega | (simp; done) | (simp; omega)))⟩
end Go.Proofs.Ytjnjmpakmgmdbaa

namespace Go.Proofs.Ytjnjmpakmgmdbaa
open Go.RowKit
attribute [local irreducible] wpQuiet

/-- all rocks are polygons -/
noncomputable def rocksB (l : List (List Pt)) : Bool := decide (∀ j, j < l.length → goValid (rk l j) = true)

/-- an index is found, or -1 is returned -/
def FoundQ (b : Bool) (w : World) (e : Ending) (w' : World) : Prop := ∃ r : Int, e = .returned (.int .i64 r) ∧ -1 ≤ r ∧ r ≤ 9223372036854775807 ∧ decide (0 ≤ r) = b ∧ Below w.heap.size w w'

theorem indexRocks_any (v : Value) (l : List (List Pt)) (w : World) (hr : RocksAt w.heap.size w v l) :
    Calls Try.prog 81 #[v, .func (.func 46) #[] #[]] w (FoundQ (!rocksB l) w) := by
  obtain ⟨hl, a, cap, rfl, hc⟩ := hr
  go_enter Try.func81, Try.ntmps81
  go_wp2
  go_loopw [8] (fun i wr => ∃ k : Nat, k ≤ l.length ∧ i = .int .i64 k ∧ (∀ j, j < k → goValid (rk l j) = true) ∧ Below w.heap.size w wr) (fun i _ => l.length - (intOf i).toNat)
  case atStart => exact ⟨0, Nat.zero_le _, rfl, fun j h => by omega, Below.refl _ _⟩
  case round =>
    obtain ⟨k, hk, rfl, hall, hB⟩ := hrel
    by_cases hlt : k < l.length
    · rcases hc with rfl | ⟨b, o, rfl, hb, hc⟩
      · simp at hlt
      obtain ⟨u, hu, hpu⟩ := hc k hlt
      have c1 := (hB.cell (p := ⟨b, o + k, none⟩) hb).trans hu
      have hpu' := Lib.hid ((hpu.below hB).mono hB.size)
      have hall' := Lib.hid hall
      have hc' := Lib.hid hc
      clear hall hc hu hpu
      have hz := hB.size
      cases hpl : goValid (rk l k)
      · have hr : Hid (rocksB l = false) := by
          show rocksB l = false
          simp only [rocksB, decide_eq_false_iff_not]
          intro h
          have := h k hlt
          rw [hpl] at this
          cases this
        go_wp2_with (go_at_call 46; refine (v41_any _ _ _ hpu'.out).mono ?_; rintro e w1 ⟨rfl, hb1⟩; have hz1 := hb1.size; try simp at hz1)
        go_ret
        exact ⟨k, rfl, by omega, by omega, by rw [hr.out]; simp, by repeat (first | exact Below.refl _ _ | assumption | apply Below.drew | refine Below.setCell ?_ (by first | omega | (simp; done) | (simp; omega)) _ | refine Below.alloc ?_ (by first | omega | (simp; done) | (simp; omega)) _ | refine Below.call (by assumption) ?_ (by first | omega | (simp; done) | (simp; omega)))⟩
      · go_wp2_with (go_at_call 46; refine (v41_any _ _ _ hpu'.out).mono ?_; rintro e w1 ⟨rfl, hb1⟩; have hz1 := hb1.size; try simp at hz1)
        go_roundw
        case rel =>
          refine ⟨k + 1, by omega, by go_num, fun j hj => ?_, by repeat (first | exact Below.refl _ _ | assumption | apply Below.drew | refine Below.setCell ?_ (by first | omega | (simp; done) | (simp; omega)) _ | refine Below.alloc ?_ (by first | omega | (simp; done) | (simp; omega)) _ | refine Below.call (by assumption) ?_ (by first | omega | (simp; done) | (simp; omega)))⟩
          by_cases e : j = k
          · rw [e]; exact hpl
          · exact hall'.out j (by omega)
        case measure => simp [intOf]; omega
    · have hr : Hid (rocksB l = true) := by
        show rocksB l = true
        simp only [rocksB, decide_eq_true_eq]
        intro j hj
        exact hall j (by omega)
      clear hall
      go_wp2
      go_ret
      exact ⟨-1, rfl, by omega, by omega, by rw [hr.out]; simp, hB⟩

theorem containsRocks_any (v : Value) (l : List (List Pt)) (w : World) (hr : RocksAt w.heap.size w v l) :
    Calls Try.prog 45 #[v, .func (.func 46) #[] #[]] w fun e w' => e = .returned (.bool (!rocksB l)) ∧ Below w.heap.size w w' := by
  go_enter Try.func45, Try.ntmps45
  go_wp2_with (go_at_call 81; refine (indexRocks_any _ _ _ hr).mono ?_; rintro e w1 ⟨r, rfl, r1, r2, r3, hb⟩)
  go_ret
  exact ⟨by first | rfl | exact ret_bool r3, hb⟩

theorem v4_any (B : Nat) (m : Msn) (vw vh vr : Value) (w : World) (H : MsnBox w B m vw vh vr) (hr : RocksAt w.heap.size w vr m.rocks) :
    Calls Try.prog 44 #[.pointer (some ⟨B, 0, none⟩)] w fun e w' => e = .returned (.bool (rocksB m.rocks)) ∧ Below w.heap.size w w' := by
  obtain ⟨c0, c1, c2, c3, c4, c5, c6, c7, c8, c9, c10⟩ := msn_cells H
  go_enter Try.func44, Try.ntmps44
  go_wp2_with (go_at_call 45; refine (containsRocks_any _ _ _ hr).mono ?_; rintro e w1 ⟨rfl, hb1⟩; have hz1 := hb1.size; try simp at hz1)
  go_ret
  exact ⟨ret_bool (by simp), by repeat (first | exact Below.refl _ _ | assumption | apply Below.drew | refine Below.setCell ?_ (by first | omega | (simp; done) | (simp; omega)) _ | refine Below.alloc ?_ (by first | omega | (simp; done) | (simp; omega)) _ | refine Below.call (by assumption) ?_ (by first | omega | (simp; done) | (simp; omega)))⟩

theorem v2_any (B : Nat) (m : Msn) (vw vh vr : Value) (w : World) (H : MsnBox w B m vw vh vr) (hw : WaysAt w.heap.size w vw m.ways) (hn : m.ways.length ≤ 1000000) :
    Calls Try.prog 40 #[.pointer (some ⟨B, 0, none⟩)] w fun e w' => e = .returned (.bool (waysB m.ways)) ∧ Below w.heap.size w w' := by
  obtain ⟨c0, c1, c2, c3, c4, c5, c6, c7, c8, c9, c10⟩ := msn_cells H
  obtain ⟨hl, a, cap, rfl, hc⟩ := hw
  clear c1 c2 c3 c4 c5 c6 c7 c8 c9 c10
  go_enter Try.func40, Try.ntmps40
  go_wp2
  go_loopw [7] (fun i wr => ∃ k : Nat, k ≤ m.ways.length ∧ i = .int .i64 k ∧ (∀ j, j < k → wayB j (wy m.ways j) = true) ∧ Below w.heap.size w wr) (fun i _ => m.ways.length - (intOf i).toNat)
  case atStart => exact ⟨0, Nat.zero_le _, rfl, fun j h => by omega, Below.refl _ _⟩
  case round =>
    obtain ⟨k, hk, rfl, hall, hB⟩ := hrel
    by_cases hlt : k < m.ways.length
    · rcases hc with h0 | ⟨b, o, rfl, hb, hc⟩
      · rw [h0] at hlt; simp at hlt
      obtain ⟨u0, u1, u2, u3, u4⟩ := hc k hlt
      have x0 := (hB.cell (p := ⟨b, o + k * 5, none⟩) hb).trans u0
      have x1 := (hB.cell (p := ⟨b, o + k * 5 + 1, none⟩) hb).trans u1
      have x2 := (hB.cell (p := ⟨b, o + k * 5 + 2, none⟩) hb).trans u2
      have x3 := (hB.cell (p := ⟨b, o + k * 5 + 3, none⟩) hb).trans u3
      have x4 := (hB.cell (p := ⟨b, o + k * 5 + 4, none⟩) hb).trans u4
      have hall' := Lib.hid hall
      have hc' := Lib.hid hc
      clear hall hc u0 u1 u2 u3 u4
      have hz := hB.size
      have hw1 := fun w1 => isWay_any k (wy m.ways k) w1 (by omega)
      unfold wyVal at hw1
      have hw1' := Lib.hid hw1
      clear hw1
      cases hpl : wayB k (wy m.ways k)
      · have hr : Hid (waysB m.ways = false) := by
          show waysB m.ways = false
          simp only [waysB, decide_eq_false_iff_not]
          intro h
          have := h k hlt
          rw [hpl] at this
          cases this
        go_wp2_with (go_at_call 41; refine (hw1'.out _).mono ?_; rintro e w1 ⟨rfl, hb1⟩; have hz1 := hb1.size; try simp at hz1)
        go_ret
        exact ⟨ret_bool hr.out.symm, by repeat (first | exact Below.refl _ _ | assumption | apply Below.drew | refine Below.setCell ?_ (by first | omega | (simp; done) | (simp; omega)) _ | refine Below.alloc ?_ (by first | omega | (simp; done) | (simp; omega)) _ | refine Below.call (by assumption) ?_ (by first | omega | (simp; done) | (simp; omega)))⟩
      · go_wp2_with (go_at_call 41; refine (hw1'.out _).mono ?_; rintro e w1 ⟨rfl, hb1⟩; have hz1 := hb1.size; try simp at hz1)
        go_roundw
        case rel =>
          refine ⟨k + 1, by omega, by go_num, fun j hj => ?_, by repeat (first | exact Below.refl _ _ | assumption | apply Below.drew | refine Below.setCell ?_ (by first | omega | (simp; done) | (simp; omega)) _ | refine Below.alloc ?_ (by first | omega | (simp; done) | (simp; omega)) _ | refine Below.call (by assumption) ?_ (by first | omega | (simp; done) | (simp; omega)))⟩
          by_cases e : j = k
          · rw [e]; exact hpl
          · exact hall'.out j (by omega)
        case measure => simp [intOf]; omega
    · have hr : Hid (waysB m.ways = true) := by
        show waysB m.ways = true
        simp only [waysB, decide_eq_true_eq]
        intro j hj
        exact hall j (by omega)
      clear hall
      go_wp2
      go_ret
      exact ⟨ret_bool hr.out.symm, hB⟩
end Go.Proofs.Ytjnjmpakmgmdbaa
