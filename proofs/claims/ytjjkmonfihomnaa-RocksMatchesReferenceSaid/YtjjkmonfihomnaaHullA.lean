/- Contracts of package hull: compare, isPlace, turn; and of cmp. -/
import Derived.Test.YtjjkmonfihomnaaBase
import Derived.Test.YtjjkmonfihomnaaGeo
namespace Go.Proofs.Ytjjkmonfihomnaa
open Go.RowKit

/-- max of four, for the walk: kept closed -/
def maxI4 (x y z t : Int) : Int := max (max x y) (max z t)
@[go_sem] theorem run_max_int4 {P : Program} (w : World) (ts : Array TypeId) (T : TypeId) (k1 k2 k3 k4 : IntKind) (x y z t : Int) :
    (Builtin.max_ ts T #[.int k1 x, .int k2 y, .int k3 z, .int k4 t]).run P w = .ok (.int k1 (maxI4 x y z t)) w := by
  have e : maxI4 x y z t = (if t > (if z > (if y > x then y else x) then z else (if y > x then y else x)) then t else (if z > (if y > x then y else x) then z else (if y > x then y else x))) := by
    unfold maxI4; omega
  rw [e]
  simp [Builtin.max_, Builtin.max2]

theorem isNaN_any (a : Int) (w : World) :
    Calls Try.prog 105 #[.int .i64 a] w fun e w' => e = .returned (.bool false) ∧ w = w' := by
  go_enter Try.func105, Try.ntmps105
  go_wp2
  go_ret
  exact ⟨rfl, rfl⟩

theorem compareI_any (a b : Int) (w : World) :
    Calls Try.prog 66 #[.int .i64 a, .int .i64 b] w fun e w' => e = .returned (.int .i64 (cmpI a b)) ∧ w = w' := by
  rcases Int.lt_trichotomy a b with h | rfl | h
  · rw [cmpI_lt h]
    go_enter Try.func66, Try.ntmps66
    go_wp2_with (go_at_call 105; refine (isNaN_any _ _).mono ?_; rintro e w' ⟨rfl, rfl⟩)
    go_ret
    exact ⟨rfl, rfl⟩
  · rw [cmpI_eq]
    go_enter Try.func66, Try.ntmps66
    go_wp2_with (go_at_call 105; refine (isNaN_any _ _).mono ?_; rintro e w' ⟨rfl, rfl⟩)
    go_ret
    exact ⟨rfl, rfl⟩
  · rw [cmpI_gt h]
    go_enter Try.func66, Try.ntmps66
    go_wp2_with (go_at_call 105; refine (isNaN_any _ _).mono ?_; rintro e w' ⟨rfl, rfl⟩)
    go_ret
    exact ⟨rfl, rfl⟩

/-- cmp.Or of two ints in a row of their own -/
theorem or_any (b : Nat) (x y : Int) (w : World) (h0 : w.cell? ⟨b, 0, none⟩ = some (.int .i64 x)) (h1 : w.cell? ⟨b, 1, none⟩ = some (.int .i64 y)) :
    Calls Try.prog 65 #[.slice (some ⟨b, 0, none⟩) 2 2] w fun e w' => e = .returned (.int .i64 (orI x y)) ∧ w = w' := by
  unfold orI
  by_cases hx : x = 0
  · subst hx
    rw [if_pos rfl]
    by_cases hy : y = 0
    · subst hy
      go_enter Try.func65, Try.ntmps65
      go_wp2
      refine wp_loop_rounds 3 ?_
      rw [rounds_succ]
      go_wp2
      rw [rounds_succ]
      go_wp2
      rw [rounds_succ]
      go_wp2
      go_ret
      exact ⟨rfl, rfl⟩
    · have d : (y != 0) = true := by simp [hy]
      go_enter Try.func65, Try.ntmps65
      go_wp2
      refine wp_loop_rounds 2 ?_
      rw [rounds_succ]
      go_wp2
      rw [rounds_succ]
      go_wp2
      go_ret
      exact ⟨rfl, rfl⟩
  · have d : (x != 0) = true := by simp [hx]
    rw [if_neg hx]
    go_enter Try.func65, Try.ntmps65
    go_wp2
    refine wp_loop_rounds 1 ?_
    rw [rounds_succ]
    go_wp2
    go_ret
    exact ⟨rfl, rfl⟩

theorem compare_any (ax ay bx by' : Int) (w : World) :
    Calls Try.prog 63 #[.agg #[.int .i64 ax, .int .i64 ay], .agg #[.int .i64 bx, .int .i64 by']] w fun e w' => e = .returned (.int .i64 (cmpV ax ay bx by')) ∧ Below w.heap.size w w' := by
  go_enter Try.func63, Try.ntmps63
  go_wp2
  go_region_held3 (fun w' => w'.cell? ⟨w.heap.size, 0, none⟩ = some (.int .i64 ax) ∧ w'.cell? ⟨w.heap.size, 1, none⟩ = some (.int .i64 ay) ∧ w'.cell? ⟨w.heap.size + 1, 0, none⟩ = some (.int .i64 bx) ∧ w'.cell? ⟨w.heap.size + 1, 1, none⟩ = some (.int .i64 by'))
    (go_keep)
    (first | (go_at_call 66; refine (compareI_any _ _ _).mono ?_; rintro e w' ⟨rfl, rfl⟩) | (go_at_call 65; refine Calls.mono (or_any (w.heap.size + 1 + 1) (cmpI ax bx) (cmpI ay by') _ ?c0 ?c1) ?_; (case c0 => simp [go_sem]); (case c1 => simp [go_sem]); rintro e w' ⟨rfl, rfl⟩))
  all_goals go_wp2
  go_ret
  exact ⟨rfl, by repeat (first | exact Below.refl _ _ | assumption | apply Below.drew | refine Below.setCell ?_ (by first | omega | (simp; done) | (simp; omega)) _ | refine Below.alloc ?_ (by first | omega | (simp; done) | (simp; omega)) _ | refine Below.call (by assumption) ?_ (by first | omega | (simp; done) | (simp; omega)))⟩

theorem turn_any (ax ay bx by' cx cy : Int) (w : World) (a1 : -1000000 ≤ ax) (a2 : ax ≤ 1000000) (a3 : -1000000 ≤ ay) (a4 : ay ≤ 1000000)
    (b1 : -1000000 ≤ bx) (b2 : bx ≤ 1000000) (b3 : -1000000 ≤ by') (b4 : by' ≤ 1000000) (c1 : -1000000 ≤ cx) (c2 : cx ≤ 1000000) (c3 : -1000000 ≤ cy) (c4 : cy ≤ 1000000) :
    Calls Try.prog 44 #[.agg #[.int .i64 ax, .int .i64 ay], .agg #[.int .i64 bx, .int .i64 by'], .agg #[.int .i64 cx, .int .i64 cy]] w fun e w' => e = .returned (.int .i64 (turnV ax ay bx by' cx cy)) ∧ Below w.heap.size w w' := by
  have p := prod_bd (a := bx - ax) (b := cy - ay) (m := 2000000) (n := 2000000) (by omega) (by omega) (by omega) (by omega)
  have q := prod_bd (a := by' - ay) (b := cx - ax) (m := 2000000) (n := 2000000) (by omega) (by omega) (by omega) (by omega)
  have p' : IntKind.i64.wrap ((bx - ax) * (cy - ay)) = (bx - ax) * (cy - ay) := IntWalk.i64_in _ (by omega)
  have q' : IntKind.i64.wrap ((by' - ay) * (cx - ax)) = (by' - ay) * (cx - ax) := IntWalk.i64_in _ (by omega)
  have r' : IntKind.i64.wrap ((bx - ax) * (cy - ay) - (by' - ay) * (cx - ax)) = (bx - ax) * (cy - ay) - (by' - ay) * (cx - ax) := IntWalk.i64_in _ (by omega)
  clear p q
  unfold turnV
  go_enter Try.func44, Try.ntmps44
  go_wp2
  go_ret
  exact ⟨rfl, by repeat (first | exact Below.refl _ _ | assumption | apply Below.drew | refine Below.setCell ?_ (by first | omega | (simp; done) | (simp; omega)) _ | refine Below.alloc ?_ (by first | omega | (simp; done) | (simp; omega)) _ | refine Below.call (by assumption) ?_ (by first | omega | (simp; done) | (simp; omega)))⟩

theorem isPlace_any (x y : Int) (w : World) :
    Calls Try.prog 42 #[.agg #[.int .i64 x, .int .i64 y]] w fun e w' => e = .returned (.bool (placeB x y)) ∧ Below w.heap.size w w' := by
  cases h : placeB x y
  · have h' := placeB_false h
    clear h
    rcases Int.lt_or_le y x with hxy | hxy
    · by_cases hm : maxI4 x (wrap64 (-x)) y (wrap64 (-y)) ≤ 500000
      · have d1 : decide (maxI4 x (wrap64 (-x)) y (wrap64 (-y)) ≤ 500000) = true := by simpa using hm
        have hb : x ≤ 500000 ∧ y ≤ 500000 := by unfold maxI4 at hm; omega
        have d3 : decide (-500000 ≤ y) = false := by simp; omega
        clear h' hb hm
        go_enter Try.func42, Try.ntmps42
        go_wp2
        all_goals
          go_ret
          exact ⟨rfl, by repeat (first | exact Below.refl _ _ | assumption | apply Below.drew | refine Below.setCell ?_ (by first | omega | (simp; done) | (simp; omega)) _ | refine Below.alloc ?_ (by first | omega | (simp; done) | (simp; omega)) _ | refine Below.call (by assumption) ?_ (by first | omega | (simp; done) | (simp; omega)))⟩
      · have d1 : decide (maxI4 x (wrap64 (-x)) y (wrap64 (-y)) ≤ 500000) = false := by simpa using hm
        clear h' hm
        go_enter Try.func42, Try.ntmps42
        go_wp2
        all_goals
          go_ret
          exact ⟨rfl, by repeat (first | exact Below.refl _ _ | assumption | apply Below.drew | refine Below.setCell ?_ (by first | omega | (simp; done) | (simp; omega)) _ | refine Below.alloc ?_ (by first | omega | (simp; done) | (simp; omega)) _ | refine Below.call (by assumption) ?_ (by first | omega | (simp; done) | (simp; omega)))⟩
    · by_cases hm : maxI4 x (wrap64 (-x)) y (wrap64 (-y)) ≤ 500000
      · have d1 : decide (maxI4 x (wrap64 (-x)) y (wrap64 (-y)) ≤ 500000) = true := by simpa using hm
        have hb : x ≤ 500000 ∧ y ≤ 500000 := by unfold maxI4 at hm; omega
        have d3 : decide (-500000 ≤ x) = false := by simp; omega
        clear h' hb hm
        go_enter Try.func42, Try.ntmps42
        go_wp2
        all_goals
          go_ret
          exact ⟨rfl, by repeat (first | exact Below.refl _ _ | assumption | apply Below.drew | refine Below.setCell ?_ (by first | omega | (simp; done) | (simp; omega)) _ | refine Below.alloc ?_ (by first | omega | (simp; done) | (simp; omega)) _ | refine Below.call (by assumption) ?_ (by first | omega | (simp; done) | (simp; omega)))⟩
      · have d1 : decide (maxI4 x (wrap64 (-x)) y (wrap64 (-y)) ≤ 500000) = false := by simpa using hm
        clear h' hm
        go_enter Try.func42, Try.ntmps42
        go_wp2
        all_goals
          go_ret
          exact ⟨rfl, by repeat (first | exact Below.refl _ _ | assumption | apply Below.drew | refine Below.setCell ?_ (by first | omega | (simp; done) | (simp; omega)) _ | refine Below.alloc ?_ (by first | omega | (simp; done) | (simp; omega)) _ | refine Below.call (by assumption) ?_ (by first | omega | (simp; done) | (simp; omega)))⟩
  · obtain ⟨h1, h2, h3, h4⟩ := placeB_true h
    clear h
    have d1 : decide (maxI4 x (-x) y (-y) ≤ 500000) = true := by simp [maxI4]; omega
    go_enter Try.func42, Try.ntmps42
    go_wp2
    all_goals
      go_ret
      exact ⟨rfl, by repeat (first | exact Below.refl _ _ | assumption | apply Below.drew | refine Below.setCell ?_ (by first | omega | (simp; done) | (simp; omega)) _ | refine Below.alloc ?_ (by first | omega | (simp; done) | (simp; omega)) _ | refine Below.call (by assumption) ?_ (by first | omega | (simp; done) | (simp; omega)))⟩

theorem isPlace_no (x y : Int) (w : World) (h : placeB x y = false) :
    Calls Try.prog 42 #[.agg #[.int .i64 x, .int .i64 y]] w fun e w' => e = .returned (.bool false) ∧ Below w.heap.size w w' := by
  rw [← h]; exact isPlace_any x y w
theorem isPlace_yes (x y : Int) (w : World) (h : placeB x y = true) :
    Calls Try.prog 42 #[.agg #[.int .i64 x, .int .i64 y]] w fun e w' => e = .returned (.bool true) ∧ Below w.heap.size w w' := by
  rw [← h]; exact isPlace_any x y w
end Go.Proofs.Ytjjkmonfihomnaa
