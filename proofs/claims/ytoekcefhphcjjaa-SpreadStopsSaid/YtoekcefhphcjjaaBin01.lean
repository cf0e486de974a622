/- Small words that all walks of this seat share. | Contracts of package hull: compare, isPlace, turn; and of cmp. | How lists of points lie in memory; the reference's places, Less, Cross, Place. | Contracts of package exact (the functions below the laws of layer 1). | Contracts of package exact, second part. | Contracts of package exact, third part: Scale, Root. | Contracts of the reference of layer 1. | Contracts of the reference of layer 1, second part. | Contracts of the reference of layer 1, third part: the root; the laws' head. | Missions: what they are, and how they lie in memory. -/
import Derived.WalkKit
import Derived.WalkLawsBesides
import Derived.WalkSpells
import Derived.RegionTactic
import Derived.ChangeAlike
import Derived.Deep.QuietTactic
import Derived.BigQuiet
import Derived.Outline
import Derived.Deep.RegionHeld3
import Derived.Laws.EntriesVeiled
import Derived.Lib.Hide
import Derived.LoopTactic
import Derived.Test.YtoekcefhphcjjaaRows
import Derived.Test.YtoekcefhphcjjaaBin00
namespace Go.Proofs.Ytoekcefhphcjjaa
open Go.RowKit

theorem Below.call {B : Nat} {a w w' : World} (h2 : Below w.heap.size w w') (h1 : Below B a w) (hB : B ≤ w.heap.size) : Below B a w' := h1.trans (h2.mono hB)

/-- all old cells and marks read as before: two rules for the walk -/
theorem bcell {W w1 : World} (hb : Below W.heap.size W w1) : (∀ b o, b < W.heap.size → w1.cell? ⟨b, o, none⟩ = W.cell? ⟨b, o, none⟩) ∧ (∀ b o, b < W.heap.size → w1.frozen? ⟨b, o, none⟩ = W.frozen? ⟨b, o, none⟩) :=
  ⟨fun b o h => hb.cell (p := ⟨b, o, none⟩) h, fun b o h => hb.frozen (p := ⟨b, o, none⟩) h⟩

theorem ret_bool {a b : Bool} (h : a = b) : Ending.returned (.bool a) = .returned (.bool b) := by rw [h]
theorem grown_drew (w : World) (row : Option Nat) : w.grownBy w.drew row := ⟨rfl, rfl, rfl, Nat.le_refl _, fun _ _ _ => rfl⟩
end Go.Proofs.Ytoekcefhphcjjaa

namespace Go.Proofs.Ytoekcefhphcjjaa
open Go.RowKit

/-- max of four, for the walk: kept closed -/
def maxI4 (x y z t : Int) : Int := max (max x y) (max z t)
@[go_sem] theorem run_max_int4 {P : Program} (w : World) (ts : Array TypeId) (T : TypeId) (k1 k2 k3 k4 : IntKind) (x y z t : Int) :
    (Builtin.max_ ts T #[.int k1 x, .int k2 y, .int k3 z, .int k4 t]).run P w = .ok (.int k1 (maxI4 x y z t)) w := by
  have e : maxI4 x y z t = (if t > (if z > (if y > x then y else x) then z else (if y > x then y else x)) then t else (if z > (if y > x then y else x) then z else (if y > x then y else x))) := by
    unfold maxI4; omega
  rw [e]
  simp [Builtin.max_, Builtin.max2]

theorem isNaN_any (a : Int) (w : World) :
    Calls Try.prog 83 #[.int .i64 a] w fun e w' => e = .returned (.bool false) ∧ w = w' := by
  go_enter Try.func83, Try.ntmps83
  go_wp2
  go_ret
  exact ⟨rfl, rfl⟩

theorem compareI_any (a b : Int) (w : World) :
    Calls Try.prog 73 #[.int .i64 a, .int .i64 b] w fun e w' => e = .returned (.int .i64 (cmpI a b)) ∧ w = w' := by
  rcases Int.lt_trichotomy a b with h | rfl | h
  · rw [cmpI_lt h]
    go_enter Try.func73, Try.ntmps73
    go_wp2_with (go_at_call 83; refine (isNaN_any _ _).mono ?_; rintro e w' ⟨rfl, rfl⟩)
    go_ret
    exact ⟨rfl, rfl⟩
  · rw [cmpI_eq]
    go_enter Try.func73, Try.ntmps73
    go_wp2_with (go_at_call 83; refine (isNaN_any _ _).mono ?_; rintro e w' ⟨rfl, rfl⟩)
    go_ret
    exact ⟨rfl, rfl⟩
  · rw [cmpI_gt h]
    go_enter Try.func73, Try.ntmps73
    go_wp2_with (go_at_call 83; refine (isNaN_any _ _).mono ?_; rintro e w' ⟨rfl, rfl⟩)
    go_ret
    exact ⟨rfl, rfl⟩

/-- cmp.Or of two ints in a row of their own -/
theorem or_any (b : Nat) (x y : Int) (w : World) (h0 : w.cell? ⟨b, 0, none⟩ = some (.int .i64 x)) (h1 : w.cell? ⟨b, 1, none⟩ = some (.int .i64 y)) :
    Calls Try.prog 72 #[.slice (some ⟨b, 0, none⟩) 2 2] w fun e w' => e = .returned (.int .i64 (orI x y)) ∧ w = w' := by
  unfold orI
  by_cases hx : x = 0
  · subst hx
    rw [if_pos rfl]
    by_cases hy : y = 0
    · subst hy
      go_enter Try.func72, Try.ntmps72
      go_wp2
      refine wp_loop_rounds 3 ?_
      rw [rounds_succ]
      go_wp2
      rw [rounds_succ]
      go_wp2
      rw [rounds_succ]
      go_wp2
      go_ret
      exact ⟨rfl, rfl⟩
    · have d : (y != 0) = true := by simp [hy]
      go_enter Try.func72, Try.ntmps72
      go_wp2
      refine wp_loop_rounds 2 ?_
      rw [rounds_succ]
      go_wp2
      rw [rounds_succ]
      go_wp2
      go_ret
      exact ⟨rfl, rfl⟩
  · have d : (x != 0) = true := by simp [hx]
    rw [if_neg hx]
    go_enter Try.func72, Try.ntmps72
    go_wp2
    refine wp_loop_rounds 1 ?_
    rw [rounds_succ]
    go_wp2
    go_ret
    exact ⟨rfl, rfl⟩

theorem compare_any (ax ay bx by' : Int) (w : World) :
    Calls Try.prog 61 #[.agg #[.int .i64 ax, .int .i64 ay], .agg #[.int .i64 bx, .int .i64 by']] w fun e w' => e = .returned (.int .i64 (cmpV ax ay bx by')) ∧ Below w.heap.size w w' := by
  go_enter Try.func61, Try.ntmps61
  go_wp2
  go_region_held3 (fun w' => w'.cell? ⟨w.heap.size, 0, none⟩ = some (.int .i64 ax) ∧ w'.cell? ⟨w.heap.size, 1, none⟩ = some (.int .i64 ay) ∧ w'.cell? ⟨w.heap.size + 1, 0, none⟩ = some (.int .i64 bx) ∧ w'.cell? ⟨w.heap.size + 1, 1, none⟩ = some (.int .i64 by'))
    (go_keep)
    (first | (go_at_call 73; refine (compareI_any _ _ _).mono ?_; rintro e w' ⟨rfl, rfl⟩) | (go_at_call 72; refine Calls.mono (or_any (w.heap.size + 1 + 1) (cmpI ax bx) (cmpI ay by') _ ?c0 ?c1) ?_; (case c0 => simp [go_sem]); (case c1 => simp [go_sem]); rintro e w' ⟨rfl, rfl⟩))
  all_goals go_wp2
  go_ret
  exact ⟨rfl, by repeat (first | exact Below.refl _ _ | assumption | apply Below.drew | refine Below.setCell ?_ (by first | omega | (simp; done) | (simp; omega)) _ | refine Below.alloc ?_ (by first | omega | (simp; done) | (simp; omega)) _ | refine Below.call (by assumption) ?_ (by first | omega | (simp; done) | (simp; omega)))⟩

theorem turn_any (ax ay bx by' cx cy : Int) (w : World) (a1 : -1000000 ≤ ax) (a2 : ax ≤ 1000000) (a3 : -1000000 ≤ ay) (a4 : ay ≤ 1000000)
    (b1 : -1000000 ≤ bx) (b2 : bx ≤ 1000000) (b3 : -1000000 ≤ by') (b4 : by' ≤ 1000000) (c1 : -1000000 ≤ cx) (c2 : cx ≤ 1000000) (c3 : -1000000 ≤ cy) (c4 : cy ≤ 1000000) :
    Calls Try.prog 30 #[.agg #[.int .i64 ax, .int .i64 ay], .agg #[.int .i64 bx, .int .i64 by'], .agg #[.int .i64 cx, .int .i64 cy]] w fun e w' => e = .returned (.int .i64 (turnV ax ay bx by' cx cy)) ∧ Below w.heap.size w w' := by
  have p := prod_bd (a := bx - ax) (b := cy - ay) (m := 2000000) (n := 2000000) (by omega) (by omega) (by omega) (by omega)
  have q := prod_bd (a := by' - ay) (b := cx - ax) (m := 2000000) (n := 2000000) (by omega) (by omega) (by omega) (by omega)
  have p' : IntKind.i64.wrap ((bx - ax) * (cy - ay)) = (bx - ax) * (cy - ay) := IntWalk.i64_in _ (by omega)
  have q' : IntKind.i64.wrap ((by' - ay) * (cx - ax)) = (by' - ay) * (cx - ax) := IntWalk.i64_in _ (by omega)
  have r' : IntKind.i64.wrap ((bx - ax) * (cy - ay) - (by' - ay) * (cx - ax)) = (bx - ax) * (cy - ay) - (by' - ay) * (cx - ax) := IntWalk.i64_in _ (by omega)
  clear p q
  unfold turnV
  go_enter Try.func30, Try.ntmps30
  go_wp2
  go_ret
  exact ⟨rfl, by repeat (first | exact Below.refl _ _ | assumption | apply Below.drew | refine Below.setCell ?_ (by first | omega | (simp; done) | (simp; omega)) _ | refine Below.alloc ?_ (by first | omega | (simp; done) | (simp; omega)) _ | refine Below.call (by assumption) ?_ (by first | omega | (simp; done) | (simp; omega)))⟩

theorem isPlace_any (x y : Int) (w : World) :
    Calls Try.prog 29 #[.agg #[.int .i64 x, .int .i64 y]] w fun e w' => e = .returned (.bool (placeB x y)) ∧ Below w.heap.size w w' := by
  cases h : placeB x y
  · have h' := placeB_false h
    clear h
    rcases Int.lt_or_le y x with hxy | hxy
    · by_cases hm : maxI4 x (wrap64 (-x)) y (wrap64 (-y)) ≤ 500000
      · have d1 : decide (maxI4 x (wrap64 (-x)) y (wrap64 (-y)) ≤ 500000) = true := by simpa using hm
        have hb : x ≤ 500000 ∧ y ≤ 500000 := by unfold maxI4 at hm; omega
        have d3 : decide (-500000 ≤ y) = false := by simp; omega
        clear h' hb hm
        go_enter Try.func29, Try.ntmps29
        go_wp2
        all_goals
          go_ret
          exact ⟨rfl, by repeat (first | exact Below.refl _ _ | assumption | apply Below.drew | refine Below.setCell ?_ (by first | omega | (simp; done) | (simp; omega)) _ | refine Below.alloc ?_ (by first | omega | (simp; done) | (simp; omega)) _ | refine Below.call (by assumption) ?_ (by first | omega | (simp; done) | (simp; omega)))⟩
      · have d1 : decide (maxI4 x (wrap64 (-x)) y (wrap64 (-y)) ≤ 500000) = false := by simpa using hm
        clear h' hm
        go_enter Try.func29, Try.ntmps29
        go_wp2
        all_goals
          go_ret
          exact ⟨rfl, by repeat (first | exact Below.refl _ _ | assumption | apply Below.drew | refine Below.setCell ?_ (by first | omega | (simp; done) | (simp; omega)) _ | refine Below.alloc ?_ (by first | omega | (simp; done) | (simp; omega)) _ | refine Below.call (by assumption) ?_ (by first | omega | (simp; done) | (simp; omega)))⟩
    · by_cases hm : maxI4 x (wrap64 (-x)) y (wrap64 (-y)) ≤ 500000
      · have d1 : decide (maxI4 x (wrap64 (-x)) y (wrap64 (-y)) ≤ 500000) = true := by simpa using hm
        have hb : x ≤ 500000 ∧ y ≤ 500000 := by unfold maxI4 at hm; omega
        have d3 : decide (-500000 ≤ x) = false := by simp; omega
        clear h' hb hm
        go_enter Try.func29, Try.ntmps29
        go_wp2
        all_goals
          go_ret
          exact ⟨rfl, by repeat (first | exact Below.refl _ _ | assumption | apply Below.drew | refine Below.setCell ?_ (by first | omega | (simp; done) | (simp; omega)) _ | refine Below.alloc ?_ (by first | omega | (simp; done) | (simp; omega)) _ | refine Below.call (by assumption) ?_ (by first | omega | (simp; done) | (simp; omega)))⟩
      · have d1 : decide (maxI4 x (wrap64 (-x)) y (wrap64 (-y)) ≤ 500000) = false := by simpa using hm
        clear h' hm
        go_enter Try.func29, Try.ntmps29
        go_wp2
        all_goals
          go_ret
          exact ⟨rfl, by repeat (first | exact Below.refl _ _ | assumption | apply Below.drew | refine Below.setCell ?_ (by first | omega | (simp; done) | (simp; omega)) _ | refine Below.alloc ?_ (by first | omega | (simp; done) | (simp; omega)) _ | refine Below.call (by assumption) ?_ (by first | omega | (simp; done) | (simp; omega)))⟩
  · obtain ⟨h1, h2, h3, h4⟩ := placeB_true h
    clear h
    have d1 : decide (maxI4 x (-x) y (-y) ≤ 500000) = true := by simp [maxI4]; omega
    go_enter Try.func29, Try.ntmps29
    go_wp2
    all_goals
      go_ret
      exact ⟨rfl, by repeat (first | exact Below.refl _ _ | assumption | apply Below.drew | refine Below.setCell ?_ (by first | omega | (simp; done) | (simp; omega)) _ | refine Below.alloc ?_ (by first | omega | (simp; done) | (simp; omega)) _ | refine Below.call (by assumption) ?_ (by first | omega | (simp; done) | (simp; omega)))⟩

theorem isPlace_no (x y : Int) (w : World) (h : placeB x y = false) :
    Calls Try.prog 29 #[.agg #[.int .i64 x, .int .i64 y]] w fun e w' => e = .returned (.bool false) ∧ Below w.heap.size w w' := by
  rw [← h]; exact isPlace_any x y w
theorem isPlace_yes (x y : Int) (w : World) (h : placeB x y = true) :
    Calls Try.prog 29 #[.agg #[.int .i64 x, .int .i64 y]] w fun e w' => e = .returned (.bool true) ∧ Below w.heap.size w w' := by
  rw [← h]; exact isPlace_any x y w
end Go.Proofs.Ytoekcefhphcjjaa

namespace Go.Proofs.Ytoekcefhphcjjaa
open Go.RowKit

/-- A slice value reads as a list of points, all of whose cells lie below block n0. -/
def PtsAt (n0 : Nat) (W : World) (v : Value) (l : List Pt) : Prop :=
  l.length ≤ 70368744177663 ∧ ∃ a cap, v = .slice a l.length (l.length + cap) ∧ (l = [] ∨ ∃ b o, a = some ⟨b, o, none⟩ ∧ b < n0 ∧
    ∀ j, j < l.length → W.cell? ⟨b, o + j * 2, none⟩ = some (.int .i64 (nth l j).x) ∧ W.cell? ⟨b, o + j * 2 + 1, none⟩ = some (.int .i64 (nth l j).y))

theorem PtsAt.below {n0 : Nat} {A B : World} (h : Below n0 A B) {v : Value} {l : List Pt} (hp : PtsAt n0 A v l) : PtsAt n0 B v l := by
  obtain ⟨hl, a, cap, e, hc⟩ := hp
  refine ⟨hl, a, cap, e, hc.imp id ?_⟩
  rintro ⟨b, o, e1, hb, hc⟩
  exact ⟨b, o, e1, hb, fun j hj => ⟨(h.cell (p := ⟨b, o + j * 2, none⟩) hb).trans (hc j hj).1, (h.cell (p := ⟨b, o + j * 2 + 1, none⟩) hb).trans (hc j hj).2⟩⟩
theorem PtsAt.mono {n0 n1 : Nat} {W : World} {v : Value} {l : List Pt} (hp : PtsAt n0 W v l) (h : n0 ≤ n1) : PtsAt n1 W v l := by
  obtain ⟨hl, a, cap, e, hc⟩ := hp
  refine ⟨hl, a, cap, e, hc.imp id ?_⟩
  rintro ⟨b, o, e1, hb, hc⟩
  exact ⟨b, o, e1, by omega, hc⟩


/-- all points are places -/
def allPl (l : List Pt) : Bool := decide (∀ j, j < l.length → placeP (nth l j) = true)

end Go.Proofs.Ytoekcefhphcjjaa

namespace Go.Proofs.Ytoekcefhphcjjaa
open Go.RowKit

theorem isWide_yes (n : Int) (w : World) (h1 : -1000000000000 ≤ n) (h2 : n ≤ 1000000000000) :
    Calls Try.prog 84 #[.int .i64 n] w fun e w' => e = .returned (.bool true) ∧ w = w' := by
  go_enter Try.func84, Try.ntmps84
  go_wp2
  go_ret
  exact ⟨rfl, rfl⟩
theorem isWide_no (n : Int) (w : World) (h : n < -1000000000000 ∨ 1000000000000 < n) :
    Calls Try.prog 84 #[.int .i64 n] w fun e w' => e = .returned (.bool false) ∧ w = w' := by
  rcases h with h | h
  · have hd : decide (-1000000000000 ≤ n) = false := by simp; omega
    go_enter Try.func84, Try.ntmps84
    go_wp2
    go_ret
    exact ⟨rfl, rfl⟩
  · have hd1 : decide (-1000000000000 ≤ n) = true := by simp; omega
    have hd : decide (n ≤ 1000000000000) = false := by simp; omega
    go_enter Try.func84, Try.ntmps84
    go_wp2
    go_ret
    exact ⟨rfl, rfl⟩
theorem isWide_any (n : Int) (w : World) :
    Calls Try.prog 84 #[.int .i64 n] w fun e w' => e = .returned (.bool (wideB n)) ∧ w = w' := by
  cases h : wideB n
  · exact isWide_no n w (wideB_false h)
  · exact isWide_yes n w (wideB_true h).1 (wideB_true h).2
theorem divide_walk (a b q r q' r' : Int) (w : World) (hq : IntKind.i64.wrap (a.tdiv b) = q) (hr : a.tmod b = r) (h5 : ¬ b = 0)
    (q1 : -1000000000000000000 ≤ q) (q2 : q ≤ 1000000000000000000) (r1 : -1000000000000 < r) (r2 : r < 1000000000000) (h3 : -1000000000000 ≤ b) (h4 : b ≤ 1000000000000)
    (hc : (r = 0 ∨ (r < 0 ∧ b < 0) ∨ (0 < r ∧ 0 < b)) ∧ q = q' ∧ r = r' ∨ ((r < 0 ∧ 0 < b) ∨ (0 < r ∧ b < 0)) ∧ q - 1 = q' ∧ r + b = r') :
    Calls Try.prog 85 #[.int .i64 a, .int .i64 b] w fun e w' => e = .returned (.agg #[.int .i64 q', .int .i64 r']) ∧ Below w.heap.size w w' := by
  rcases hc with ⟨h | ⟨ha, hb⟩ | ⟨ha, hb⟩, e1, e2⟩ | ⟨⟨ha, hb⟩ | ⟨ha, hb⟩, e1, e2⟩
  · subst h e1 e2
    go_enter Try.func85, Try.ntmps85
    go_wp2
    go_region
    all_goals go_wp2
    exact bodyPost_ret (v := .agg #[.int .i64 _, .int .i64 _]) (by simp [results, Try.results85, go_sem]) rfl ⟨rfl, by repeat (first | exact Below.refl _ _ | assumption | apply Below.drew | refine Below.setCell ?_ (by first | omega | (simp; done) | (simp; omega)) _ | refine Below.alloc ?_ (by first | omega | (simp; done) | (simp; omega)) _ | refine Below.call (by assumption) ?_ (by first | omega | (simp; done) | (simp; omega)))⟩
  · subst e1 e2
    have d1 : (r != 0) = true := by rw [bne_iff_ne]; omega
    have d2 : decide (r < 0) = true := by simp; omega
    have d3 : decide (b < 0) = true := by simp; omega
    go_enter Try.func85, Try.ntmps85
    go_wp2
    go_region
    all_goals go_wp2
    exact bodyPost_ret (v := .agg #[.int .i64 _, .int .i64 _]) (by simp [results, Try.results85, go_sem]) rfl ⟨rfl, by repeat (first | exact Below.refl _ _ | assumption | apply Below.drew | refine Below.setCell ?_ (by first | omega | (simp; done) | (simp; omega)) _ | refine Below.alloc ?_ (by first | omega | (simp; done) | (simp; omega)) _ | refine Below.call (by assumption) ?_ (by first | omega | (simp; done) | (simp; omega)))⟩
  · subst e1 e2
    have d1 : (r != 0) = true := by rw [bne_iff_ne]; omega
    have d2 : decide (r < 0) = false := by simp; omega
    have d3 : decide (b < 0) = false := by simp; omega
    go_enter Try.func85, Try.ntmps85
    go_wp2
    go_region
    all_goals go_wp2
    exact bodyPost_ret (v := .agg #[.int .i64 _, .int .i64 _]) (by simp [results, Try.results85, go_sem]) rfl ⟨rfl, by repeat (first | exact Below.refl _ _ | assumption | apply Below.drew | refine Below.setCell ?_ (by first | omega | (simp; done) | (simp; omega)) _ | refine Below.alloc ?_ (by first | omega | (simp; done) | (simp; omega)) _ | refine Below.call (by assumption) ?_ (by first | omega | (simp; done) | (simp; omega)))⟩
  · subst e1 e2
    have d1 : (r != 0) = true := by rw [bne_iff_ne]; omega
    have d2 : decide (r < 0) = true := by simp; omega
    have d3 : decide (b < 0) = false := by simp; omega
    go_enter Try.func85, Try.ntmps85
    go_wp2
    go_region
    all_goals go_wp2
    exact bodyPost_ret (v := .agg #[.int .i64 _, .int .i64 _]) (by simp [results, Try.results85, go_sem]) rfl ⟨rfl, by repeat (first | exact Below.refl _ _ | assumption | apply Below.drew | refine Below.setCell ?_ (by first | omega | (simp; done) | (simp; omega)) _ | refine Below.alloc ?_ (by first | omega | (simp; done) | (simp; omega)) _ | refine Below.call (by assumption) ?_ (by first | omega | (simp; done) | (simp; omega)))⟩
  · subst e1 e2
    have d1 : (r != 0) = true := by rw [bne_iff_ne]; omega
    have d2 : decide (r < 0) = false := by simp; omega
    have d3 : decide (b < 0) = true := by simp; omega
    go_enter Try.func85, Try.ntmps85
    go_wp2
    go_region
    all_goals go_wp2
    exact bodyPost_ret (v := .agg #[.int .i64 _, .int .i64 _]) (by simp [results, Try.results85, go_sem]) rfl ⟨rfl, by repeat (first | exact Below.refl _ _ | assumption | apply Below.drew | refine Below.setCell ?_ (by first | omega | (simp; done) | (simp; omega)) _ | refine Below.alloc ?_ (by first | omega | (simp; done) | (simp; omega)) _ | refine Below.call (by assumption) ?_ (by first | omega | (simp; done) | (simp; omega)))⟩
end Go.Proofs.Ytoekcefhphcjjaa

namespace Go.Proofs.Ytoekcefhphcjjaa
open Go.RowKit

theorem divide_any (a b : Int) (w : World) (h1 : -1000000000000000000 ≤ a) (h2 : a ≤ 1000000000000000000) (h3 : -1000000000000 ≤ b) (h4 : b ≤ 1000000000000) (h5 : ¬ b = 0) :
    Calls Try.prog 85 #[.int .i64 a, .int .i64 b] w fun e w' => e = .returned (.agg #[.int .i64 (a.fdiv b), .int .i64 (a.fmod b)]) ∧ Below w.heap.size w w' := by
  have d := tdiv_bd a b h1 h2
  have m := tmod_bd a b h3 h4 h5
  exact divide_walk a b _ _ _ _ w (IntWalk.i64_in _ (by omega)) rfl h5 d.1 d.2 m.1 m.2 h3 h4 (fdiv_cases a b h5)

theorem up_any (q r : Int) (w : World) (h1 : -1000000000000000001 ≤ q) (h2 : q ≤ 1000000000000000000) :
    Calls Try.prog 75 #[.agg #[.int .i64 q, .int .i64 r]] w fun e w' => e = .returned (.int .i64 (upV q r)) ∧ w.alloc (.cells #[.int .i64 q, .int .i64 r] 115) = w' := by
  by_cases hr : r = 0
  · subst hr
    have ev : upV q 0 = q := rfl
    rw [ev]
    go_enter Try.func75, Try.ntmps75
    go_wp2
    go_ret
    exact ⟨rfl, rfl⟩
  · have d1 : (r == 0) = false := by simp [hr]
    have ev : upV q r = q + 1 := by simp [upV, hr]
    rw [ev]; clear ev
    go_enter Try.func75, Try.ntmps75
    go_wp2
    go_ret
    exact ⟨rfl, rfl⟩

/-- what Floor and Ceil find wrong -/
def badQ (a b : Int) : Bool := !wideB a || !wideB b || decide (b = 0)
theorem badQ_false {a b : Int} (h : badQ a b = false) : wideB a = true ∧ wideB b = true ∧ (b == 0) = false := by
  simp [badQ] at h; simp [h]
theorem badQ_true {a b : Int} (h : badQ a b = true) : wideB a = false ∨ wideB a = true ∧ (wideB b = false ∨ wideB b = true ∧ (b == 0) = true) := by
  cases h1 : wideB a <;> cases h2 : wideB b <;> simp [badQ, h1, h2] at h ⊢
  exact h
def ceilV (a b : Int) : Int := if badQ a b = true then 0 else cdiv a b
def quoE (a b : Int) : Int := if badQ a b = true then 1 else 0

theorem checked_bad (a b : Int) (f : Value) (w : World) (h : badQ a b = true) :
    Calls Try.prog 74 #[.int .i64 a, .int .i64 b, f] w fun e w' => e = .returned (.tuple #[.int .i64 0, .int .i64 1]) ∧ w = w' := by
  rcases badQ_true h with ha | ⟨ha, hb | ⟨hb, hc⟩⟩
  all_goals
    clear h
    go_enter Try.func74, Try.ntmps74
    go_wp2_with (go_at_call 84; refine (isWide_any _ _).mono ?_; rintro e w' ⟨rfl, rfl⟩)
    go_ret2
    exact ⟨rfl, rfl⟩


theorem ceil_any (a b : Int) (w : World) :
    Calls Try.prog 66 #[.int .i64 a, .int .i64 b] w fun e w' => e = .returned (.tuple #[.int .i64 (ceilV a b), .int .i64 (quoE a b)]) ∧ Below w.heap.size w w' := by
  cases h : badQ a b
  · have ev : ceilV a b = upV (a.fdiv b) (a.fmod b) := by simp [ceilV, cdiv, h]
    have ee : quoE a b = 0 := by simp [quoE, h]
    rw [ev, ee]; clear ev ee
    obtain ⟨ha, hb, hc⟩ := badQ_false h
    clear h
    have ba := wideB_true ha
    have bb := wideB_true hb
    have hc' : ¬ b = 0 := by simpa using hc
    have fb := fdiv_bd a b (by omega) (by omega) hc'
    go_enter Try.func66, Try.ntmps66
    go_wp2_with (first | (go_at_call 84; refine (isWide_any _ _).mono ?_; rintro e w' ⟨rfl, rfl⟩) | (go_at_call 85; refine (divide_any _ _ _ (by omega) (by omega) (by omega) (by omega) hc').mono ?_; rintro e w1 ⟨rfl, hb1⟩; have hz1 := hb1.size; try simp at hz1) | (go_at_call 75; refine (up_any _ _ _ (by omega) (by omega)).mono ?_; rintro e w' ⟨rfl, rfl⟩) | go_in)
    go_ret2
    exact ⟨rfl, by repeat (first | exact Below.refl _ _ | assumption | apply Below.drew | refine Below.setCell ?_ (by first | omega | (simp; done) | (simp; omega)) _ | refine Below.alloc ?_ (by first | omega | (simp; done) | (simp; omega)) _ | refine Below.call (by assumption) ?_ (by first | omega | (simp; done) | (simp; omega)))⟩
  · have ev : ceilV a b = 0 := by simp [ceilV, h]
    have ee : quoE a b = 1 := by simp [quoE, h]
    rw [ev, ee]; clear ev ee
    go_enter Try.func66, Try.ntmps66
    go_wp2_with (go_at_call 74; refine (checked_bad _ _ _ _ h).mono ?_; rintro e w' ⟨rfl, rfl⟩)
    go_ret2
    exact ⟨rfl, Below.refl _ _⟩


end Go.Proofs.Ytoekcefhphcjjaa

namespace Go.Proofs.Ytoekcefhphcjjaa
open Go.RowKit



/-- the root's recursive closure; nb: the block of n, fb: the block of the closure's own variable -/
theorem between_any (k : Nat) : ∀ (lo hi : Int) (n : Int) (an af : Addr) (w : World),
    w.cell? an = some (.int .i64 n) → w.cell? af = some (.func (.func 65) #[] #[.pointer (some an), .pointer (some af)]) →
    0 ≤ lo → hi ≤ 1000000001 → lo < hi → hi - lo ≤ k → lo * lo ≤ n → n < hi * hi →
    Calls Try.prog 65 #[.int .i64 lo, .int .i64 hi, .pointer (some an), .pointer (some af)] w fun e w' => e = .returned (.int .i64 (isqrt n.toNat)) ∧ w = w' := by
  induction k with
  | zero => intro lo hi n an af w _ _ _ _ _ h5; omega
  | succ k ih =>
    intro lo hi n an af w c1 c2 h1 h2 h3 h4 h5 h6
    have IH := Lib.hid ih
    clear ih
    by_cases h : hi - lo = 1
    · have hr : isqrt n.toNat = lo.toNat := by
        obtain rfl : hi = lo + 1 := by omega
        have hn : 0 ≤ n := by have := Int.mul_nonneg h1 h1; omega
        apply isqrt_unique
        · have : ((lo.toNat * lo.toNat : Nat) : Int) ≤ (n.toNat : Int) := by
            rw [Int.natCast_mul, Int.toNat_of_nonneg h1, Int.toNat_of_nonneg hn]; exact h5
          exact Int.ofNat_le.1 this
        · have : (n.toNat : Int) < (((lo.toNat + 1) * (lo.toNat + 1) : Nat) : Int) := by
            rw [Int.natCast_mul, Int.natCast_add, Int.toNat_of_nonneg h1, Int.toNat_of_nonneg hn]; exact h6
          exact Int.ofNat_lt.1 this
      have hd : (hi - lo == 1) = true := by simp [h]
      have e1 : ((isqrt n.toNat : Nat) : Int) = lo := by omega
      rw [e1]
      clear e1 hr h5 h6 h
      go_enter Try.func65, Try.ntmps65
      go_wp2
      go_ret
      exact ⟨rfl, rfl⟩
    · have hd : (hi - lo == 1) = false := by simp [h]
      obtain ⟨m, hm⟩ : ∃ m, lo + (hi - lo) / 2 = m := ⟨_, rfl⟩
      have m1 : lo < m := by omega
      have m2 : m < hi := by omega
      have q1 : 0 ≤ m * m := Int.mul_nonneg (by omega) (by omega)
      have q2 : m * m ≤ 1000000001000000001 := by
        have x := Int.mul_le_mul (show m ≤ 1000000000 by omega) (show m ≤ 1000000000 by omega) (by omega) (by omega)
        omega
      have hw : IntKind.i64.wrap (m * m) = m * m := IntWalk.i64_in _ (by omega)
      have H5 := Lib.hid h5
      have H6 := Lib.hid h6
      clear h h5 h6
      by_cases hc : n < m * m
      · have hcd : decide (n < m * m) = true := by simp [hc]
        have HC := Lib.hid hc
        clear hc
        go_enter Try.func65, Try.ntmps65
        go_wp2_with fail
        refine (IH.out _ _ _ _ _ _ c1 c2 h1 (by omega) m1 (by omega) H5.out HC.out).mono ?_
        rintro e w' ⟨rfl, rfl⟩
        go_wp2
        go_ret
        exact ⟨rfl, rfl⟩
      · have hcd : decide (n < m * m) = false := by simpa using hc
        have HC := Lib.hid (show m * m ≤ n by omega)
        clear hc
        go_enter Try.func65, Try.ntmps65
        go_wp2_with fail
        refine (IH.out _ _ _ _ _ _ c1 c2 (by omega) h2 m2 (by omega) HC.out H6.out).mono ?_
        rintro e w' ⟨rfl, rfl⟩
        go_wp2
        go_ret
        exact ⟨rfl, rfl⟩

def badN (n : Int) : Bool := decide (n < 0) || decide (1000000000000000000 < n)
def rootV (n : Int) : Int := if badN n = true then 0 else isqrt n.toNat
def rootE (n : Int) : Int := if badN n = true then 1 else 0

theorem root_any (n : Int) (w : World) :
    Calls Try.prog 52 #[.int .i64 n] w fun e w' => e = .returned (.tuple #[.int .i64 (rootV n), .int .i64 (rootE n)]) ∧ Below w.heap.size w w' := by
  cases h : badN n
  · have e1 : rootV n = isqrt n.toNat := by simp [rootV, h]
    have e2 : rootE n = 0 := by simp [rootE, h]
    rw [e1, e2]; clear e1 e2
    have h' : 0 ≤ n ∧ n ≤ 1000000000000000000 := by simp [badN] at h; omega
    clear h
    obtain ⟨h1, h2⟩ := h'
    have d1 : decide (n < 0) = false := by simp; omega
    have d2 : decide (1000000000000000000 < n) = false := by simp; omega
    go_enter Try.func52, Try.ntmps52
    go_wp2_with (first | (go_at_call 65; refine (between_any 1000000001 _ _ n ⟨w.heap.size, 0, none⟩ ⟨w.heap.size + 1, 0, none⟩ _ (by simp) (by simp) (by omega) (by omega) (by omega) (by omega) (by omega) (by omega)).mono ?_; rintro e w' ⟨rfl, rfl⟩))
    go_ret2
    exact ⟨rfl, by repeat (first | exact Below.refl _ _ | assumption | apply Below.drew | refine Below.setCell ?_ (by first | omega | (simp; done) | (simp; omega)) _ | refine Below.alloc ?_ (by first | omega | (simp; done) | (simp; omega)) _ | refine Below.call (by assumption) ?_ (by first | omega | (simp; done) | (simp; omega)))⟩
  · have e1 : rootV n = 0 := by simp [rootV, h]
    have e2 : rootE n = 1 := by simp [rootE, h]
    rw [e1, e2]; clear e1 e2
    have h' : n < 0 ∨ 0 ≤ n ∧ 1000000000000000000 < n := by simp [badN] at h; omega
    clear h
    rcases h' with h1 | ⟨h1, h2⟩
    all_goals
      go_enter Try.func52, Try.ntmps52
      go_wp2
      go_ret2
      exact ⟨rfl, by repeat (first | exact Below.refl _ _ | assumption | apply Below.drew | refine Below.setCell ?_ (by first | omega | (simp; done) | (simp; omega)) _ | refine Below.alloc ?_ (by first | omega | (simp; done) | (simp; omega)) _ | refine Below.call (by assumption) ?_ (by first | omega | (simp; done) | (simp; omega)))⟩
end Go.Proofs.Ytoekcefhphcjjaa

namespace Go.Proofs.Ytoekcefhphcjjaa
open Go.RowKit

def inB (n lo hi : Int) : Bool := decide (lo ≤ n ∧ n ≤ hi)
theorem inB_true {n lo hi : Int} (h : inB n lo hi = true) : lo ≤ n ∧ n ≤ hi := by simpa [inB] using h
theorem inB_false {n lo hi : Int} (h : inB n lo hi = false) : n < lo ∨ lo ≤ n ∧ hi < n := by
  have : ¬ (lo ≤ n ∧ n ≤ hi) := by simpa [inB] using h
  omega



end Go.Proofs.Ytoekcefhphcjjaa

namespace Go.Proofs.Ytoekcefhphcjjaa
open Go.RowKit






end Go.Proofs.Ytoekcefhphcjjaa

namespace Go.Proofs.Ytoekcefhphcjjaa
open Go.RowKit




end Go.Proofs.Ytoekcefhphcjjaa

namespace Go.Proofs.Ytoekcefhphcjjaa
open Go.RowKit

structure Wy where
  x : Int
  y : Int
  fix : Int
  wait : Int
  back : Int
deriving DecidableEq

structure Msn where
  ways : List Wy
  home : List Pt
  start : Int
  rocks : List (List Pt)
  speed : Int
  part : Int
  flow : Int
  idle : Int
  drive : Int
  battery : Int
  deadline : Int

/-- way i of a list -/
def wy (l : List Wy) (i : Nat) : Wy := l.getD i ⟨0, 0, 0, 0, 0⟩
/-- rock i of a list -/
def rk (l : List (List Pt)) (i : Nat) : List Pt := l.getD i []

/-- the value of a way -/
def wyVal (a : Wy) : Value := .agg #[.int .i64 a.x, .int .i64 a.y, .int .i64 a.fix, .int .i64 a.wait, .int .i64 a.back]

/-- A slice value reads as a list of ways. -/
def WaysAt (n0 : Nat) (W : World) (v : Value) (l : List Wy) : Prop :=
  l.length ≤ 70368744177663 ∧ ∃ a cap, v = .slice a l.length (l.length + cap) ∧ (l = [] ∨ ∃ b o, a = some ⟨b, o, none⟩ ∧ b < n0 ∧
    ∀ j, j < l.length → W.cell? ⟨b, o + j * 5, none⟩ = some (.int .i64 (wy l j).x) ∧ W.cell? ⟨b, o + j * 5 + 1, none⟩ = some (.int .i64 (wy l j).y) ∧
      W.cell? ⟨b, o + j * 5 + 2, none⟩ = some (.int .i64 (wy l j).fix) ∧ W.cell? ⟨b, o + j * 5 + 3, none⟩ = some (.int .i64 (wy l j).wait) ∧ W.cell? ⟨b, o + j * 5 + 4, none⟩ = some (.int .i64 (wy l j).back))

theorem WaysAt.below {n0 : Nat} {A B : World} (h : Below n0 A B) {v : Value} {l : List Wy} (hp : WaysAt n0 A v l) : WaysAt n0 B v l := by
  obtain ⟨hl, a, cap, e, hc⟩ := hp
  refine ⟨hl, a, cap, e, hc.imp id ?_⟩
  rintro ⟨b, o, e1, hb, hc⟩
  refine ⟨b, o, e1, hb, fun j hj => ?_⟩
  obtain ⟨c0, c1, c2, c3, c4⟩ := hc j hj
  exact ⟨(h.cell (p := ⟨b, o + j * 5, none⟩) hb).trans c0, (h.cell (p := ⟨b, o + j * 5 + 1, none⟩) hb).trans c1, (h.cell (p := ⟨b, o + j * 5 + 2, none⟩) hb).trans c2,
    (h.cell (p := ⟨b, o + j * 5 + 3, none⟩) hb).trans c3, (h.cell (p := ⟨b, o + j * 5 + 4, none⟩) hb).trans c4⟩
theorem WaysAt.mono {n0 n1 : Nat} {W : World} {v : Value} {l : List Wy} (hp : WaysAt n0 W v l) (h : n0 ≤ n1) : WaysAt n1 W v l := by
  obtain ⟨hl, a, cap, e, hc⟩ := hp
  refine ⟨hl, a, cap, e, hc.imp id ?_⟩
  rintro ⟨b, o, e1, hb, hc⟩
  exact ⟨b, o, e1, by omega, hc⟩

/-- A slice value reads as a list of polygons. -/
def RocksAt (n0 : Nat) (W : World) (v : Value) (l : List (List Pt)) : Prop :=
  l.length ≤ 70368744177663 ∧ ∃ a cap, v = .slice a l.length (l.length + cap) ∧ (l = [] ∨ ∃ b o, a = some ⟨b, o, none⟩ ∧ b < n0 ∧
    ∀ j, j < l.length → ∃ u, W.cell? ⟨b, o + j, none⟩ = some u ∧ PtsAt n0 W u (rk l j))

theorem RocksAt.below {n0 : Nat} {A B : World} (h : Below n0 A B) {v : Value} {l : List (List Pt)} (hp : RocksAt n0 A v l) : RocksAt n0 B v l := by
  obtain ⟨hl, a, cap, e, hc⟩ := hp
  refine ⟨hl, a, cap, e, hc.imp id ?_⟩
  rintro ⟨b, o, e1, hb, hc⟩
  refine ⟨b, o, e1, hb, fun j hj => ?_⟩
  obtain ⟨u, hu, hpu⟩ := hc j hj
  exact ⟨u, (h.cell (p := ⟨b, o + j, none⟩) hb).trans hu, hpu.below h⟩
theorem RocksAt.mono {n0 n1 : Nat} {W : World} {v : Value} {l : List (List Pt)} (hp : RocksAt n0 W v l) (h : n0 ≤ n1) : RocksAt n1 W v l := by
  obtain ⟨hl, a, cap, e, hc⟩ := hp
  refine ⟨hl, a, cap, e, hc.imp id ?_⟩
  rintro ⟨b, o, e1, hb, hc⟩
  refine ⟨b, o, e1, by omega, fun j hj => ?_⟩
  obtain ⟨u, hu, hpu⟩ := hc j hj
  exact ⟨u, hu, hpu.mono h⟩

/-- the cells of a mission, from its three slices -/
def msnCells (m : Msn) (vw vh vr : Value) : Array Value :=
  #[vw, vh, .int .i64 m.start, vr, .int .i64 m.speed, .int .i64 m.part, .int .i64 m.flow, .int .i64 m.idle, .int .i64 m.drive, .int .i64 m.battery, .int .i64 m.deadline]

/-- A mission's slices lie in memory. -/
def MsnAt (n0 : Nat) (W : World) (m : Msn) (vw vh vr : Value) : Prop := WaysAt n0 W vw m.ways ∧ PtsAt n0 W vh m.home ∧ RocksAt n0 W vr m.rocks
theorem MsnAt.below {n0 : Nat} {A B : World} (h : Below n0 A B) {m : Msn} {vw vh vr : Value} (hp : MsnAt n0 A m vw vh vr) : MsnAt n0 B m vw vh vr :=
  ⟨hp.1.below h, hp.2.1.below h, hp.2.2.below h⟩
theorem MsnAt.mono {n0 n1 : Nat} {W : World} {m : Msn} {vw vh vr : Value} (hp : MsnAt n0 W m vw vh vr) (h : n0 ≤ n1) : MsnAt n1 W m vw vh vr :=
  ⟨hp.1.mono h, hp.2.1.mono h, hp.2.2.mono h⟩

/-- a way is well-formed -/
def wayB (k : Nat) (a : Wy) : Bool := decide (-300000 ≤ a.x ∧ a.x ≤ 300000 ∧ -300000 ≤ a.y ∧ a.y ≤ 300000 ∧ 0 ≤ a.fix ∧ a.fix ≤ 100000 ∧ 0 ≤ a.wait ∧ a.wait ≤ 100000 ∧ (0 < a.fix ∨ a.wait = 0) ∧ 0 ≤ a.back ∧ a.back ≤ ((k - 1 : Nat) : Int))
theorem wayB_true {k : Nat} {a : Wy} (h : wayB k a = true) : -300000 ≤ a.x ∧ a.x ≤ 300000 ∧ -300000 ≤ a.y ∧ a.y ≤ 300000 ∧ 0 ≤ a.fix ∧ a.fix ≤ 100000 ∧ 0 ≤ a.wait ∧ a.wait ≤ 100000 ∧ (0 < a.fix ∨ a.wait = 0) ∧ 0 ≤ a.back ∧ a.back ≤ ((k - 1 : Nat) : Int) := by
  simpa [wayB] using h
end Go.Proofs.Ytoekcefhphcjjaa
