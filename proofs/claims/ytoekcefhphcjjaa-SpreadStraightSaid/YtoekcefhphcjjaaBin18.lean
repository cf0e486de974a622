/- package rocks: First, Hit. | Plain: what Has, Common, First and Hit say of one another. | Plain geometry: polygons that have a point in common touch; those that touch have one. No program here. | landfallref03's least and next; landfallref04's least. (Printed by tools/mknext.py.) | Plain geometry: the disk with eight corners; the points of a hull. No program here. | landfallref03's Around: the hull of points. | landfallref33's Few, polygons and Rocks; the laws' usable. | The head of the laws on package rocks: its example. | Plain: what the first rock that is hit says. Slices of rocks. | Plain: what cut.Apart reports, in words of geometry. | Plain: polygons that are moved as a whole. | landfallref04's Crossings. (Printed by tools/mkrcross.py.) -/
import Derived.WalkMore
import Derived.Test.YtoekcefhphcjjaaBin16
import Derived.Test.YtoekcefhphcjjaaBin17
import Derived.Test.YtoekcefhphcjjaaBin07
import Derived.Test.YtoekcefhphcjjaaBin03
import Derived.Test.YtoekcefhphcjjaaBin10
import Derived.Test.YtoekcefhphcjjaaBin00
import Derived.Test.YtoekcefhphcjjaaBin13
import Derived.Deep.CutRange
import Derived.Test.YtoekcefhphcjjaaBin15
namespace Go.Proofs.Ytoekcefhphcjjaa
open Go.RowKit
attribute [local irreducible] wpQuiet

/-- the first of the first k rocks that touches a corridor -/
noncomputable def hitTo (c : List Pt) (ls : List (List Pt)) : Nat → Option Nat
  | 0 => none
  | k + 1 => if (hitTo c ls k).isSome = true then hitTo c ls k else if touchB c (rk ls k) = true then some k else none



end Go.Proofs.Ytoekcefhphcjjaa

namespace Go.Proofs.Ytoekcefhphcjjaa

theorem goValid_true {l : List Pt} (h : goValid l = true) : GoValid l := by simpa [goValid] using h

theorem loTo_le (f : Pt → Int) (l : List Pt) : ∀ k, (∀ j, j < k → loTo f l k ≤ f (nth l j)) ∧ loTo f l k ≤ f (nth l 0)
  | 0 => ⟨fun j h => by omega, Int.le_refl _⟩
  | k + 1 => by
    have ih := loTo_le f l k
    simp only [loTo]
    constructor
    · intro j hj
      by_cases e : j = k
      · subst e; split <;> omega
      · have := ih.1 j (by omega); split <;> omega
    · have := ih.2; split <;> omega
theorem hiTo_ge (f : Pt → Int) (l : List Pt) : ∀ k, (∀ j, j < k → f (nth l j) ≤ hiTo f l k) ∧ f (nth l 0) ≤ hiTo f l k
  | 0 => ⟨fun j h => by omega, Int.le_refl _⟩
  | k + 1 => by
    have ih := hiTo_ge f l k
    simp only [hiTo]
    constructor
    · intro j hj
      by_cases e : j = k
      · subst e; split <;> omega
      · have := ih.1 j (by omega); split <;> omega
    · have := ih.2; split <;> omega

end Go.Proofs.Ytoekcefhphcjjaa

namespace Go.Proofs.Ytoekcefhphcjjaa

/-- a polygon has the point (X / W, Y / W) -/
def InH (l : List Pt) (X Y W : Int) : Prop :=
  if l.length < 3 then SegH (nth l 0) (nth l (l.length - 1)) X Y W else ∀ i, i < l.length → 0 ≤ hturn (sideP l i).1 (sideP l i).2 X Y W

theorem boxL_le {l : List Pt} {k : Nat} (hk : k < l.length) : (boxL l).x ≤ (nth l k).x ∧ (boxL l).y ≤ (nth l k).y := ⟨(loTo_le bxF1 l l.length).1 k hk, (loTo_le bxF2 l l.length).1 k hk⟩
theorem boxH_ge {l : List Pt} {k : Nat} (hk : k < l.length) : (nth l k).x ≤ (boxH l).x ∧ (nth l k).y ≤ (boxH l).y := ⟨(hiTo_ge bxF1 l l.length).1 k hk, (hiTo_ge bxF2 l l.length).1 k hk⟩
theorem loTo_two (f : Pt → Int) (l : List Pt) : ∀ k, (∃ j, (j < k ∨ j = 0) ∧ loTo f l k = f (nth l j))
  | 0 => ⟨0, .inr rfl, rfl⟩
  | k + 1 => by
    obtain ⟨j, hj, e⟩ := loTo_two f l k
    simp only [loTo]
    by_cases h : f (nth l k) < loTo f l k
    · exact ⟨k, .inl (by omega), by split <;> omega⟩
    · exact ⟨j, by omega, by split <;> omega⟩
theorem hiTo_two (f : Pt → Int) (l : List Pt) : ∀ k, (∃ j, (j < k ∨ j = 0) ∧ hiTo f l k = f (nth l j))
  | 0 => ⟨0, .inr rfl, rfl⟩
  | k + 1 => by
    obtain ⟨j, hj, e⟩ := hiTo_two f l k
    simp only [hiTo]
    by_cases h : hiTo f l k < f (nth l k)
    · exact ⟨k, .inl (by omega), by split <;> omega⟩
    · exact ⟨j, by omega, by split <;> omega⟩

/-- a linear number on a segment -/
theorem SegH.turn {a b : Pt} {X Y W K s t : Int} (e1 : K * X = s * a.x + t * b.x) (e2 : K * Y = s * a.y + t * b.y) (e3 : K * W = s + t) (u v : Pt) : K * hturn u v X Y W = s * turnP u v a + t * turnP u v b := by
  rw [← hturn_scale, e1, e2, e3]
  unfold hturn turnP turnV; grind
theorem mul_nn_cancel {K a : Int} (hK : 0 < K) (h : 0 ≤ K * a) : 0 ≤ a := by
  rcases Int.lt_or_le a 0 with h' | h'
  · have := Int.mul_neg_of_pos_of_neg hK h'; omega
  · exact h'

/-- in a polygon of one corner or two: ordered ends -/
def Ord (a b : Pt) : Prop := a = b ∨ a.x < b.x ∨ a.x = b.x ∧ a.y < b.y
theorem GoValid.ord {l : List Pt} (h : GoValid l) (h3 : l.length < 3) : Ord (nth l 0) (nth l (l.length - 1)) := by
  by_cases e : l.length = 1
  · left; rw [e]
  · have h1 := h.1
    have e2 : l.length = 2 := by omega
    have := (h.2.2.1 1 (by omega)).2 (by omega)
    rw [e2]
    unfold cmpP at this
    rw [cmpV_lt_iff] at this
    exact .inr this
theorem seg_of_box {a b x : Pt} (ho : Ord a b) (ht : turnP a b x = 0) (h1 : (if b.x < a.x then b.x else a.x) ≤ x.x) (h2 : x.x ≤ (if a.x < b.x then b.x else a.x)) (h3 : (if b.y < a.y then b.y else a.y) ≤ x.y) (h4 : x.y ≤ (if a.y < b.y then b.y else a.y)) : SegH a b x.x x.y 1 := by
  rcases ho with rfl | h | ⟨h, h'⟩
  · simp only [Int.lt_irrefl, if_false] at h1 h2 h3 h4
    exact ⟨1, 1, 0, by omega, by omega, by omega, by omega, by omega, by omega⟩
  · rw [if_neg (by omega)] at h1
    rw [if_pos h] at h2
    refine ⟨b.x - a.x, b.x - x.x, x.x - a.x, by omega, by omega, by omega, by grind, ?_, by omega⟩
    unfold turnP turnV at ht; grind
  · have hx : x.x = a.x := by rw [h, if_neg (by omega)] at h1 h2; omega
    rw [if_neg (by omega)] at h3
    rw [if_pos h'] at h4
    refine ⟨b.y - a.y, b.y - x.y, x.y - a.y, by omega, by omega, by omega, ?_, by grind, by omega⟩
    rw [hx, h]; grind
/-- what hull.Has has, in homogeneous words -/
theorem inH_of_inside {l : List Pt} (hl : GoValid l) {x : Pt} (h : inside l x = true) : InH l x.x x.y 1 := by
  unfold inside at h
  unfold InH
  by_cases h3 : l.length < 3
  · rw [if_pos h3] at h ⊢
    rw [decide_eq_true_eq] at h
    obtain ⟨ht, b1, b2, b3, b4⟩ := h
    have l1 := hl.1
    have two : ∀ j, (j < l.length ∨ j = 0) → nth l j = nth l 0 ∨ nth l j = nth l (l.length - 1) := fun j hj => by
      rcases (show j = 0 ∨ j = l.length - 1 by omega) with rfl | rfl
      · exact .inl rfl
      · exact .inr rfl
    refine seg_of_box (hl.ord h3) ht ?_ ?_ ?_ ?_
    · obtain ⟨j, hj, e⟩ := loTo_two bxF1 l l.length
      have e' : (boxL l).x = (nth l j).x := e
      rcases two j hj with q | q <;> rw [q] at e' <;> split <;> omega
    · obtain ⟨j, hj, e⟩ := hiTo_two bxF1 l l.length
      have e' : (boxH l).x = (nth l j).x := e
      rcases two j hj with q | q <;> rw [q] at e' <;> split <;> omega
    · obtain ⟨j, hj, e⟩ := loTo_two bxF2 l l.length
      have e' : (boxL l).y = (nth l j).y := e
      rcases two j hj with q | q <;> rw [q] at e' <;> split <;> omega
    · obtain ⟨j, hj, e⟩ := hiTo_two bxF2 l l.length
      have e' : (boxH l).y = (nth l j).y := e
      rcases two j hj with q | q <;> rw [q] at e' <;> split <;> omega
  · rw [if_neg h3] at h ⊢
    rw [decide_eq_true_eq] at h
    exact fun i hi => by rw [hturn_one]; exact h i hi
theorem inside_of_inH {l : List Pt} (h1 : 1 ≤ l.length) {x : Pt} (h : InH l x.x x.y 1) : inside l x = true := by
  unfold InH at h
  unfold inside
  by_cases h3 : l.length < 3
  · rw [if_pos h3] at h ⊢
    rw [decide_eq_true_eq]
    obtain ⟨K, s, t, hK, hs, ht, e1, e2, e3⟩ := h
    have tt := SegH.turn e1 e2 e3 (nth l 0) (nth l (l.length - 1))
    rw [hturn_one, hturn_fst, hturn_snd, Int.mul_zero, Int.mul_zero, Int.add_zero] at tt
    have l0 := boxL_le (l := l) (k := 0) (by omega)
    have l1 := boxL_le (l := l) (k := l.length - 1) (by omega)
    have g0 := boxH_ge (l := l) (k := 0) (by omega)
    have g1 := boxH_ge (l := l) (k := l.length - 1) (by omega)
    generalize nth l 0 = a at *
    generalize nth l (l.length - 1) = b at *
    have lo : ∀ c p q r : Int, c ≤ p → c ≤ q → K * r = s * p + t * q → c ≤ r := fun c p q r hp hq e => by
      have m1 := Int.mul_nonneg hs (show 0 ≤ p - c by omega)
      have m2 := Int.mul_nonneg ht (show 0 ≤ q - c by omega)
      have : 0 ≤ r - c := mul_nn_cancel hK (by
        have : K * (r - c) = s * (p - c) + t * (q - c) := by rw [Int.mul_sub, e]; grind
        omega)
      omega
    have hi : ∀ c p q r : Int, p ≤ c → q ≤ c → K * r = s * p + t * q → r ≤ c := fun c p q r hp hq e => by
      have m1 := Int.mul_nonneg hs (show 0 ≤ c - p by omega)
      have m2 := Int.mul_nonneg ht (show 0 ≤ c - q by omega)
      have : 0 ≤ c - r := mul_nn_cancel hK (by
        have : K * (c - r) = s * (c - p) + t * (c - q) := by rw [Int.mul_sub, e]; grind
        omega)
      omega
    refine ⟨?_, lo _ _ _ _ l0.1 l1.1 e1, hi _ _ _ _ g0.1 g1.1 e1, lo _ _ _ _ l0.2 l1.2 e2, hi _ _ _ _ g0.2 g1.2 e2⟩
    rcases Int.mul_eq_zero.1 tt with h | h
    · omega
    · exact h
  · rw [if_neg h3] at h ⊢
    rw [decide_eq_true_eq]
    exact fun i hi => by rw [← hturn_one]; exact h i hi

/-- polygons with three corners or more turn left -/
theorem GoValid.conv {l : List Pt} (h : GoValid l) (h3 : 3 ≤ l.length) : Conv (nth l) l.length := by
  have hd := go_distinct (l := l) (fun k h1 hk => (h.2.2.1 k hk).2 h1) (fun i hi k hk a b => h.2.2.2 h3 i hi k hk a b)
  have ne : ∀ i k, i < l.length → k < l.length → i ≠ k → nth l i ≠ nth l k := by
    intro i k hi hk hne e
    rcases Nat.lt_or_gt_of_ne hne with h' | h'
    · exact hd _ i k rfl h' hk e
    · exact hd _ k i rfl h' hi e.symm
  refine ⟨h3, fun i hi k hk e1 e2 => h.2.2.2 h3 i hi k hk (ne _ _ hk hi e1) (ne _ _ hk (nx_lt h3) e2)⟩
/-- if sides of a polygon are not negative at three places with weights, they are not at what these make -/
theorem inH_mix {l : List Pt} {X Y W X1 Y1 W1 X2 Y2 W2 K s t : Int} (hK : 0 < K) (hs : 0 ≤ s) (ht : 0 ≤ t) (e1 : K * X = s * X1 + t * X2) (e2 : K * Y = s * Y1 + t * Y2) (e3 : K * W = s * W1 + t * W2)
    (h1 : InH l X1 Y1 W1) (h2 : InH l X2 Y2 W2) : InH l X Y W := by
  unfold InH at *
  by_cases h3 : l.length < 3
  · rw [if_pos h3] at *
    obtain ⟨k, p, q, k0, p0, q0, a1, a2, a3⟩ := h1
    obtain ⟨k', p', q', k0', p0', q0', b1, b2, b3⟩ := h2
    have n1 := Int.mul_nonneg (Int.mul_nonneg hs (Int.le_of_lt k0')) p0
    have n2 := Int.mul_nonneg (Int.mul_nonneg ht (Int.le_of_lt k0)) p0'
    have n3 := Int.mul_nonneg (Int.mul_nonneg hs (Int.le_of_lt k0')) q0
    have n4 := Int.mul_nonneg (Int.mul_nonneg ht (Int.le_of_lt k0)) q0'
    refine ⟨k * k' * K, s * k' * p + t * k * p', s * k' * q + t * k * q', Int.mul_pos (Int.mul_pos k0 k0') hK, by omega, by omega, ?_, ?_, ?_⟩
    · have : k * k' * K * X = s * k' * (k * X1) + t * k * (k' * X2) := by
        have : k * k' * K * X = k * k' * (K * X) := by grind
        rw [this, e1]; grind
      rw [this, a1, b1]; grind
    · have : k * k' * K * Y = s * k' * (k * Y1) + t * k * (k' * Y2) := by
        have : k * k' * K * Y = k * k' * (K * Y) := by grind
        rw [this, e2]; grind
      rw [this, a2, b2]; grind
    · have : k * k' * K * W = s * k' * (k * W1) + t * k * (k' * W2) := by
        have : k * k' * K * W = k * k' * (K * W) := by grind
        rw [this, e3]; grind
      rw [this, a3, b3]; grind
  · rw [if_neg h3] at *
    intro i hi
    have a := Int.mul_nonneg hs (h1 i hi)
    have b := Int.mul_nonneg ht (h2 i hi)
    refine mul_nn_cancel hK ?_
    rw [← hturn_scale, e1, e2, e3, hturn_lin]
    omega

/-- two sides cross -/
def CrossS (S T : Pt × Pt) : Prop := (crossB (turnP S.1 S.2 T.1) (turnP S.1 S.2 T.2) && crossB (turnP T.1 T.2 S.1) (turnP T.1 T.2 S.2)) = true
theorem CrossS.symm {S T : Pt × Pt} (h : CrossS S T) : CrossS T S := by unfold CrossS at *; rwa [Bool.and_comm]


/-- two polygons have a corner in the other one, or sides that cross -/
def Touch (l m : List Pt) : Prop := (∃ k, k < l.length ∧ inside m (nth l k) = true) ∨ (∃ k, k < m.length ∧ inside l (nth m k) = true) ∨ ∃ i j, i < l.length ∧ j < m.length ∧ CrossS (sideP l i) (sideP m j)
theorem Touch.symm {l m : List Pt} (h : Touch l m) : Touch m l := by
  rcases h with h | h | ⟨i, j, hi, hj, h⟩
  · exact .inr (.inl h)
  · exact .inl h
  · exact .inr (.inr ⟨j, i, hj, hi, h.symm⟩)
end Go.Proofs.Ytoekcefhphcjjaa

namespace Go.Proofs.Ytoekcefhphcjjaa
open Go.RowKit
attribute [local irreducible] wpQuiet


/-- what a round of next sees: from, the result, to, and a point -/
def NS (n b o : Nat) (sx sy tx ty px py : Int) (w W : World) : Prop := b < n ∧ w.heap.size = n ∧ Has W n #[.int .i64 sx, .int .i64 sy] 38 ∧ Has W (n + 1) #[.int .i64 0, .int .i64 0] 38 ∧ Has W (n + 2) #[.int .i64 tx, .int .i64 ty] 38 ∧ Below n w W ∧ W.cell? ⟨b, o, none⟩ = some (.int .i64 px) ∧ W.cell? ⟨b, o + 1, none⟩ = some (.int .i64 py)
theorem NS.below {n b o : Nat} {sx sy tx ty px py : Int} {w W W' : World} (h : NS n b o sx sy tx ty px py w W) (hb : Below W.heap.size W W') : NS n b o sx sy tx ty px py w W' := by
  obtain ⟨h0, hn, h1, h2, h3, h4, h5, h6⟩ := h
  have l3 := h3.lt
  exact ⟨h0, hn, h1.below hb (by omega), h2.below hb (by omega), h3.below hb (by omega), h4.trans (hb.mono (by omega)), (hb.cell (p := ⟨b, o, none⟩) (by show b < _; omega)).trans h5, (hb.cell (p := ⟨b, o + 1, none⟩) (by show b < _; omega)).trans h6⟩




end Go.Proofs.Ytoekcefhphcjjaa

namespace Go.Proofs.Ytoekcefhphcjjaa

/-- the least number whose square is at least twice that of another one -/
def wideN (n : Nat) : Nat := if isqrt (2 * n * n) * isqrt (2 * n * n) = 2 * n * n then isqrt (2 * n * n) else isqrt (2 * n * n) + 1
theorem wideN_spec (n : Nat) : 2 * n * n ≤ wideN n * wideN n ∧ ∀ m, m < wideN n → m * m < 2 * n * n := by
  have h := isqrt_spec (2 * n * n)
  unfold wideN
  generalize isqrt (2 * n * n) = r at *
  generalize 2 * n * n = q at *
  split
  · refine ⟨by omega, fun m hm => ?_⟩
    have := Nat.mul_lt_mul'' hm hm
    omega
  · refine ⟨by omega, fun m hm => ?_⟩
    have := Nat.mul_le_mul (show m ≤ r by omega) (show m ≤ r by omega)
    omega
theorem wideN_le {n m : Nat} (h : 2 * n * n ≤ m * m) : wideN n ≤ m := by
  rcases Nat.lt_or_ge m (wideN n) with h' | h'
  · have := (wideN_spec n).2 m h'; omega
  · exact h'
theorem wideN_ge (n : Nat) : n ≤ wideN n := by
  rcases Nat.lt_or_ge (wideN n) n with h' | h'
  · have := (wideN_spec n).1
    have b := Nat.mul_lt_mul'' h' h'
    rw [Nat.mul_assoc] at this
    omega
  · exact h'
theorem wideN_two (n : Nat) : wideN n ≤ 2 * n := wideN_le (by
  have : 2 * n * (2 * n) = 2 * (2 * n * n) := by grind
  omega)
def octK (n : Nat) : Int := (wideN n : Int) - n
theorem octK_bd (n : Nat) : 0 ≤ octK n ∧ octK n ≤ n := by
  have := wideN_ge n
  have := wideN_two n
  unfold octK; omega
theorem oct_in {P : Int → Int → Int → Prop} (mix : ∀ {X1 Y1 W1 X2 Y2 W2 K s t X Y W : Int}, 0 < K → 0 ≤ s → 0 ≤ t → K * X = s * X1 + t * X2 → K * Y = s * Y1 + t * Y2 → K * W = s * W1 + t * W2 → P X1 Y1 W1 → P X2 Y2 W2 → P X Y W)
    {n k : Int} (h0 : 0 ≤ k) (hn : k ≤ n) (p1 : P n (-k) 1) (p2 : P n k 1) (p3 : P k n 1) (p4 : P (-k) n 1) (p5 : P (-n) k 1) (p6 : P (-n) (-k) 1) (p7 : P (-k) (-n) 1) (p8 : P k (-n) 1)
    {x y : Int} (x1 : -n ≤ x) (x2 : x ≤ n) (y1 : -n ≤ y) (y2 : y ≤ n) (q1 : x + y ≤ n + k) (q2 : x - y ≤ n + k) (q3 : -x + y ≤ n + k) (q4 : -x - y ≤ n + k) : P x y 1 := by
  have ends : ∃ e, 0 ≤ e ∧ -e ≤ x ∧ x ≤ e ∧ P e y 1 ∧ P (-e) y 1 := by
    by_cases c : -k ≤ y ∧ y ≤ k
    · refine ⟨n, by omega, x1, x2, ?_, ?_⟩
      · by_cases z : k = 0
        · subst z; rw [show y = 0 by omega]; exact p2
        · exact mix (K := 2 * k) (s := y + k) (t := k - y) (by omega) (by omega) (by omega) (by grind) (by grind) (by grind) p2 p1
      · by_cases z : k = 0
        · subst z; rw [show y = 0 by omega]; exact p5
        · exact mix (K := 2 * k) (s := y + k) (t := k - y) (by omega) (by omega) (by omega) (by grind) (by grind) (by grind) p5 p6
    · by_cases c2 : k < y
      · refine ⟨n + k - y, by omega, by omega, by omega, ?_, ?_⟩
        · exact mix (K := n - k) (s := n - y) (t := y - k) (by omega) (by omega) (by omega) (by grind) (by grind) (by grind) p2 p3
        · exact mix (K := n - k) (s := n - y) (t := y - k) (by omega) (by omega) (by omega) (by grind) (by grind) (by grind) p5 p4
      · refine ⟨n + k + y, by omega, by omega, by omega, ?_, ?_⟩
        · exact mix (K := n - k) (s := n + y) (t := -y - k) (by omega) (by omega) (by omega) (by grind) (by grind) (by grind) p1 p8
        · exact mix (K := n - k) (s := n + y) (t := -y - k) (by omega) (by omega) (by omega) (by grind) (by grind) (by grind) p6 p7
  obtain ⟨e, e0, e1, e2, pr, pl⟩ := ends
  by_cases z : e = 0
  · subst z; rw [show x = 0 by omega]; exact pr
  · exact mix (K := 2 * e) (s := x + e) (t := e - x) (by omega) (by omega) (by omega) (by grind) (by grind) (by grind) pr pl
/-- a direction that is not longer than n lies in the disk -/
theorem circle_oct {n : Nat} {x y : Int} (h : x * x + y * y ≤ (n : Int) * n) : (-(n : Int) ≤ x ∧ x ≤ n ∧ -(n : Int) ≤ y ∧ y ≤ n) ∧ (x + y ≤ n + octK n ∧ x - y ≤ n + octK n ∧ -x + y ≤ n + octK n ∧ -x - y ≤ n + octK n) := by
  have sx := sq_nn (x)
  have sy := sq_nn (y)
  have root : ∀ a b : Int, 0 ≤ b → a * a ≤ b * b → a ≤ b := fun a b hb hab => by
    rcases Int.lt_or_le b a with h' | h'
    · have e := Int.mul_le_mul (show b + 1 ≤ a by omega) (show b + 1 ≤ a by omega) (by omega) (by omega)
      have e2 : (b + 1) * (b + 1) = b * b + 2 * b + 1 := by grind
      omega
    · exact h'
  have w := (wideN_spec n).1
  have w' : 2 * ((n : Int) * n) ≤ (wideN n : Int) * wideN n := by
    have : ((2 * n * n : Nat) : Int) ≤ ((wideN n * wideN n : Nat) : Int) := by exact_mod_cast w
    push_cast at this
    rw [Int.mul_assoc] at this
    exact this
  have ek : (n : Int) + octK n = wideN n := by unfold octK; omega
  rw [ek]
  have d1 : (x + y) * (x + y) + (x - y) * (x - y) = 2 * (x * x + y * y) := by grind
  have n1 := sq_nn (x + y)
  have n2 := sq_nn (x - y)
  have e1 : -x * -x = x * x := Int.neg_mul_neg x x
  have e2 : -y * -y = y * y := Int.neg_mul_neg y y
  have e3 : (-x - y) * (-x - y) = (x + y) * (x + y) := by grind
  have e4 : (-x + y) * (-x + y) = (x - y) * (x - y) := by grind
  have a1 := root x n (by omega) (by omega)
  have a2 := root (-x) n (by omega) (by omega)
  have a3 := root y n (by omega) (by omega)
  have a4 := root (-y) n (by omega) (by omega)
  have b1 := root (x + y) (wideN n) (by omega) (by omega)
  have b2 := root (x - y) (wideN n) (by omega) (by omega)
  have b3 := root (-x + y) (wideN n) (by omega) (by omega)
  have b4 := root (-x - y) (wideN n) (by omega) (by omega)
  omega

/-- a hull has all the points of its list -/
theorem hull_has {l h : List Pt} (k : HullOf l h) {x : Pt} (hx : x ∈ l) : InH h x.x x.y 1 := by
  have hl : l ≠ [] := List.ne_nil_of_mem hx
  have h1 := k.some hl
  unfold InH
  by_cases h3 : h.length < 3
  · rw [if_pos h3]
    rcases (show h.length = 1 ∨ h.length = 2 by omega) with e | e
    · have n0 := k.next 0 (by omega)
      rw [e] at n0 ⊢
      have := n0.2.1 rfl x hx
      simp only [Nat.sub_self]
      rw [this]
      exact ⟨1, 1, 0, by omega, by omega, by omega, by omega, by omega, by omega⟩
    · have n0 := k.next 0 (by omega)
      have n1 := k.next 1 (by omega)
      rw [e] at n0 n1 ⊢
      have a := n0.2.2 x hx
      have b := (n1.2.2 x hx).1
      change 0 ≤ turnP (nth h 0) (nth h 1) x ∧ (turnP (nth h 0) (nth h 1) x = 0 → Btw (nth h 0) (nth h 1) x) at a
      change 0 ≤ turnP (nth h 1) (nth h 0) x at b
      have sw : turnP (nth h 1) (nth h 0) x = -turnP (nth h 0) (nth h 1) x := turn_neg _ _ _
      have z : turnP (nth h 0) (nth h 1) x = 0 := by omega
      have bt := a.2 z
      have lt : LexLt (nth h 0) (nth h 1) := by
        have m1 : nth h 1 ∈ l := n0.1
        have := (k.first hl).2 _ m1
        rcases LexLt.tri (nth h 0) (nth h 1) with c | c | c
        · exact c
        · exact absurd c.symm (k.back 1 (by omega) (by omega))
        · exact absurd c this
      show SegH (nth h 0) (nth h 1) x.x x.y 1
      unfold Btw at bt
      unfold LexLt at lt
      exact seg_of_box (.inr lt) z (by split <;> omega) (by split <;> omega) (by split <;> omega) (by split <;> omega)
  · rw [if_neg h3]
    intro i hi
    rw [hturn_one]
    exact ((k.next i hi).2.2 x hx).1
theorem hull_mem {l h : List Pt} (k : HullOf l h) {i : Nat} (hi : i < h.length) : nth h i ∈ l := by
  by_cases h0 : i = 0
  · subst h0
    by_cases hl : l = []
    · rw [k.none hl] at hi; simp at hi
    · exact (k.first hl).1
  · have := k.next (i - 1) (by omega)
    rw [show i - 1 + 1 = i by omega, Nat.mod_eq_of_lt hi] at this
    exact this.1
theorem cmp_lex {a b : Pt} : cmpP a b < 0 ↔ LexLt a b := by
  unfold cmpP LexLt cmpV orI cmpI
  repeat' split
  all_goals omega
/-- a hull of places that is not too large is a polygon -/
theorem hull_valid {l h : List Pt} (k : HullOf l h) (hl : l ≠ []) (h64 : h.length ≤ 64) (hp : ∀ x, x ∈ l → placeP x = true) : GoValid h := by
  have lex : ∀ i, 0 < i → i < h.length → LexLt (nth h 0) (nth h i) := fun i h0 hi => by
    have := (k.first hl).2 _ (hull_mem k hi)
    rcases LexLt.tri (nth h 0) (nth h i) with c | c | c
    · exact c
    · exact absurd c.symm (k.back i h0 hi)
    · exact absurd c this
  refine ⟨k.some hl, h64, fun i hi => ⟨hp _ (hull_mem k hi), fun h0 => cmp_lex.2 (lex i h0 hi)⟩, fun h3 i hi j hj n1 n2 => ?_⟩
  have a := (k.next i hi).2.2 _ (hull_mem k hj)
  unfold sideP at n1 n2 ⊢
  simp only at n1 n2 ⊢
  rcases Int.lt_or_le 0 (turnP (nth h i) (nth h ((i + 1) % h.length)) (nth h j)) with c | c
  · exact c
  · exfalso
    have z : turnP (nth h i) (nth h ((i + 1) % h.length)) (nth h j) = 0 := by omega
    have bt := a.2 z
    have mi := hull_mem k hi
    have mi' := hull_mem k (Nat.mod_lt (i + 1) (by omega) : (i + 1) % h.length < h.length)
    have nj := k.next j hj
    have bi := nj.2.2 _ mi
    have bi' := nj.2.2 _ mi'
    have ne : nth h j ≠ nth h ((j + 1) % h.length) := fun e => by
      have all := nj.2.1 e.symm
      exact n1 (all _ mi).symm
    generalize nth h i = p at *
    generalize nth h ((i + 1) % h.length) = q at *
    generalize nth h j = x at *
    generalize nth h ((j + 1) % h.length) = t at *
    clear nj mi mi' a c k lex
    -- x lies between p and q, and all lies on the left of x, t
    have hpq : ∃ m n : Int, 0 < m ∧ 0 < n ∧ m * (p.x - x.x) + n * (q.x - x.x) = 0 ∧ m * (p.y - x.y) + n * (q.y - x.y) = 0 := by
      unfold Btw at bt
      have n1' : ¬ (x.x = p.x ∧ x.y = p.y) := fun e => n1 (Pt.ext' e.1 e.2)
      have n2' : ¬ (x.x = q.x ∧ x.y = q.y) := fun e => n2 (Pt.ext' e.1 e.2)
      unfold turnP turnV at z
      by_cases hx : x.x = p.x
      · have z1 : (q.x - p.x) * (x.y - p.y) = 0 := by rw [hx] at z; grind
        have z2 : q.x = p.x := by have := (Int.mul_eq_zero.1 z1).resolve_right (by omega); omega
        have e1 : p.x - x.x = 0 := by omega
        have e2 : q.x - x.x = 0 := by omega
        rw [e1, e2]
        rcases Int.lt_or_le p.y x.y with c | c
        · exact ⟨q.y - x.y, x.y - p.y, by omega, by omega, by omega, by grind⟩
        · exact ⟨x.y - q.y, p.y - x.y, by omega, by omega, by omega, by grind⟩
      · by_cases hx2 : x.x = q.x
        · have z1 : (q.x - p.x) * (x.y - q.y) = 0 := by rw [hx2] at z; grind
          have := (Int.mul_eq_zero.1 z1).resolve_left (by omega)
          omega
        · rcases Int.lt_or_le p.x x.x with c | c
          · exact ⟨q.x - x.x, x.x - p.x, by omega, by omega, by grind, by grind⟩
          · exact ⟨x.x - q.x, p.x - x.x, by omega, by omega, by grind, by grind⟩
    obtain ⟨m, n, hm, hn, ex, ey⟩ := hpq
    have lin : m * turnP x t p + n * turnP x t q = 0 := by
      have : m * turnP x t p + n * turnP x t q = (t.x - x.x) * (m * (p.y - x.y) + n * (q.y - x.y)) - (t.y - x.y) * (m * (p.x - x.x) + n * (q.x - x.x)) := by unfold turnP turnV; grind
      rw [this, ex, ey]; simp
    have u1 := Int.mul_nonneg (Int.le_of_lt hm) bi.1
    have u2 := Int.mul_nonneg (Int.le_of_lt hn) bi'.1
    have z1 : turnP x t p = 0 := (Int.mul_eq_zero.1 (show m * turnP x t p = 0 by omega)).resolve_left (by omega)
    have z2 : turnP x t q = 0 := (Int.mul_eq_zero.1 (show n * turnP x t q = 0 by omega)).resolve_left (by omega)
    have b1 := bi.2 z1
    have b2 := bi'.2 z2
    have d1 : 0 ≤ (t.x - x.x) * (p.x - x.x) := by
      unfold Btw at b1
      rcases Int.le_total x.x t.x with c | c
      · exact Int.mul_nonneg (by omega) (by omega)
      · have := Int.mul_nonneg (show 0 ≤ -(t.x - x.x) by omega) (show 0 ≤ -(p.x - x.x) by omega); rwa [Int.neg_mul_neg] at this
    have d2 : 0 ≤ (t.x - x.x) * (q.x - x.x) := by
      unfold Btw at b2
      rcases Int.le_total x.x t.x with c | c
      · exact Int.mul_nonneg (by omega) (by omega)
      · have := Int.mul_nonneg (show 0 ≤ -(t.x - x.x) by omega) (show 0 ≤ -(q.x - x.x) by omega); rwa [Int.neg_mul_neg] at this
    have d3 : 0 ≤ (t.y - x.y) * (p.y - x.y) := by
      unfold Btw at b1
      rcases Int.le_total x.y t.y with c | c
      · exact Int.mul_nonneg (by omega) (by omega)
      · have := Int.mul_nonneg (show 0 ≤ -(t.y - x.y) by omega) (show 0 ≤ -(p.y - x.y) by omega); rwa [Int.neg_mul_neg] at this
    have d4 : 0 ≤ (t.y - x.y) * (q.y - x.y) := by
      unfold Btw at b2
      rcases Int.le_total x.y t.y with c | c
      · exact Int.mul_nonneg (by omega) (by omega)
      · have := Int.mul_nonneg (show 0 ≤ -(t.y - x.y) by omega) (show 0 ≤ -(q.y - x.y) by omega); rwa [Int.neg_mul_neg] at this
    have s1 : m * ((t.x - x.x) * (p.x - x.x)) + n * ((t.x - x.x) * (q.x - x.x)) = 0 := by
      have : m * ((t.x - x.x) * (p.x - x.x)) + n * ((t.x - x.x) * (q.x - x.x)) = (t.x - x.x) * (m * (p.x - x.x) + n * (q.x - x.x)) := by grind
      rw [this, ex, Int.mul_zero]
    have s2 : m * ((t.y - x.y) * (p.y - x.y)) + n * ((t.y - x.y) * (q.y - x.y)) = 0 := by
      have : m * ((t.y - x.y) * (p.y - x.y)) + n * ((t.y - x.y) * (q.y - x.y)) = (t.y - x.y) * (m * (p.y - x.y) + n * (q.y - x.y)) := by grind
      rw [this, ey, Int.mul_zero]
    have v1 := Int.mul_nonneg (Int.le_of_lt hm) d1
    have v2 := Int.mul_nonneg (Int.le_of_lt hn) d2
    have v3 := Int.mul_nonneg (Int.le_of_lt hm) d3
    have v4 := Int.mul_nonneg (Int.le_of_lt hn) d4
    have w1 : (t.x - x.x) * (p.x - x.x) = 0 := (Int.mul_eq_zero.1 (show m * ((t.x - x.x) * (p.x - x.x)) = 0 by omega)).resolve_left (by omega)
    have w3 : (t.y - x.y) * (p.y - x.y) = 0 := (Int.mul_eq_zero.1 (show m * ((t.y - x.y) * (p.y - x.y)) = 0 by omega)).resolve_left (by omega)
    -- so p = x
    have hne : ¬ (t.x = x.x ∧ t.y = x.y) := fun e => ne (Pt.ext' e.1.symm e.2.symm)
    have hpx : ¬ (p.x = x.x ∧ p.y = x.y) := fun e => n1 (Pt.ext' e.1.symm e.2.symm)
    unfold turnP turnV at z1
    rcases Int.mul_eq_zero.1 w1 with c | c
    · have c3 := (Int.mul_eq_zero.1 w3).resolve_left (by omega)
      rw [c, c3] at z1
      have z1' : (t.y - x.y) * (p.x - x.x) = 0 := by grind
      have := (Int.mul_eq_zero.1 z1').resolve_left (by omega)
      omega
    · have c3 : t.y - x.y = 0 := (Int.mul_eq_zero.1 w3).resolve_right (by omega)
      rw [c, c3] at z1
      have z1' : (t.x - x.x) * (p.y - x.y) = 0 := by grind
      have := (Int.mul_eq_zero.1 z1').resolve_left (by omega)
      omega
end Go.Proofs.Ytoekcefhphcjjaa

namespace Go.Proofs.Ytoekcefhphcjjaa
open Go.RowKit
attribute [local irreducible] wpQuiet

def lenOf : Value → Nat
  | .slice _ n _ => n
  | _ => 0
theorem Has.kept {W W' : World} {B : Nat} {cs : Array Value} {t : TypeId} {row : Option Nat} (h : Has W B cs t) (hg : W.grownBy W' row) (hne : row ≠ some B) : Has W' B cs t :=
  (hg.block B h.lt (fun e => hne e.symm)).trans h
theorem row_pos {W : World} {base k size : Nat} {e : TypeId} {v : Value} {xs : List Value} (h : W.ownsRow base e size v k xs) : lenOf v = k := by
  rcases h.2 with ⟨rfl, h0⟩ | ⟨g, cap, cur, rfl, _⟩
  · exact h0.symm
  · rfl

end Go.Proofs.Ytoekcefhphcjjaa

namespace Go.Proofs.Ytoekcefhphcjjaa
open Go.RowKit
attribute [local irreducible] wpQuiet


open Classical in
/-- all are polygons -/
noncomputable def polysB (ls : List (List Pt)) : Bool := decide (∀ j, j < ls.length → goValid (rk ls j) = true)
theorem polysB_iff {ls : List (List Pt)} : polysB ls = true ↔ ∀ j, j < ls.length → goValid (rk ls j) = true := by unfold polysB; rw [decide_eq_true_eq]
end Go.Proofs.Ytoekcefhphcjjaa

namespace Go.Proofs.Ytoekcefhphcjjaa
open Go.RowKit
attribute [local irreducible] wpQuiet



theorem PtsAt.has {W : World} {B : Nat} {cs : Array Value} {t : TypeId} {l : List Pt} {cap : Nat} (h : Has W B cs t) (hl : l.length ≤ 70368744177663) (hcs : cs = (ptCells l).toArray) :
    PtsAt W.heap.size W (.slice (some ⟨B, 0, none⟩) l.length (l.length + cap)) l := by
  subst hcs
  refine ⟨hl, some ⟨B, 0, none⟩, cap, rfl, .inr ⟨B, 0, rfl, h.lt, fun j hj => ?_⟩⟩
  obtain ⟨f0, f1⟩ := ptCells_get l j hj
  rw [Nat.zero_add]
  exact ⟨h.cell (by simpa using f0), h.cell (by simpa using f1)⟩
theorem Has.alloc {W : World} {B : Nat} {cs : Array Value} {t : TypeId} (h : Has W B cs t) (o : Obj) : Has (W.alloc o) B cs t :=
  h.below ((Below.refl W.heap.size W).alloc (Nat.le_refl _) o) h.lt
theorem RocksAt.has {W : World} {B : Nat} {cs : Array Value} {t : TypeId} {ls : List (List Pt)} {cap : Nat} (h : Has W B cs t) (hl : ls.length ≤ 70368744177663)
    (hcs : ∀ j, j < ls.length → ∃ u, cs[j]? = some u ∧ PtsAt W.heap.size W u (rk ls j)) :
    RocksAt W.heap.size W (.slice (some ⟨B, 0, none⟩) ls.length (ls.length + cap)) ls := by
  refine ⟨hl, some ⟨B, 0, none⟩, cap, rfl, .inr ⟨B, 0, rfl, h.lt, fun j hj => ?_⟩⟩
  obtain ⟨u, hu, hp⟩ := hcs j hj
  exact ⟨u, h.cell (by rw [Nat.zero_add]; exact hu), hp⟩

end Go.Proofs.Ytoekcefhphcjjaa

namespace Go.Proofs.Ytoekcefhphcjjaa

theorem hitTo_some {c : List Pt} {ls : List (List Pt)} : ∀ {k i}, hitTo c ls k = some i → i < k ∧ touchB c (rk ls i) = true ∧ ∀ j, j < i → touchB c (rk ls j) = false
  | 0, i, h => by cases h
  | k + 1, i, h => by
    simp only [hitTo] at h
    cases hk : hitTo c ls k with
    | some q =>
      rw [hk] at h
      simp only [Option.isSome_some, if_true] at h
      cases h
      obtain ⟨h1, h2, h3⟩ := hitTo_some hk
      exact ⟨by omega, h2, h3⟩
    | none =>
      rw [hk] at h
      simp only [Option.isSome_none, Bool.false_eq_true, if_false] at h
      split at h
      · cases h
        refine ⟨by omega, by assumption, fun j hj => ?_⟩
        exact hitTo_none hk j hj
      · cases h
where
  hitTo_none {c : List Pt} {ls : List (List Pt)} : ∀ {k}, hitTo c ls k = none → ∀ j, j < k → touchB c (rk ls j) = false
  | 0, _, j, hj => by omega
  | k + 1, h, j, hj => by
    simp only [hitTo] at h
    cases hk : hitTo c ls k with
    | some q => rw [hk] at h; cases h
    | none =>
      rw [hk] at h
      simp only [Option.isSome_none, Bool.false_eq_true, if_false] at h
      split at h
      · cases h
      · rename_i ht
        by_cases e : j = k
        · rw [e]; simpa using ht
        · exact hitTo_none hk j (by omega)
theorem hitTo_none {c : List Pt} {ls : List (List Pt)} {k : Nat} (h : hitTo c ls k = none) : ∀ j, j < k → touchB c (rk ls j) = false := hitTo_some.hitTo_none h
theorem rk_take {ls : List (List Pt)} {n j : Nat} (h : j < n) : rk (ls.take n) j = rk ls j := by
  unfold rk; simp [List.getD_eq_getElem?_getD, h]

/-- the first n of the rocks in a slice -/
theorem RocksAt.take {n0 : Nat} {W : World} {a : Option Addr} {ls : List (List Pt)} {cap : Nat} (h : RocksAt n0 W (.slice a ls.length (ls.length + cap)) ls) {n : Nat} (hn : n ≤ ls.length) :
    RocksAt n0 W (.slice a n (ls.length + cap)) (ls.take n) := by
  obtain ⟨hl, a', cap', he, hc⟩ := h
  have e : (ls.take n).length = n := by simp; omega
  simp only [Value.slice.injEq] at he
  obtain ⟨rfl, _, hcap⟩ := he
  refine ⟨by omega, a, ls.length - n + cap, by rw [e, show n + (ls.length - n + cap) = ls.length + cap by omega], ?_⟩
  rcases hc with rfl | ⟨b, o, rfl, hb, hcc⟩
  · left; simp
  · refine .inr ⟨b, o, rfl, hb, fun j hj => ?_⟩
    rw [e] at hj
    rw [rk_take hj]
    exact hcc j (by omega)
theorem RocksAt.one {n0 : Nat} {W : World} {b o : Nat} {ls : List (List Pt)} {cap cap1 : Nat} (h : RocksAt n0 W (.slice (some ⟨b, o, none⟩) ls.length (ls.length + cap)) ls) {i : Nat} (hi : i < ls.length) :
    RocksAt n0 W (.slice (some ⟨b, o + i, none⟩) 1 (1 + cap1)) [rk ls i] := by
  obtain ⟨hl, a', cap', he, hc⟩ := h
  simp only [Value.slice.injEq] at he
  obtain ⟨rfl, _, hcap⟩ := he
  refine ⟨by simp, some ⟨b, o + i, none⟩, cap1, rfl, ?_⟩
  rcases hc with rfl | ⟨b', o', e, hb, hcc⟩
  · simp at hi
  · cases e
    refine .inr ⟨b, o + i, rfl, hb, fun j hj => ?_⟩
    obtain rfl : j = 0 := by simpa using hj
    exact hcc i hi
end Go.Proofs.Ytoekcefhphcjjaa

namespace Go.Proofs.Ytoekcefhphcjjaa

theorem goValid_of {l : List Pt} (h : GoValid l) : goValid l = true := by simpa [goValid] using h

/-- a polygon's points are made of three corners, or fewer -/
theorem inH_corners {l : List Pt} (hl : GoValid l) {X Y W : Int} (h : InH l X Y W) : ∃ a b c : Nat, a < l.length ∧ b < l.length ∧ c < l.length ∧ ∃ K r s t : Int, 0 < K ∧ 0 ≤ r ∧ 0 ≤ s ∧ 0 ≤ t ∧
    K * X = r * (nth l a).x + s * (nth l b).x + t * (nth l c).x ∧ K * Y = r * (nth l a).y + s * (nth l b).y + t * (nth l c).y ∧ K * W = r + s + t := by
  have l1 := hl.1
  unfold InH at h
  by_cases h3 : l.length < 3
  · rw [if_pos h3] at h
    obtain ⟨K, s, t, hK, hs, ht, e1, e2, e3⟩ := h
    exact ⟨0, l.length - 1, 0, by omega, by omega, by omega, K, s, t, 0, hK, hs, ht, by omega, by omega, by omega, by omega⟩
  · rw [if_neg h3] at h
    have hc := hl.conv (by omega)
    have g : ∃ k, 1 ≤ k ∧ k + 1 < l.length ∧ 0 ≤ hturn (nth l 0) (nth l k) X Y W ∧ hturn (nth l 0) (nth l (k + 1)) X Y W ≤ 0 := by
      have f1 : 0 ≤ hturn (nth l 0) (nth l 1) X Y W := by have := h 0 (by omega); unfold sideP at this; rwa [Nat.mod_eq_of_lt (by omega)] at this
      have fn : hturn (nth l 0) (nth l (l.length - 1)) X Y W ≤ 0 := by
        have := h (l.length - 1) (by omega)
        unfold sideP at this
        rw [show l.length - 1 + 1 = l.length by omega, Nat.mod_self] at this
        have this' : 0 ≤ hturn (nth l (l.length - 1)) (nth l 0) X Y W := this
        have e : hturn (nth l 0) (nth l (l.length - 1)) X Y W = -hturn (nth l (l.length - 1)) (nth l 0) X Y W := by unfold hturn; grind
        omega
      have step : ∀ d k, 1 ≤ k → k + d = l.length - 1 → 0 ≤ hturn (nth l 0) (nth l k) X Y W → (k < l.length - 1) → ∃ k, 1 ≤ k ∧ k + 1 < l.length ∧ 0 ≤ hturn (nth l 0) (nth l k) X Y W ∧ hturn (nth l 0) (nth l (k + 1)) X Y W ≤ 0 := fun d => by
        induction d with
        | zero => intro k h1 h2 h4 h5; omega
        | succ d ih =>
          intro k h1 h2 h4 h5
          rcases Int.lt_or_le 0 (hturn (nth l 0) (nth l (k + 1)) X Y W) with h' | h'
          · by_cases e : k + 1 = l.length - 1
            · rw [e] at h'; omega
            · exact ih (k + 1) (by omega) (by omega) (by omega) (by omega)
          · exact ⟨k, h1, by omega, h4, h'⟩
      exact step (l.length - 2) 1 (by omega) (by omega) f1 (by omega)
    obtain ⟨k, k1, k2, p, q⟩ := g
    have r := h k (by omega)
    unfold sideP at r
    rw [Nat.mod_eq_of_lt (by omega)] at r
    have T := hc.left k (by omega) 0 (by omega) (by omega) (by rw [Nat.mod_eq_of_lt (by omega)]; omega)
    rw [Nat.mod_eq_of_lt (by omega)] at T
    refine ⟨0, k, k + 1, by omega, by omega, by omega, turnP (nth l k) (nth l (k + 1)) (nth l 0), hturn (nth l k) (nth l (k + 1)) X Y W, -hturn (nth l 0) (nth l (k + 1)) X Y W, hturn (nth l 0) (nth l k) X Y W, T, r, by omega, p, ?_, ?_, ?_⟩
    all_goals generalize nth l 0 = a at *
    all_goals generalize nth l k = b at *
    all_goals generalize nth l (k + 1) = c at *
    · unfold turnP turnV hturn; grind
    · unfold turnP turnV hturn; grind
    · unfold turnP turnV hturn; grind
/-- a polygon whose corners another one has lies in it -/
theorem inH_within {l m : List Pt} (hl : GoValid l) (h : ∀ k, k < l.length → inside m (nth l k) = true) (hm : GoValid m) {X Y W : Int} (hx : InH l X Y W) : InH m X Y W := by
  obtain ⟨a, b, c, ha, hb, hc, K, r, s, t, hK, hr, hs, ht, e1, e2, e3⟩ := inH_corners hl hx
  have ia := inH_of_inside hm (h a ha)
  have ib := inH_of_inside hm (h b hb)
  have ic := inH_of_inside hm (h c hc)
  have i1 : InH m (r * (nth l a).x + s * (nth l b).x) (r * (nth l a).y + s * (nth l b).y) (r + s) := inH_mix (K := 1) (by omega) hr hs (by omega) (by omega) (by omega) ia ib
  exact inH_mix (s := 1) (t := t) hK (by omega) ht (by omega) (by omega) (by omega) i1 ic
end Go.Proofs.Ytoekcefhphcjjaa

namespace Go.Proofs.Ytoekcefhphcjjaa

def mvP (b x : Pt) : Pt := ⟨x.x + b.x, x.y + b.y⟩
def mvL (b : Pt) (l : List Pt) : List Pt := l.map (mvP b)
def mvS (b : Pt) (s : Pt × Pt) : Pt × Pt := (mvP b s.1, mvP b s.2)
theorem mvL_len (b : Pt) (l : List Pt) : (mvL b l).length = l.length := by simp [mvL]
theorem nth_mvL (b : Pt) {l : List Pt} {k : Nat} (h : k < l.length) : nth (mvL b l) k = mvP b (nth l k) := by
  simp [mvL, nth, List.getD_eq_getElem?_getD, List.getElem?_eq_getElem h]
theorem turn_mv (b p q r : Pt) : turnP (mvP b p) (mvP b q) (mvP b r) = turnP p q r := by unfold turnP turnV mvP; grind
theorem side_mv (b : Pt) {l : List Pt} {k : Nat} (h : k < l.length) : sideP (mvL b l) k = mvS b (sideP l k) := by
  unfold sideP mvS
  rw [mvL_len, nth_mvL b h, nth_mvL b (Nat.mod_lt _ (by omega))]

theorem place_iff {p : Pt} : placeP p = true ↔ -500000 ≤ p.x ∧ p.x ≤ 500000 ∧ -500000 ≤ p.y ∧ p.y ≤ 500000 := by simp [placeP, placeB]
theorem cmp_mv (b p q : Pt) : cmpP (mvP b p) (mvP b q) = cmpP p q := by
  have c : ∀ u v w : Int, cmpI (u + w) (v + w) = cmpI u v := fun u v w => by unfold cmpI; repeat' split
                                                                             all_goals omega
  simp only [cmpP, cmpV, mvP, c]
section
variable {b : Pt} {l m : List Pt} (hl : goValid l = true) (hm : goValid m = true) (hl' : goValid (mvL b l) = true) (hm' : goValid (mvL b m) = true)
include hl hm hl' hm'
end
end Go.Proofs.Ytoekcefhphcjjaa

namespace Go.Proofs.Ytoekcefhphcjjaa
open Go.RowKit
attribute [local irreducible] wpQuiet

/-- what a round of Crossings sees: the corners of two sides, and the list so far -/
structure CS (A B : Nat) (ax ay bx by' : Int) (xs : List Pt) (out : Value) (w W : World) : Prop where
  hA : w.heap.size ≤ A ∧ A < W.heap.size
  hB : w.heap.size ≤ B ∧ B < W.heap.size
  nA : out.ownBlock ≠ some A
  nB : out.ownBlock ≠ some B
  gA : Has W A #[.int .i64 ax, .int .i64 ay] 38
  gB : Has W B #[.int .i64 bx, .int .i64 by'] 38
  row : W.ownsRow w.heap.size 38 2 out xs.length (ptCells xs)
  bel : Below w.heap.size w W
theorem CS.below {A B : Nat} {ax ay bx by' : Int} {xs : List Pt} {out : Value} {w W W' : World} (h : CS A B ax ay bx by' xs out w W) (hb : Below W.heap.size W W') : CS A B ax ay bx by' xs out w W' :=
  ⟨⟨h.hA.1, Nat.lt_of_lt_of_le h.hA.2 hb.size⟩, ⟨h.hB.1, Nat.lt_of_lt_of_le h.hB.2 hb.size⟩, h.nA, h.nB, h.gA.below hb h.hA.2, h.gB.below hb h.hB.2, prow_below h.row hb, h.bel.trans (hb.mono h.bel.size)⟩
/-- the corners of the second side -/
structure DS (C D : Nat) (cx cy dx dy : Int) (W : World) : Prop where
  gC : Has W C #[.int .i64 cx, .int .i64 cy] 38
  gD : Has W D #[.int .i64 dx, .int .i64 dy] 38
theorem DS.below {C D : Nat} {cx cy dx dy : Int} {W W' : World} (h : DS C D cx cy dx dy W) (hb : Below W.heap.size W W') : DS C D cx cy dx dy W' := ⟨h.gC.below hb h.gC.lt, h.gD.below hb h.gD.lt⟩


end Go.Proofs.Ytoekcefhphcjjaa
