/- Plain geometry: polygons that have a point in common touch; those that touch have one. No program here. -/
import Derived.Test.YtjjkmonfihomnaaRocksLaw
import Derived.Test.YtjjkmonfihomnaaConv
import Derived.Test.YtjjkmonfihomnaaRef3
namespace Go.Proofs.Ytjjkmonfihomnaa

/-- a polygon has the point (X / W, Y / W) -/
def InH (l : List Pt) (X Y W : Int) : Prop :=
  if l.length < 3 then SegH (nth l 0) (nth l (l.length - 1)) X Y W else ∀ i, i < l.length → 0 ≤ hturn (sideP l i).1 (sideP l i).2 X Y W

theorem boxL_le {l : List Pt} {k : Nat} (hk : k < l.length) : (boxL l).x ≤ (nth l k).x ∧ (boxL l).y ≤ (nth l k).y := ⟨(loTo_le bxF1 l l.length).1 k hk, (loTo_le bxF2 l l.length).1 k hk⟩
theorem boxH_ge {l : List Pt} {k : Nat} (hk : k < l.length) : (nth l k).x ≤ (boxH l).x ∧ (nth l k).y ≤ (boxH l).y := ⟨(hiTo_ge bxF1 l l.length).1 k hk, (hiTo_ge bxF2 l l.length).1 k hk⟩
theorem loTo_two (f : Pt → Int) (l : List Pt) : ∀ k, (∃ j, (j < k ∨ j = 0) ∧ loTo f l k = f (nth l j))
  | 0 => ⟨0, .inr rfl, rfl⟩
  | k + 1 => by
    obtain ⟨j, hj, e⟩ := loTo_two f l k
    simp only [loTo]
    by_cases h : f (nth l k) < loTo f l k
    · exact ⟨k, .inl (by omega), by split <;> omega⟩
    · exact ⟨j, by omega, by split <;> omega⟩
theorem hiTo_two (f : Pt → Int) (l : List Pt) : ∀ k, (∃ j, (j < k ∨ j = 0) ∧ hiTo f l k = f (nth l j))
  | 0 => ⟨0, .inr rfl, rfl⟩
  | k + 1 => by
    obtain ⟨j, hj, e⟩ := hiTo_two f l k
    simp only [hiTo]
    by_cases h : hiTo f l k < f (nth l k)
    · exact ⟨k, .inl (by omega), by split <;> omega⟩
    · exact ⟨j, by omega, by split <;> omega⟩

theorem SegH.scale {a b : Pt} {X Y W : Int} (h : SegH a b X Y W) {K : Int} (hK : 0 < K) : SegH a b (K * X) (K * Y) (K * W) := by
  obtain ⟨k, s, t, h1, h2, h3, e1, e2, e3⟩ := h
  refine ⟨k, K * s, K * t, h1, Int.mul_nonneg (by omega) h2, Int.mul_nonneg (by omega) h3, ?_, ?_, ?_⟩
  · have : k * (K * X) = K * (k * X) := by grind
    rw [this, e1]; grind
  · have : k * (K * Y) = K * (k * Y) := by grind
    rw [this, e2]; grind
  · have : k * (K * W) = K * (k * W) := by grind
    rw [this, e3]; grind
/-- a linear number on a segment -/
theorem SegH.turn {a b : Pt} {X Y W K s t : Int} (e1 : K * X = s * a.x + t * b.x) (e2 : K * Y = s * a.y + t * b.y) (e3 : K * W = s + t) (u v : Pt) : K * hturn u v X Y W = s * turnP u v a + t * turnP u v b := by
  rw [← hturn_scale, e1, e2, e3]
  unfold hturn turnP turnV; grind
theorem mul_nn_cancel {K a : Int} (hK : 0 < K) (h : 0 ≤ K * a) : 0 ≤ a := by
  rcases Int.lt_or_le a 0 with h' | h'
  · have := Int.mul_neg_of_pos_of_neg hK h'; omega
  · exact h'

/-- in a polygon of one corner or two: ordered ends -/
def Ord (a b : Pt) : Prop := a = b ∨ a.x < b.x ∨ a.x = b.x ∧ a.y < b.y
theorem GoValid.ord {l : List Pt} (h : GoValid l) (h3 : l.length < 3) : Ord (nth l 0) (nth l (l.length - 1)) := by
  by_cases e : l.length = 1
  · left; rw [e]
  · have h1 := h.1
    have e2 : l.length = 2 := by omega
    have := (h.2.2.1 1 (by omega)).2 (by omega)
    rw [e2]
    unfold cmpP at this
    rw [cmpV_lt_iff] at this
    exact .inr this
theorem seg_of_box {a b x : Pt} (ho : Ord a b) (ht : turnP a b x = 0) (h1 : (if b.x < a.x then b.x else a.x) ≤ x.x) (h2 : x.x ≤ (if a.x < b.x then b.x else a.x)) (h3 : (if b.y < a.y then b.y else a.y) ≤ x.y) (h4 : x.y ≤ (if a.y < b.y then b.y else a.y)) : SegH a b x.x x.y 1 := by
  rcases ho with rfl | h | ⟨h, h'⟩
  · simp only [Int.lt_irrefl, if_false] at h1 h2 h3 h4
    exact ⟨1, 1, 0, by omega, by omega, by omega, by omega, by omega, by omega⟩
  · rw [if_neg (by omega)] at h1
    rw [if_pos h] at h2
    refine ⟨b.x - a.x, b.x - x.x, x.x - a.x, by omega, by omega, by omega, by grind, ?_, by omega⟩
    unfold turnP turnV at ht; grind
  · have hx : x.x = a.x := by rw [h, if_neg (by omega)] at h1 h2; omega
    rw [if_neg (by omega)] at h3
    rw [if_pos h'] at h4
    refine ⟨b.y - a.y, b.y - x.y, x.y - a.y, by omega, by omega, by omega, ?_, by grind, by omega⟩
    rw [hx, h]; grind
/-- what hull.Has has, in homogeneous words -/
theorem inH_of_inside {l : List Pt} (hl : GoValid l) {x : Pt} (h : inside l x = true) : InH l x.x x.y 1 := by
  unfold inside at h
  unfold InH
  by_cases h3 : l.length < 3
  · rw [if_pos h3] at h ⊢
    rw [decide_eq_true_eq] at h
    obtain ⟨ht, b1, b2, b3, b4⟩ := h
    have l1 := hl.1
    have two : ∀ j, (j < l.length ∨ j = 0) → nth l j = nth l 0 ∨ nth l j = nth l (l.length - 1) := fun j hj => by
      rcases (show j = 0 ∨ j = l.length - 1 by omega) with rfl | rfl
      · exact .inl rfl
      · exact .inr rfl
    refine seg_of_box (hl.ord h3) ht ?_ ?_ ?_ ?_
    · obtain ⟨j, hj, e⟩ := loTo_two bxF1 l l.length
      have e' : (boxL l).x = (nth l j).x := e
      rcases two j hj with q | q <;> rw [q] at e' <;> split <;> omega
    · obtain ⟨j, hj, e⟩ := hiTo_two bxF1 l l.length
      have e' : (boxH l).x = (nth l j).x := e
      rcases two j hj with q | q <;> rw [q] at e' <;> split <;> omega
    · obtain ⟨j, hj, e⟩ := loTo_two bxF2 l l.length
      have e' : (boxL l).y = (nth l j).y := e
      rcases two j hj with q | q <;> rw [q] at e' <;> split <;> omega
    · obtain ⟨j, hj, e⟩ := hiTo_two bxF2 l l.length
      have e' : (boxH l).y = (nth l j).y := e
      rcases two j hj with q | q <;> rw [q] at e' <;> split <;> omega
  · rw [if_neg h3] at h ⊢
    rw [decide_eq_true_eq] at h
    exact fun i hi => by rw [hturn_one]; exact h i hi
theorem inside_of_inH {l : List Pt} (h1 : 1 ≤ l.length) {x : Pt} (h : InH l x.x x.y 1) : inside l x = true := by
  unfold InH at h
  unfold inside
  by_cases h3 : l.length < 3
  · rw [if_pos h3] at h ⊢
    rw [decide_eq_true_eq]
    obtain ⟨K, s, t, hK, hs, ht, e1, e2, e3⟩ := h
    have tt := SegH.turn e1 e2 e3 (nth l 0) (nth l (l.length - 1))
    rw [hturn_one, hturn_fst, hturn_snd, Int.mul_zero, Int.mul_zero, Int.add_zero] at tt
    have l0 := boxL_le (l := l) (k := 0) (by omega)
    have l1 := boxL_le (l := l) (k := l.length - 1) (by omega)
    have g0 := boxH_ge (l := l) (k := 0) (by omega)
    have g1 := boxH_ge (l := l) (k := l.length - 1) (by omega)
    generalize nth l 0 = a at *
    generalize nth l (l.length - 1) = b at *
    have lo : ∀ c p q r : Int, c ≤ p → c ≤ q → K * r = s * p + t * q → c ≤ r := fun c p q r hp hq e => by
      have m1 := Int.mul_nonneg hs (show 0 ≤ p - c by omega)
      have m2 := Int.mul_nonneg ht (show 0 ≤ q - c by omega)
      have : 0 ≤ r - c := mul_nn_cancel hK (by
        have : K * (r - c) = s * (p - c) + t * (q - c) := by rw [Int.mul_sub, e]; grind
        omega)
      omega
    have hi : ∀ c p q r : Int, p ≤ c → q ≤ c → K * r = s * p + t * q → r ≤ c := fun c p q r hp hq e => by
      have m1 := Int.mul_nonneg hs (show 0 ≤ c - p by omega)
      have m2 := Int.mul_nonneg ht (show 0 ≤ c - q by omega)
      have : 0 ≤ c - r := mul_nn_cancel hK (by
        have : K * (c - r) = s * (c - p) + t * (c - q) := by rw [Int.mul_sub, e]; grind
        omega)
      omega
    refine ⟨?_, lo _ _ _ _ l0.1 l1.1 e1, hi _ _ _ _ g0.1 g1.1 e1, lo _ _ _ _ l0.2 l1.2 e2, hi _ _ _ _ g0.2 g1.2 e2⟩
    rcases Int.mul_eq_zero.1 tt with h | h
    · omega
    · exact h
  · rw [if_neg h3] at h ⊢
    rw [decide_eq_true_eq]
    exact fun i hi => by rw [← hturn_one]; exact h i hi

/-- polygons with three corners or more turn left -/
theorem GoValid.conv {l : List Pt} (h : GoValid l) (h3 : 3 ≤ l.length) : Conv (nth l) l.length := by
  have hd := go_distinct (l := l) (fun k h1 hk => (h.2.2.1 k hk).2 h1) (fun i hi k hk a b => h.2.2.2 h3 i hi k hk a b)
  have ne : ∀ i k, i < l.length → k < l.length → i ≠ k → nth l i ≠ nth l k := by
    intro i k hi hk hne e
    rcases Nat.lt_or_gt_of_ne hne with h' | h'
    · exact hd _ i k rfl h' hk e
    · exact hd _ k i rfl h' hi e.symm
  refine ⟨h3, fun i hi k hk e1 e2 => h.2.2.2 h3 i hi k hk (ne _ _ hk hi e1) (ne _ _ hk (nx_lt h3) e2)⟩
theorem hs_eq {l : List Pt} (i : Nat) (X Y W : Int) : hs (nth l) l.length i X Y W = hturn (sideP l i).1 (sideP l i).2 X Y W := rfl
/-- a corner, or a place between two corners, lies in a polygon -/
theorem inH_corner {l : List Pt} (h : GoValid l) {k : Nat} (hk : k < l.length) : InH l (nth l k).x (nth l k).y 1 := inH_of_inside h (inside_corner h hk)
/-- if sides of a polygon are not negative at three places with weights, they are not at what these make -/
theorem inH_mix {l : List Pt} {X Y W X1 Y1 W1 X2 Y2 W2 K s t : Int} (hK : 0 < K) (hs : 0 ≤ s) (ht : 0 ≤ t) (e1 : K * X = s * X1 + t * X2) (e2 : K * Y = s * Y1 + t * Y2) (e3 : K * W = s * W1 + t * W2)
    (h1 : InH l X1 Y1 W1) (h2 : InH l X2 Y2 W2) : InH l X Y W := by
  unfold InH at *
  by_cases h3 : l.length < 3
  · rw [if_pos h3] at *
    obtain ⟨k, p, q, k0, p0, q0, a1, a2, a3⟩ := h1
    obtain ⟨k', p', q', k0', p0', q0', b1, b2, b3⟩ := h2
    have n1 := Int.mul_nonneg (Int.mul_nonneg hs (Int.le_of_lt k0')) p0
    have n2 := Int.mul_nonneg (Int.mul_nonneg ht (Int.le_of_lt k0)) p0'
    have n3 := Int.mul_nonneg (Int.mul_nonneg hs (Int.le_of_lt k0')) q0
    have n4 := Int.mul_nonneg (Int.mul_nonneg ht (Int.le_of_lt k0)) q0'
    refine ⟨k * k' * K, s * k' * p + t * k * p', s * k' * q + t * k * q', Int.mul_pos (Int.mul_pos k0 k0') hK, by omega, by omega, ?_, ?_, ?_⟩
    · have : k * k' * K * X = s * k' * (k * X1) + t * k * (k' * X2) := by
        have : k * k' * K * X = k * k' * (K * X) := by grind
        rw [this, e1]; grind
      rw [this, a1, b1]; grind
    · have : k * k' * K * Y = s * k' * (k * Y1) + t * k * (k' * Y2) := by
        have : k * k' * K * Y = k * k' * (K * Y) := by grind
        rw [this, e2]; grind
      rw [this, a2, b2]; grind
    · have : k * k' * K * W = s * k' * (k * W1) + t * k * (k' * W2) := by
        have : k * k' * K * W = k * k' * (K * W) := by grind
        rw [this, e3]; grind
      rw [this, a3, b3]; grind
  · rw [if_neg h3] at *
    intro i hi
    have a := Int.mul_nonneg hs (h1 i hi)
    have b := Int.mul_nonneg ht (h2 i hi)
    refine mul_nn_cancel hK ?_
    rw [← hturn_scale, e1, e2, e3, hturn_lin]
    omega
theorem inH_seg {l : List Pt} {a b : Pt} (ha : InH l a.x a.y 1) (hb : InH l b.x b.y 1) {X Y W : Int} (hs : SegH a b X Y W) : InH l X Y W := by
  obtain ⟨K, s, t, hK, h1, h2, e1, e2, e3⟩ := hs
  exact inH_mix hK h1 h2 e1 e2 (by omega) ha hb

/-- two sides cross -/
def CrossS (S T : Pt × Pt) : Prop := (crossB (turnP S.1 S.2 T.1) (turnP S.1 S.2 T.2) && crossB (turnP T.1 T.2 S.1) (turnP T.1 T.2 S.2)) = true
theorem crossB_symm (s t : Int) : crossB t s = crossB s t := by unfold crossB; rw [Bool.eq_iff_iff]; simp only [decide_eq_true_eq]; omega
theorem CrossS.symm {S T : Pt × Pt} (h : CrossS S T) : CrossS T S := by unfold CrossS at *; rwa [Bool.and_comm]
/-- a polygon of three corners or more, and a segment that meet: a common corner, or sides that cross -/
theorem seg_meets {P : Nat → Pt} {n : Nat} (h : Conv P n) {u v : Pt} {X Y W : Int} (hW : 0 < W) (hin : ∀ j, j < n → 0 ≤ hs P n j X Y W) (hsg : SegH u v X Y W) :
    (∀ j, j < n → 0 ≤ hs P n j u.x u.y 1) ∨ (∀ j, j < n → 0 ≤ hs P n j v.x v.y 1) ∨ (∃ k, k < n ∧ SegH u v (P k).x (P k).y 1) ∨ ∃ i, i < n ∧ CrossS (P i, P ((i + 1) % n)) (u, v) := by
  by_cases hu : ∀ j, j < n → 0 ≤ hs P n j u.x u.y 1
  · exact .inl hu
  by_cases hv : ∀ j, j < n → 0 ≤ hs P n j v.x v.y 1
  · exact .inr (.inl hv)
  right; right
  have hu' : ∃ j, j < n ∧ hs P n j u.x u.y 1 < 0 := by
    apply Classical.byContradiction
    intro hc
    exact hu fun j hj => by
      rcases Int.lt_or_le (hs P n j u.x u.y 1) 0 with h' | h'
      · exact absurd ⟨j, hj, h'⟩ hc
      · exact h'
  obtain ⟨i, hi, hneg, hall⟩ := exit_at (fun j => hs P n j X Y W) (fun j => hs P n j u.x u.y 1) n hin hu'
  -- the point at which the way to u leaves
  obtain ⟨B, hB⟩ : ∃ B, -(hs P n i u.x u.y 1) = B := ⟨_, rfl⟩
  obtain ⟨A, hA⟩ : ∃ A, hs P n i X Y W = A := ⟨_, rfl⟩
  simp only [hB, hA] at hall
  have hB0 : 0 < B := by omega
  have hA0 : 0 ≤ A := by have := hin i hi; omega
  have hq : ∀ j, j < n → 0 ≤ hs P n j (B * X + A * u.x) (B * Y + A * u.y) (B * W + A * 1) := fun j hj => by
    have := hall j hj
    unfold hs at *
    rw [hturn_lin]; exact this
  have hq0 : hs P n i (B * X + A * u.x) (B * Y + A * u.y) (B * W + A * 1) = 0 := by
    unfold hs at *
    rw [hturn_lin, hA]
    have : hturn (P i) (P ((i + 1) % n)) u.x u.y 1 = -B := by omega
    rw [this]; grind
  have hqW : 0 < B * W + A * 1 := by have := Int.mul_pos hB0 hW; omega
  have hside := h.on_side hq hi hq0
  -- it lies between u and v
  obtain ⟨K, s, t, hK, hs0, ht0, e1, e2, e3⟩ := hsg
  have g1 : K * (B * X + A * u.x) = (B * s + K * A) * u.x + (B * t) * v.x := by
    have : K * (B * X + A * u.x) = B * (K * X) + K * A * u.x := by grind
    rw [this, e1]; grind
  have g2 : K * (B * Y + A * u.y) = (B * s + K * A) * u.y + (B * t) * v.y := by
    have : K * (B * Y + A * u.y) = B * (K * Y) + K * A * u.y := by grind
    rw [this, e2]; grind
  have g3 : K * (B * W + A * 1) = (B * s + K * A) + (B * t) := by
    have : K * (B * W + A * 1) = B * (K * W) + K * A := by grind
    rw [this, e3]; grind
  have p0 : 0 ≤ B * s + K * A := by have := Int.mul_nonneg (Int.le_of_lt hB0) hs0; have := Int.mul_nonneg (Int.le_of_lt hK) hA0; omega
  have q0 : 0 ≤ B * t := Int.mul_nonneg (Int.le_of_lt hB0) ht0
  generalize B * s + K * A = p at *
  generalize B * t = q at *
  generalize B * X + A * u.x = X1 at *
  generalize B * Y + A * u.y = Y1 at *
  generalize B * W + A * 1 = W1 at *
  have tq := SegH.turn g1 g2 g3 (P i) (P ((i + 1) % n))
  have hq0' : hturn (P i) (P ((i + 1) % n)) X1 Y1 W1 = 0 := hq0
  have tu : turnP (P i) (P ((i + 1) % n)) u < 0 := by have : hs P n i u.x u.y 1 = _ := hturn_one _ _ u; omega
  rw [hq0', Int.mul_zero] at tq
  have sv : SegH u v X1 Y1 W1 := ⟨K, p, q, hK, p0, q0, g1, g2, g3⟩
  -- p is not 0: else v is in the polygon
  have pp : 0 < p := by
    rcases Int.lt_or_le 0 p with h' | h'
    · exact h'
    · exfalso
      have pz : p = 0 := by omega
      rw [pz] at g1 g2 g3
      refine hv fun j hj => ?_
      have qq : 0 < q := by have := Int.mul_pos hK hqW; omega
      refine mul_nn_cancel qq ?_
      have := Int.mul_nonneg (Int.le_of_lt hK) (hq j hj)
      unfold hs at *
      rw [← hturn_scale] at this ⊢
      rw [show q * v.x = K * X1 by omega, show q * v.y = K * Y1 by omega, show q * 1 = K * W1 by omega]
      exact this
  have tv : 0 < q * turnP (P i) (P ((i + 1) % n)) v := by have := Int.mul_neg_of_pos_of_neg pp tu; omega
  have tv' : 0 < turnP (P i) (P ((i + 1) % n)) v := by
    rcases Int.lt_or_le 0 (turnP (P i) (P ((i + 1) % n)) v) with h' | h'
    · exact h'
    · have := Int.mul_nonneg q0 (show 0 ≤ -turnP (P i) (P ((i + 1) % n)) v by omega)
      rw [Int.mul_neg] at this; omega
  -- and the side's ends
  obtain ⟨K', s', t', hK', s0', t0', f1, f2, f3⟩ := hside
  have ends : ∀ c : Pt, ∀ r : Int, 0 < r → r * c.x = K' * X1 → r * c.y = K' * Y1 → r = K' * W1 → SegH u v c.x c.y 1 := fun c r hr z1 z2 z3 => by
    have n1 := Int.mul_nonneg (Int.le_of_lt hK') p0
    have n2 := Int.mul_nonneg (Int.le_of_lt hK') q0
    refine ⟨K * r, K' * p, K' * q, Int.mul_pos hK hr, n1, n2, ?_, ?_, ?_⟩
    · rw [Int.mul_assoc, z1, show K * (K' * X1) = K' * (K * X1) by grind, g1]; grind
    · rw [Int.mul_assoc, z2, show K * (K' * Y1) = K' * (K * Y1) by grind, g2]; grind
    · rw [Int.mul_assoc, Int.mul_one, z3, show K * (K' * W1) = K' * (K * W1) by grind, g3]; grind
  have kw : 0 < K' * W1 := Int.mul_pos hK' hqW
  by_cases hs' : s' = 0
  · subst hs'
    exact .inl ⟨(i + 1) % n, nx_lt h.n3, ends _ t' (by omega) (by omega) (by omega) (by omega)⟩
  by_cases ht' : t' = 0
  · subst ht'
    exact .inl ⟨i, hi, ends _ s' (by omega) (by omega) (by omega) (by omega)⟩
  right
  refine ⟨i, hi, ?_⟩
  have tt := SegH.turn f1 f2 f3 u v
  have tz : hturn u v X1 Y1 W1 = 0 := by
    have := SegH.turn g1 g2 g3 u v
    rw [hturn_fst, hturn_snd, Int.mul_zero, Int.mul_zero, Int.add_zero] at this
    rcases Int.mul_eq_zero.1 this with h' | h'
    · omega
    · exact h'
  rw [tz, Int.mul_zero] at tt
  have df : turnP u v (P ((i + 1) % n)) - turnP u v (P i) = turnP (P i) (P ((i + 1) % n)) u - turnP (P i) (P ((i + 1) % n)) v := by unfold turnP turnV; grind
  unfold CrossS crossB
  simp only [Bool.and_eq_true, decide_eq_true_eq]
  refine ⟨.inl ⟨tu, tv'⟩, ?_⟩
  generalize turnP u v (P ((i + 1) % n)) = β at *
  generalize turnP u v (P i) = α at *
  have hlt : β < α := by omega
  have s1 : 0 < s' := by omega
  have t1 : 0 < t' := by omega
  right
  constructor
  · rcases Int.lt_or_le 0 α with h' | h'
    · exact h'
    · have m1 := Int.mul_nonneg (Int.le_of_lt s1) (show 0 ≤ -α by omega)
      have m2 := Int.mul_neg_of_pos_of_neg t1 (show β < 0 by omega)
      rw [Int.mul_neg] at m1; omega
  · rcases Int.lt_or_le β 0 with h' | h'
    · exact h'
    · have m1 := Int.mul_nonneg (Int.le_of_lt t1) h'
      have m2 := Int.mul_pos s1 (show 0 < α by omega)
      omega

/-- two segments that meet: an end of the one on the other, or they cross -/
theorem segs_meet {a b u v : Pt} (h1 : Ord a b) (h2 : Ord u v) {X Y W : Int} (hW : 0 < W) (hs1 : SegH a b X Y W) (hs2 : SegH u v X Y W) :
    SegH u v a.x a.y 1 ∨ SegH u v b.x b.y 1 ∨ SegH a b u.x u.y 1 ∨ SegH a b v.x v.y 1 ∨ CrossS (a, b) (u, v) := by
  have e1 := hs1
  have e2 := hs2
  obtain ⟨K, s, t, hK, s0, t0, f1, f2, f3⟩ := hs1
  obtain ⟨L, p, q, hL, p0, q0, g1, g2, g3⟩ := hs2
  have kw : 0 < K * W := Int.mul_pos hK hW
  have lw : 0 < L * W := Int.mul_pos hL hW
  -- an end that is the point itself
  have pnt : ∀ (c d e : Pt) (r M : Int), 0 < M → 0 < r → r * c.x = M * X → r * c.y = M * Y → r = M * W → SegH d e X Y W → SegH d e c.x c.y 1 := fun c d e r M hM hr z1 z2 z3 hse => by
    obtain ⟨N, x, y, hN, x0, y0, a1, a2, a3⟩ := hse
    refine ⟨N * r, M * x, M * y, Int.mul_pos hN hr, Int.mul_nonneg (by omega) x0, Int.mul_nonneg (by omega) y0, ?_, ?_, ?_⟩
    · rw [Int.mul_assoc, z1, show N * (M * X) = M * (N * X) by grind, a1]; grind
    · rw [Int.mul_assoc, z2, show N * (M * Y) = M * (N * Y) by grind, a2]; grind
    · rw [Int.mul_assoc, Int.mul_one, z3, show N * (M * W) = M * (N * W) by grind, a3]; grind
  by_cases zs : s = 0
  · subst zs; exact .inr (.inl (pnt b u v t K hK (by omega) (by omega) (by omega) (by omega) e2))
  by_cases zt : t = 0
  · subst zt; exact .inl (pnt a u v s K hK (by omega) (by omega) (by omega) (by omega) e2)
  by_cases zp : p = 0
  · subst zp; exact .inr (.inr (.inr (.inl (pnt v a b q L hL (by omega) (by omega) (by omega) (by omega) e1))))
  by_cases zq : q = 0
  · subst zq; exact .inr (.inr (.inl (pnt u a b p L hL (by omega) (by omega) (by omega) (by omega) e1)))
  have sp : 0 < s := by omega
  have tp : 0 < t := by omega
  have pp : 0 < p := by omega
  have qp : 0 < q := by omega
  have z1 : hturn u v X Y W = 0 := by
    have := SegH.turn g1 g2 g3 u v
    rw [hturn_fst, hturn_snd, Int.mul_zero, Int.mul_zero, Int.add_zero] at this
    rcases Int.mul_eq_zero.1 this with h' | h' <;> omega
  have z2 : hturn a b X Y W = 0 := by
    have := SegH.turn f1 f2 f3 a b
    rw [hturn_fst, hturn_snd, Int.mul_zero, Int.mul_zero, Int.add_zero] at this
    rcases Int.mul_eq_zero.1 this with h' | h' <;> omega
  have w1 := SegH.turn f1 f2 f3 u v
  have w2 := SegH.turn g1 g2 g3 a b
  rw [z1, Int.mul_zero] at w1
  rw [z2, Int.mul_zero] at w2
  have df : turnP u v b - turnP u v a = turnP a b u - turnP a b v := by unfold turnP turnV; grind
  by_cases ha : turnP u v a = 0
  · -- all on one line
    have hb : turnP u v b = 0 := by
      rw [ha, Int.mul_zero, Int.zero_add] at w1
      rcases Int.mul_eq_zero.1 w1.symm with h' | h'
      · omega
      · exact h'
    have huv : turnP a b u = turnP a b v := by omega
    have hu : turnP a b u = 0 := by
      rw [← huv, ← Int.add_mul] at w2
      rcases Int.mul_eq_zero.1 w2.symm with h' | h' <;> omega
    have hv : turnP a b v = 0 := by omega
    -- a weight in a coordinate
    have lo : ∀ c d r : Int, c < d → 0 ≤ r → 0 < r → r * c < r * d := fun c d r h _ hr => Int.mul_lt_mul_of_pos_left h hr
    rcases h1 with rfl | h1 | ⟨h1, h1'⟩
    · exact .inl (pnt a u v (s + t) K hK (by omega) (by grind) (by grind) (by omega) e2)
    · rcases h2 with rfl | h2 | ⟨h2, h2'⟩
      · exact .inr (.inr (.inl (pnt u a b (p + q) L hL (by omega) (by grind) (by grind) (by omega) e1)))
      · -- by x: each start is before the other's end
        have c1 : u.x < b.x := by
          rcases Int.lt_or_le u.x b.x with h' | h'
          · exact h'
          · exfalso
            -- K X < (s + t) b.x = K W b.x ; L X > L W u.x
            have m1 := Int.mul_lt_mul_of_pos_left h1 sp
            have m2 := Int.mul_lt_mul_of_pos_left h2 qp
            have x1 : K * X < K * (W * b.x) := by rw [f1, ← Int.mul_assoc, f3]; grind
            have x2 : L * (W * u.x) < L * X := by rw [g1, ← Int.mul_assoc, g3]; grind
            have y1 := Int.lt_of_mul_lt_mul_left x1 (by omega)
            have y2 := Int.lt_of_mul_lt_mul_left x2 (by omega)
            have := Int.mul_le_mul_of_nonneg_left h' (Int.le_of_lt hW)
            omega
        have c2 : a.x < v.x := by
          rcases Int.lt_or_le a.x v.x with h' | h'
          · exact h'
          · exfalso
            have m1 := Int.mul_lt_mul_of_pos_left h1 tp
            have m2 := Int.mul_lt_mul_of_pos_left h2 pp
            have x1 : K * (W * a.x) < K * X := by rw [f1, ← Int.mul_assoc, f3]; grind
            have x2 : L * X < L * (W * v.x) := by rw [g1, ← Int.mul_assoc, g3]; grind
            have y1 := Int.lt_of_mul_lt_mul_left x1 (by omega)
            have y2 := Int.lt_of_mul_lt_mul_left x2 (by omega)
            have := Int.mul_le_mul_of_nonneg_left h' (Int.le_of_lt hW)
            omega
        rcases Int.le_total a.x u.x with h' | h'
        · refine .inr (.inr (.inl ⟨b.x - a.x, b.x - u.x, u.x - a.x, by omega, by omega, by omega, by grind, ?_, by omega⟩))
          unfold turnP turnV at hu; grind
        · refine .inl ⟨v.x - u.x, v.x - a.x, a.x - u.x, by omega, by omega, by omega, by grind, ?_, by omega⟩
          unfold turnP turnV at ha; grind
      · -- u v upright, a b not: u = v then
        exfalso
        have : (b.x - a.x) * (v.y - u.y) = 0 := by unfold turnP turnV at ha hb; grind
        rcases Int.mul_eq_zero.1 this with h' | h' <;> omega
    · rcases h2 with rfl | h2 | ⟨h2, h2'⟩
      · exact .inr (.inr (.inl (pnt u a b (p + q) L hL (by omega) (by grind) (by grind) (by omega) e1)))
      · exfalso
        have : (v.x - u.x) * (b.y - a.y) = 0 := by unfold turnP turnV at hu hv; grind
        rcases Int.mul_eq_zero.1 this with h' | h' <;> omega
      · have ex : u.x = a.x := by
          have : (b.y - a.y) * (u.x - a.x) = 0 := by unfold turnP turnV at hu; grind
          rcases Int.mul_eq_zero.1 this with h' | h' <;> omega
        have c1 : u.y < b.y := by
          rcases Int.lt_or_le u.y b.y with h' | h'
          · exact h'
          · exfalso
            have m1 := Int.mul_lt_mul_of_pos_left h1' sp
            have m2 := Int.mul_lt_mul_of_pos_left h2' qp
            have x1 : K * Y < K * (W * b.y) := by rw [f2, ← Int.mul_assoc, f3]; grind
            have x2 : L * (W * u.y) < L * Y := by rw [g2, ← Int.mul_assoc, g3]; grind
            have y1 := Int.lt_of_mul_lt_mul_left x1 (by omega)
            have y2 := Int.lt_of_mul_lt_mul_left x2 (by omega)
            have := Int.mul_le_mul_of_nonneg_left h' (Int.le_of_lt hW)
            omega
        have c2 : a.y < v.y := by
          rcases Int.lt_or_le a.y v.y with h' | h'
          · exact h'
          · exfalso
            have m1 := Int.mul_lt_mul_of_pos_left h1' tp
            have m2 := Int.mul_lt_mul_of_pos_left h2' pp
            have x1 : K * (W * a.y) < K * Y := by rw [f2, ← Int.mul_assoc, f3]; grind
            have x2 : L * Y < L * (W * v.y) := by rw [g2, ← Int.mul_assoc, g3]; grind
            have y1 := Int.lt_of_mul_lt_mul_left x1 (by omega)
            have y2 := Int.lt_of_mul_lt_mul_left x2 (by omega)
            have := Int.mul_le_mul_of_nonneg_left h' (Int.le_of_lt hW)
            omega
        rcases Int.le_total a.y u.y with h' | h'
        · exact .inr (.inr (.inl ⟨b.y - a.y, b.y - u.y, u.y - a.y, by omega, by omega, by omega, by grind, by grind, by omega⟩))
        · exact .inl ⟨v.y - u.y, v.y - a.y, a.y - u.y, by omega, by omega, by omega, by grind, by grind, by omega⟩
  · -- they cross
    refine .inr (.inr (.inr (.inr ?_)))
    have opp : ∀ x y α β : Int, 0 < x → 0 < y → 0 = x * α + y * β → α ≠ 0 → (α < 0 ∧ 0 < β ∨ 0 < α ∧ β < 0) := fun x y α β hx hy e hα => by
      rcases Int.lt_or_lt_of_ne hα with h' | h'
      · have := Int.mul_neg_of_pos_of_neg hx h'
        refine .inl ⟨h', ?_⟩
        rcases Int.lt_or_le 0 β with h'' | h''
        · exact h''
        · have := Int.mul_nonneg (Int.le_of_lt hy) (show 0 ≤ -β by omega)
          rw [Int.mul_neg] at this; omega
      · have := Int.mul_pos hx h'
        refine .inr ⟨h', ?_⟩
        rcases Int.lt_or_le β 0 with h'' | h''
        · exact h''
        · have := Int.mul_nonneg (Int.le_of_lt hy) h''; omega
    have o1 := opp s t _ _ sp tp w1 ha
    have hu : turnP a b u ≠ 0 := fun h' => by
      rw [h', Int.mul_zero, Int.zero_add] at w2
      rcases Int.mul_eq_zero.1 w2.symm with h'' | h'' <;> omega
    have o2 := opp p q _ _ pp qp w2 hu
    unfold CrossS crossB
    simp only [Bool.and_eq_true, decide_eq_true_eq]
    exact ⟨o2, o1⟩

/-- two polygons have a corner in the other one, or sides that cross -/
def Touch (l m : List Pt) : Prop := (∃ k, k < l.length ∧ inside m (nth l k) = true) ∨ (∃ k, k < m.length ∧ inside l (nth m k) = true) ∨ ∃ i j, i < l.length ∧ j < m.length ∧ CrossS (sideP l i) (sideP m j)
theorem Touch.symm {l m : List Pt} (h : Touch l m) : Touch m l := by
  rcases h with h | h | ⟨i, j, hi, hj, h⟩
  · exact .inr (.inl h)
  · exact .inl h
  · exact .inr (.inr ⟨j, i, hj, hi, h.symm⟩)
/-- side 0 of a polygon of one corner or two -/
theorem side_zero {m : List Pt} (h1 : 1 ≤ m.length) (h3 : m.length < 3) : sideP m 0 = (nth m 0, nth m (m.length - 1)) := by
  unfold sideP
  rcases (show m.length = 1 ∨ m.length = 2 by omega) with e | e <;> rw [e]
theorem touch_seg {l m : List Pt} (hl : GoValid l) (hm : GoValid m) (h3 : 3 ≤ l.length) {j : Nat} (hj : j < m.length) {X Y W : Int} (hW : 0 < W) (h1 : InH l X Y W) (h2 : SegH (sideP m j).1 (sideP m j).2 X Y W) : Touch l m := by
  have hc := hl.conv h3
  have nl : ¬ l.length < 3 := by omega
  have j2 : (j + 1) % m.length < m.length := Nat.mod_lt _ (by omega)
  have mk : ∀ x : Pt, (∀ i, i < l.length → 0 ≤ hs (nth l) l.length i x.x x.y 1) → inside l x = true := fun x h => inside_of_inH hl.1 (by unfold InH; rw [if_neg nl]; exact h)
  have h1' : ∀ i, i < l.length → 0 ≤ hs (nth l) l.length i X Y W := by unfold InH at h1; rwa [if_neg nl] at h1
  rcases seg_meets hc hW h1' h2 with h | h | ⟨k, hk, h⟩ | ⟨i, hi, h⟩
  · exact .inr (.inl ⟨j, hj, mk _ h⟩)
  · exact .inr (.inl ⟨(j + 1) % m.length, j2, mk _ h⟩)
  · exact .inl ⟨k, hk, inside_of_inH hm.1 (inH_seg (inH_corner hm hj) (inH_corner hm j2) h)⟩
  · exact .inr (.inr ⟨i, j, hi, hj, h⟩)
theorem touch_big {l m : List Pt} (hl : GoValid l) (hm : GoValid m) (h3 : 3 ≤ l.length) {X Y W : Int} (hW : 0 < W) (h1 : InH l X Y W) (h2 : InH m X Y W) : Touch l m := by
  by_cases m3 : m.length < 3
  · have h2' := h2
    unfold InH at h2'
    rw [if_pos m3] at h2'
    refine touch_seg hl hm h3 (j := 0) hm.1 hW h1 ?_
    rw [side_zero hm.1 m3]; exact h2'
  · by_cases hin : inside m (nth l 0) = true
    · exact .inl ⟨0, hl.1, hin⟩
    have hcm := hm.conv (by omega)
    have h2' : ∀ i, i < m.length → 0 ≤ hs (nth m) m.length i X Y W := by unfold InH at h2; rwa [if_neg m3] at h2
    have hout : ∃ j, j < m.length ∧ hs (nth m) m.length j (nth l 0).x (nth l 0).y 1 < 0 := by
      apply Classical.byContradiction
      intro hc
      refine hin (inside_of_inH hm.1 ?_)
      unfold InH
      rw [if_neg m3]
      intro j hj
      rcases Int.lt_or_le (hturn (sideP m j).1 (sideP m j).2 (nth l 0).x (nth l 0).y 1) 0 with h' | h'
      · exact absurd ⟨j, hj, h'⟩ hc
      · exact h'
    obtain ⟨j, hj, hneg, hall⟩ := exit_at (fun j => hs (nth m) m.length j X Y W) (fun j => hs (nth m) m.length j (nth l 0).x (nth l 0).y 1) m.length h2' hout
    obtain ⟨B, hB⟩ : ∃ B, -(hs (nth m) m.length j (nth l 0).x (nth l 0).y 1) = B := ⟨_, rfl⟩
    obtain ⟨A, hA⟩ : ∃ A, hs (nth m) m.length j X Y W = A := ⟨_, rfl⟩
    simp only [hB, hA] at hall
    have hB0 : 0 < B := by omega
    have hA0 : 0 ≤ A := by have := h2' j hj; omega
    have hq : ∀ i, i < m.length → 0 ≤ hs (nth m) m.length i (B * X + A * (nth l 0).x) (B * Y + A * (nth l 0).y) (B * W + A * 1) := fun i hi => by
      have := hall i hi
      unfold hs at *
      rw [hturn_lin]; exact this
    have hq0 : hs (nth m) m.length j (B * X + A * (nth l 0).x) (B * Y + A * (nth l 0).y) (B * W + A * 1) = 0 := by
      unfold hs at *
      rw [hturn_lin, hA]
      have : hturn (nth m j) (nth m ((j + 1) % m.length)) (nth l 0).x (nth l 0).y 1 = -B := by omega
      rw [this]; grind
    have hqW : 0 < B * W + A * 1 := by have := Int.mul_pos hB0 hW; omega
    have hside := hcm.on_side hq hj hq0
    refine touch_seg hl hm h3 hj hqW ?_ hside
    exact inH_mix (K := 1) (s := B) (t := A) (by omega) (by omega) hA0 (by omega) (by omega) (by omega) h1 (inH_corner hl hl.1)
/-- two polygons that have a point in common touch -/
theorem touch_point {l m : List Pt} (hl : GoValid l) (hm : GoValid m) {X Y W : Int} (hW : 0 < W) (h1 : InH l X Y W) (h2 : InH m X Y W) : Touch l m := by
  by_cases h3 : 3 ≤ l.length
  · exact touch_big hl hm h3 hW h1 h2
  by_cases m3 : 3 ≤ m.length
  · exact (touch_big hm hl m3 hW h2 h1).symm
  have l3 : l.length < 3 := by omega
  have m3' : m.length < 3 := by omega
  have g1 := h1
  have g2 := h2
  unfold InH at g1 g2
  rw [if_pos l3] at g1
  rw [if_pos m3'] at g2
  have inm : ∀ {x : Pt}, SegH (nth m 0) (nth m (m.length - 1)) x.x x.y 1 → inside m x = true := fun h => inside_of_inH hm.1 (by unfold InH; rwa [if_pos m3'])
  have inl : ∀ {x : Pt}, SegH (nth l 0) (nth l (l.length - 1)) x.x x.y 1 → inside l x = true := fun h => inside_of_inH hl.1 (by unfold InH; rwa [if_pos l3])
  have l1 := hl.1
  have m1 := hm.1
  rcases segs_meet (hl.ord l3) (hm.ord m3') hW g1 g2 with h | h | h | h | h
  · exact .inl ⟨0, by omega, inm h⟩
  · exact .inl ⟨l.length - 1, by omega, inm h⟩
  · exact .inr (.inl ⟨0, by omega, inl h⟩)
  · exact .inr (.inl ⟨m.length - 1, by omega, inl h⟩)
  · exact .inr (.inr ⟨0, 0, by omega, by omega, by rw [side_zero l1 l3, side_zero m1 m3']; exact h⟩)
/-- where sides cross, both polygons have the point -/
theorem cross_point {a b c d : Pt} (h : CrossS (a, b) (c, d)) : ∃ X Y W : Int, 0 < W ∧ SegH a b X Y W ∧ SegH c d X Y W := by
  unfold CrossS crossB at h
  simp only [Bool.and_eq_true, decide_eq_true_eq] at h
  obtain ⟨h1, h2⟩ := h
  have df : turnP c d b - turnP c d a = turnP a b c - turnP a b d := by unfold turnP turnV; grind
  have ix : turnP a b d * c.x - turnP a b c * d.x = turnP c d a * b.x - turnP c d b * a.x := by unfold turnP turnV; grind
  have iy : turnP a b d * c.y - turnP a b c * d.y = turnP c d a * b.y - turnP c d b * a.y := by unfold turnP turnV; grind
  generalize turnP a b d = t at *
  generalize turnP a b c = s at *
  generalize turnP c d a = α at *
  generalize turnP c d b = β at *
  rcases Int.lt_or_le s 0 with hs | hs
  · refine ⟨t * c.x - s * d.x, t * c.y - s * d.y, t - s, by omega, ⟨1, -β, α, by omega, by omega, by omega, ?_, ?_, by omega⟩, ⟨1, t, -s, by omega, by omega, by omega, by grind, by grind, by omega⟩⟩
    · rw [ix]; grind
    · rw [iy]; grind
  · refine ⟨s * d.x - t * c.x, s * d.y - t * c.y, s - t, by omega, ⟨1, β, -α, by omega, by omega, by omega, ?_, ?_, by omega⟩, ⟨1, -t, s, by omega, by omega, by omega, by grind, by grind, by omega⟩⟩
    · rw [show s * d.x - t * c.x = -(t * c.x - s * d.x) by omega, ix]; grind
    · rw [show s * d.y - t * c.y = -(t * c.y - s * d.y) by omega, iy]; grind
/-- polygons that touch have a point in common -/
theorem point_touch {l m : List Pt} (hl : GoValid l) (hm : GoValid m) (h : Touch l m) : ∃ X Y W : Int, 0 < W ∧ InH l X Y W ∧ InH m X Y W := by
  rcases h with ⟨k, hk, h⟩ | ⟨k, hk, h⟩ | ⟨i, j, hi, hj, h⟩
  · exact ⟨_, _, 1, by omega, inH_corner hl hk, inH_of_inside hm h⟩
  · exact ⟨_, _, 1, by omega, inH_of_inside hl h, inH_corner hm hk⟩
  · obtain ⟨X, Y, W, hW, h1, h2⟩ := cross_point (a := (sideP l i).1) (b := (sideP l i).2) (c := (sideP m j).1) (d := (sideP m j).2) h
    have i2 : (i + 1) % l.length < l.length := Nat.mod_lt _ (by omega)
    have j2 : (j + 1) % m.length < m.length := Nat.mod_lt _ (by omega)
    exact ⟨X, Y, W, hW, inH_seg (inH_corner hl hi) (inH_corner hl i2) h1, inH_seg (inH_corner hm hj) (inH_corner hm j2) h2⟩
end Go.Proofs.Ytjjkmonfihomnaa
