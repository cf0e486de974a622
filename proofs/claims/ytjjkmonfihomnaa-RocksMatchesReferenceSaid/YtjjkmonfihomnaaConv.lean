/- Plain geometry: two convex polygons that have a point in common touch: a corner of the one lies in the other, or two sides cross. No program here. -/
import Derived.Test.YtjjkmonfihomnaaGeo
namespace Go.Proofs.Ytjjkmonfihomnaa

/-- twice the area of a triangle whose third corner is (X / W, Y / W), times W -/
def hturn (a b : Pt) (X Y W : Int) : Int := (b.x - a.x) * (Y - a.y * W) - (b.y - a.y) * (X - a.x * W)
theorem hturn_one (a b p : Pt) : hturn a b p.x p.y 1 = turnP a b p := by unfold hturn turnP turnV; rw [Int.mul_one, Int.mul_one]
theorem hturn_lin (a b : Pt) (s t X Y W X' Y' W' : Int) : hturn a b (s * X + t * X') (s * Y + t * Y') (s * W + t * W') = s * hturn a b X Y W + t * hturn a b X' Y' W' := by
  unfold hturn; grind
theorem hturn_scale (a b : Pt) (s X Y W : Int) : hturn a b (s * X) (s * Y) (s * W) = s * hturn a b X Y W := by unfold hturn; grind
theorem hturn_fst (a b : Pt) : turnP a b a = 0 := by unfold turnP turnV; grind
theorem hturn_snd (a b : Pt) : turnP a b b = 0 := by unfold turnP turnV; grind
theorem turn_rot (a b c : Pt) : turnP b c a = turnP a b c := by unfold turnP turnV; grind
theorem turn_neg (a b c : Pt) : turnP b a c = -turnP a b c := by unfold turnP turnV; grind

/-- of numbers A i that are not negative and B i, some of which are: at one of them, on the way from A to B, all others are not negative yet -/
theorem exit_at (A B : Nat → Int) : ∀ n : Nat, (∀ i, i < n → 0 ≤ A i) → (∃ i, i < n ∧ B i < 0) → ∃ i, i < n ∧ B i < 0 ∧ ∀ j, j < n → 0 ≤ -(B i) * A j + A i * B j
  | 0, _, h => by obtain ⟨i, h, _⟩ := h; omega
  | n + 1, hA, hB => by
    by_cases hn : ∃ i, i < n ∧ B i < 0
    · obtain ⟨i, hi, hb, hall⟩ := exit_at A B n (fun i h => hA i (by omega)) hn
      by_cases hc : 0 ≤ -(B i) * A n + A i * B n
      · refine ⟨i, by omega, hb, fun j hj => ?_⟩
        by_cases e : j = n
        · rw [e]; exact hc
        · exact hall j (by omega)
      · have hAn := hA n (by omega)
        have hAi := hA i (by omega)
        have hbn : B n < 0 := by
          rcases Int.lt_or_le (B n) 0 with h | h
          · exact h
          · have := Int.mul_nonneg (show 0 ≤ -(B i) by omega) hAn
            have := Int.mul_nonneg hAi h
            omega
        refine ⟨n, by omega, hbn, fun j hj => ?_⟩
        by_cases e : j = n
        · rw [e]
          have : -(B n) * A n + A n * B n = 0 := by grind
          omega
        · have h1 := hall j (by omega)
          have hAj := hA j (by omega)
          -- -(B n) A j + A n B j, from  A n (-(B i)) < A i (-(B n))  and  A i (-(B j)) <= A j (-(B i))
          rcases Int.lt_or_le (B j) 0 with hbj | hbj
          · have e1 : A n * -(B i) ≤ A i * -(B n) := by
              have : -(B i) * A n + A i * B n < 0 := by omega
              have e2 : -(B i) * A n = A n * -(B i) := by grind
              have e3 : A i * -(B n) = -(A i * B n) := by grind
              omega
            have e2 : A i * -(B j) ≤ A j * -(B i) := by
              have e2 : -(B i) * A j = A j * -(B i) := by grind
              have e3 : A i * -(B j) = -(A i * B j) := by grind
              omega
            have m1 := Int.mul_le_mul_of_nonneg_right e1 (show 0 ≤ -(B j) by omega)
            have m2 := Int.mul_le_mul_of_nonneg_right e2 (show 0 ≤ -(B n) by omega)
            have f : A n * -(B j) * -(B i) ≤ A j * -(B n) * -(B i) := by
              have g1 : A n * -(B i) * -(B j) = A n * -(B j) * -(B i) := by grind
              have g2 : A i * -(B n) * -(B j) = A i * -(B j) * -(B n) := by grind
              have g3 : A j * -(B i) * -(B n) = A j * -(B n) * -(B i) := by grind
              omega
            have f2 := Int.le_of_mul_le_mul_right f (show 0 < -(B i) by omega)
            have g1 : -(B n) * A j = A j * -(B n) := by grind
            have g2 : A n * -(B j) = -(A n * B j) := by grind
            omega
          · have := Int.mul_nonneg (show 0 ≤ -(B n) by omega) hAj
            have := Int.mul_nonneg hAn hbj
            omega
    · have hbn : B n < 0 := by
        obtain ⟨i, hi, hb⟩ := hB
        by_cases e : i = n
        · rw [← e]; exact hb
        · exact absurd ⟨i, by omega, hb⟩ hn
      refine ⟨n, by omega, hbn, fun j hj => ?_⟩
      by_cases e : j = n
      · rw [e]
        have : -(B n) * A n + A n * B n = 0 := by grind
        omega
      · have hbj : 0 ≤ B j := by
          rcases Int.lt_or_le (B j) 0 with h | h
          · exact absurd ⟨j, by omega, h⟩ hn
          · exact h
        have := Int.mul_nonneg (show 0 ≤ -(B n) by omega) (hA j (by omega))
        have := Int.mul_nonneg (hA n (by omega)) hbj
        omega

/-- n corners that turn left -/
structure Conv (P : Nat → Pt) (n : Nat) : Prop where
  n3 : 3 ≤ n
  left : ∀ i, i < n → ∀ k, k < n → k ≠ i → k ≠ (i + 1) % n → 0 < turnP (P i) (P ((i + 1) % n)) (P k)
/-- the number of a side at a point -/
def hs (P : Nat → Pt) (n i : Nat) (X Y W : Int) : Int := hturn (P i) (P ((i + 1) % n)) X Y W
theorem Conv.corner {P : Nat → Pt} {n : Nat} (h : Conv P n) {i k : Nat} (hi : i < n) (hk : k < n) : 0 ≤ hs P n i (P k).x (P k).y 1 := by
  unfold hs
  rw [hturn_one]
  by_cases e1 : k = i
  · rw [e1, hturn_fst]; omega
  · by_cases e2 : k = (i + 1) % n
    · rw [e2, hturn_snd]; omega
    · have := h.left i hi k hk e1 e2; omega
/-- a point lies between two others -/
def SegH (a b : Pt) (X Y W : Int) : Prop := ∃ K s t : Int, 0 < K ∧ 0 ≤ s ∧ 0 ≤ t ∧ K * X = s * a.x + t * b.x ∧ K * Y = s * a.y + t * b.y ∧ K * W = s + t
theorem nx_lt {n i : Nat} (h : 3 ≤ n) : (i + 1) % n < n := Nat.mod_lt _ (by omega)
theorem nx_val {n i : Nat} (h : i < n) : (i + 1) % n = if i + 1 = n then 0 else i + 1 := by
  split
  · rename_i e; rw [e, Nat.mod_self]
  · rw [Nat.mod_eq_of_lt (by omega)]
/-- a point of a polygon on a side's line lies between the side's corners -/
theorem Conv.on_side {P : Nat → Pt} {n : Nat} (h : Conv P n) {X Y W : Int} (hin : ∀ j, j < n → 0 ≤ hs P n j X Y W) {i : Nat} (hi : i < n) (h0 : hs P n i X Y W = 0) : SegH (P i) (P ((i + 1) % n)) X Y W := by
  have n3 := h.n3
  have l1 := nx_lt (i := i) n3
  have l2 := nx_lt (i := (i + 1) % n) n3
  have v1 := nx_val hi
  have v2 := nx_val l1
  obtain ⟨p, hp, hpn⟩ : ∃ p, p < n ∧ (p + 1) % n = i := by
    rcases Nat.eq_zero_or_pos i with e | e
    · exact ⟨n - 1, by omega, by rw [show n - 1 + 1 = n by omega, Nat.mod_self]; omega⟩
    · exact ⟨i - 1, by omega, by rw [show i - 1 + 1 = i by omega, Nat.mod_eq_of_lt hi]⟩
  have vp := nx_val hp
  have ne : i ≠ (i + 1) % n ∧ i ≠ ((i + 1) % n + 1) % n ∧ (i + 1) % n ≠ p ∧ (i + 1) % n ≠ (p + 1) % n := by
    clear h0 hin l1 l2
    rw [hpn] at vp ⊢
    revert v1 v2 vp
    generalize (i + 1) % n = q
    generalize (q + 1) % n = r
    intro v1 v2 vp
    split at v1 <;> split at v2 <;> split at vp <;> omega
  have T1 := h.left _ l1 i hi ne.1 ne.2.1
  have T2 := h.left p hp ((i + 1) % n) l1 ne.2.2.1 ne.2.2.2
  have q1 := hin _ l1
  have q2 := hin p hp
  unfold hs at *
  rw [hpn] at T2 q2
  generalize P i = c at *
  generalize P ((i + 1) % n) = d at *
  generalize P (((i + 1) % n + 1) % n) = e at *
  generalize P p = f at *
  clear v1 v2 vp ne l1 l2 hpn hp hi hin h n3
  have ex : turnP d e c * X = hturn d e X Y W * c.x + (turnP d e c * W - hturn d e X Y W) * d.x := by
    unfold turnP turnV hturn at *; grind
  have ey : turnP d e c * Y = hturn d e X Y W * c.y + (turnP d e c * W - hturn d e X Y W) * d.y := by
    unfold turnP turnV hturn at *; grind
  refine ⟨turnP d e c, hturn d e X Y W, turnP d e c * W - hturn d e X Y W, T1, q1, ?_, ex, ey, by omega⟩
  have key : turnP d e c * hturn f c X Y W = (turnP d e c * W - hturn d e X Y W) * turnP f c d := by
    have := hturn_scale f c (turnP d e c) X Y W
    rw [← this, ex, ey]
    unfold turnP turnV hturn; grind
  have h1 := Int.mul_nonneg (Int.le_of_lt T1) q2
  rw [key] at h1
  rcases Int.lt_or_le (turnP d e c * W - hturn d e X Y W) 0 with hh | hh
  · have := Int.mul_neg_of_neg_of_pos hh T2
    omega
  · exact hh
end Go.Proofs.Ytjjkmonfihomnaa
