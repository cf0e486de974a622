/- Plain: what the laws say of legs. -/
import Derived.Test.YtjnjmpakmgmdbaaGrow
namespace Go.Proofs.Ytjnjmpakmgmdbaa

theorem sq_le {a b : Int} (hb : 0 ≤ b) (h : a * a ≤ b * b) : a ≤ b := by
  rcases Int.lt_or_le b a with h1 | h1
  · have := Int.mul_le_mul (show b + 1 ≤ a by omega) (show b + 1 ≤ a by omega) (by omega) (by omega)
    have e : (b + 1) * (b + 1) = b * b + 2 * b + 1 := by rw [Int.add_mul, Int.mul_add]; omega
    omega
  · exact h1
theorem cauchy (a b c d : Int) : (a * c + b * d) * (a * c + b * d) ≤ (a * a + b * b) * (c * c + d * d) := by
  have h : (a * a + b * b) * (c * c + d * d) - (a * c + b * d) * (a * c + b * d) = (a * d - b * c) * (a * d - b * c) := by grind
  have := sq_bd (a := a * d - b * c) (m := if 0 ≤ a * d - b * c then a * d - b * c else -(a * d - b * c)) (by split <;> omega) (by split <;> omega)
  omega
theorem dist_tri (ax ay bx by' cx cy : Int) : distV ax ay bx by' ≤ distV ax ay cx cy + distV cx cy bx by' := by
  unfold distV
  have nn : ∀ u v : Int, 0 ≤ u * u + v * v := fun u v => by
    have h1 := sq_bd (a := u) (m := if 0 ≤ u then u else -u) (by split <;> omega) (by split <;> omega)
    have h2 := sq_bd (a := v) (m := if 0 ≤ v then v else -v) (by split <;> omega) (by split <;> omega)
    omega
  have e1 := rootUp_spec (nn (ax - cx) (ay - cy))
  have e2 := rootUp_spec (nn (cx - bx) (cy - by'))
  have e3 := rootUp_spec (nn (ax - bx) (ay - by'))
  refine e3.2.2 _ (by omega) ?_
  have hc := cauchy (ax - cx) (ay - cy) (cx - bx) (cy - by')
  generalize rootUp ((ax - cx) * (ax - cx) + (ay - cy) * (ay - cy)) = r at *
  generalize rootUp ((cx - bx) * (cx - bx) + (cy - by') * (cy - by')) = q at *
  have hs1 := nn (ax - cx) (ay - cy)
  have hs2 := nn (cx - bx) (cy - by')
  have hx : (ax - bx) * (ax - bx) + (ay - by') * (ay - by') = ((ax - cx) * (ax - cx) + (ay - cy) * (ay - cy)) + ((cx - bx) * (cx - bx) + (cy - by') * (cy - by')) + 2 * ((ax - cx) * (cx - bx) + (ay - cy) * (cy - by')) := by grind
  generalize (ax - cx) * (ax - cx) + (ay - cy) * (ay - cy) = s1 at *
  generalize (cx - bx) * (cx - bx) + (cy - by') * (cy - by') = s2 at *
  generalize (ax - cx) * (cx - bx) + (ay - cy) * (cy - by') = d at *
  have hm : s1 * s2 ≤ (r * r) * (q * q) := Int.mul_le_mul e1.2.1 e2.2.1 hs2 (by have := Int.mul_nonneg e1.1 e1.1; omega)
  have hd : d ≤ r * q := sq_le (Int.mul_nonneg e1.1 e2.1) (by
    have : (r * q) * (r * q) = (r * r) * (q * q) := by grind
    omega)
  have hsum : (r + q) * (r + q) = r * r + q * q + 2 * (r * q) := by grind
  omega
theorem dist_zero {ax ay bx by' : Int} (h : distV ax ay bx by' = 0) : ax = bx ∧ ay = by' := by
  unfold distV at h
  have h1 := sq_bd (a := ax - bx) (m := if 0 ≤ ax - bx then ax - bx else -(ax - bx)) (by split <;> omega) (by split <;> omega)
  have h2 := sq_bd (a := ay - by') (m := if 0 ≤ ay - by' then ay - by' else -(ay - by')) (by split <;> omega) (by split <;> omega)
  have e := rootUp_spec (s := (ax - bx) * (ax - bx) + (ay - by') * (ay - by')) (by omega)
  rw [h] at e
  have z1 : (ax - bx) * (ax - bx) = 0 := by omega
  have z2 : (ay - by') * (ay - by') = 0 := by omega
  have f1 := Int.mul_eq_zero.1 z1
  have f2 := Int.mul_eq_zero.1 z2
  omega
theorem lasts_law {speed n : Int} (h1 : 0 ≤ n) (h3 : 1 ≤ speed) : 100 * n ≤ lastsV speed n * speed ∧ (lastsV speed n - 1) * speed < 100 * n := by
  have := cdiv_bd (a := 100 * n) (b := speed) (by omega) h3
  exact ⟨this.2.2.1, this.2.2.2⟩
theorem growth_law {speed part flow n : Int} (h1 : 0 ≤ n * part) (h2 : 0 ≤ lastsV speed n * flow) :
    0 ≤ 1000 * growthV speed part flow n - n * part - 10 * lastsV speed n * flow ∧ 1000 * growthV speed part flow n - n * part - 10 * lastsV speed n * flow < 2000 := by
  have a := cdiv_bd (a := n * part) (b := 1000) h1 (by omega)
  have b := cdiv_bd (a := lastsV speed n * flow) (b := 100) h2 (by omega)
  unfold growthV
  have e : 10 * lastsV speed n * flow = 10 * (lastsV speed n * flow) := Int.mul_assoc _ _ _
  rw [e]
  generalize cdiv (n * part) 1000 = c1 at *
  generalize cdiv (lastsV speed n * flow) 100 = c2 at *
  generalize n * part = s at *
  generalize lastsV speed n * flow = t at *
  omega
end Go.Proofs.Ytjnjmpakmgmdbaa
