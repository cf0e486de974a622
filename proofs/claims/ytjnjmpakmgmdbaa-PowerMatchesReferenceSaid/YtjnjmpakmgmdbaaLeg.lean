/- Plain mathematics of legs: lengths, times, growths. No program here. -/
import Derived.Test.YtjnjmpakmgmdbaaMsn
import Derived.Test.YtjnjmpakmgmdbaaExactC
namespace Go.Proofs.Ytjnjmpakmgmdbaa

/-- the root, rounded up -/
def rootUp (s : Int) : Int := if (isqrt s.toNat : Int) * isqrt s.toNat < s then (isqrt s.toNat : Int) + 1 else isqrt s.toNat
def distV (ax ay bx by' : Int) : Int := rootUp ((ax - bx) * (ax - bx) + (ay - by') * (ay - by'))
def lastsV (speed n : Int) : Int := cdiv (100 * n) speed
def growthV (speed part flow n : Int) : Int := cdiv (n * part) 1000 + cdiv (lastsV speed n * flow) 100

theorem rootUp_spec {s : Int} (h : 0 ≤ s) : 0 ≤ rootUp s ∧ s ≤ rootUp s * rootUp s ∧ (∀ r : Int, 0 ≤ r → s ≤ r * r → rootUp s ≤ r) := by
  have ⟨h1, h2⟩ := isqrt_spec s.toNat
  have e : (s.toNat : Int) = s := by omega
  have h1' : (isqrt s.toNat : Int) * isqrt s.toNat ≤ s := by rw [← e]; exact_mod_cast h1
  have h2' : s < ((isqrt s.toNat : Int) + 1) * ((isqrt s.toNat : Int) + 1) := by rw [← e]; exact_mod_cast h2
  unfold rootUp
  generalize hr : (isqrt s.toNat : Int) = r at *
  have r0 : 0 ≤ r := by omega
  split
  · rename_i hlt
    refine ⟨by omega, by omega, fun q hq hs => ?_⟩
    rcases Int.lt_or_le r q with h | h
    · omega
    · have := Int.mul_le_mul h h hq r0; omega
  · rename_i hlt
    refine ⟨r0, by omega, fun q hq hs => ?_⟩
    rcases Int.lt_or_le q r with h | h
    · have := Int.mul_le_mul (show q + 1 ≤ r by omega) (show q + 1 ≤ r by omega) (by omega) r0
      have e2 : (q + 1) * (q + 1) = q * q + 2 * q + 1 := by rw [Int.add_mul, Int.mul_add]; omega
      omega
    · exact h

theorem isqrt_le {m n : Nat} (h : m ≤ n * n) : isqrt m ≤ n := by
  have ⟨h1, _⟩ := isqrt_spec m
  have := sq_lt (a := isqrt m) (b := n + 1) (by rw [Nat.add_mul, Nat.mul_add]; omega)
  omega

theorem sq_bd {a m : Int} (h1 : -m ≤ a) (h2 : a ≤ m) : 0 ≤ a * a ∧ a * a ≤ m * m := by
  have := prod_bd h1 h2 h1 h2
  rcases Int.le_total 0 a with h | h
  · have := Int.mul_nonneg h h; omega
  · have := Int.mul_nonneg_of_nonpos_of_nonpos h h; omega

/-- a length between places that are near -/
theorem dist_bd {ax ay bx by' : Int} (a1 : -300000 ≤ ax) (a2 : ax ≤ 300000) (a3 : -300000 ≤ ay) (a4 : ay ≤ 300000) (b1 : -300000 ≤ bx) (b2 : bx ≤ 300000) (b3 : -300000 ≤ by') (b4 : by' ≤ 300000) :
    0 ≤ (ax - bx) * (ax - bx) + (ay - by') * (ay - by') ∧ (ax - bx) * (ax - bx) + (ay - by') * (ay - by') ≤ 720000000000 ∧ 0 ≤ distV ax ay bx by' ∧ distV ax ay bx by' ≤ 900000 := by
  have h1 := sq_bd (a := ax - bx) (m := 600000) (by omega) (by omega)
  have h2 := sq_bd (a := ay - by') (m := 600000) (by omega) (by omega)
  have h3 := rootUp_spec (s := (ax - bx) * (ax - bx) + (ay - by') * (ay - by')) (by omega)
  refine ⟨by omega, by omega, h3.1, h3.2.2 900000 (by omega) (by omega)⟩

theorem cdiv_bd {a b : Int} (ha : 0 ≤ a) (hb : 1 ≤ b) : 0 ≤ cdiv a b ∧ cdiv a b ≤ a ∧ a ≤ cdiv a b * b ∧ (cdiv a b - 1) * b < a := by
  have e : b * (a / b) + a % b = a := Int.mul_ediv_add_emod a b
  have f1 := Int.emod_nonneg a (b := b) (by omega)
  have f2 := Int.emod_lt_of_pos a (b := b) (by omega)
  have q0 := Int.ediv_nonneg (a := a) (b := b) ha (by omega)
  unfold cdiv upV
  rw [Int.fdiv_eq_ediv_of_nonneg _ (by omega), Int.fmod_eq_emod_of_nonneg _ (by omega)]
  generalize a / b = q at *
  generalize a % b = r at *
  have qb : q ≤ b * q := by have := Int.mul_le_mul_of_nonneg_right hb q0; rw [Int.one_mul] at this; exact this
  have c : q * b = b * q := Int.mul_comm q b
  split
  · refine ⟨q0, by omega, by omega, ?_⟩
    rw [Int.sub_mul]; omega
  · refine ⟨by omega, by omega, ?_, ?_⟩
    · rw [Int.add_mul]; omega
    · rw [show q + 1 - 1 = q by omega]; omega

theorem lasts_bd {speed n : Int} (h1 : 0 ≤ n) (h2 : n ≤ 900000) (h3 : 1 ≤ speed) : 0 ≤ lastsV speed n ∧ lastsV speed n ≤ 90000000 := by
  have := cdiv_bd (a := 100 * n) (b := speed) (by omega) h3
  unfold lastsV; omega

theorem growth_bd {speed part flow n : Int} (h1 : 0 ≤ n) (h2 : n ≤ 900000) (h3 : 1 ≤ speed) (p1 : 0 ≤ part) (p2 : part ≤ 500) (f1 : 0 ≤ flow) (f2 : flow ≤ 5000) :
    0 ≤ n * part ∧ n * part ≤ 450000000 ∧ 0 ≤ lastsV speed n * flow ∧ lastsV speed n * flow ≤ 450000000000 ∧ 0 ≤ growthV speed part flow n ∧ growthV speed part flow n ≤ 1000000000000 := by
  have l := lasts_bd h1 h2 h3
  have a := Int.mul_nonneg h1 p1
  have b := Int.mul_le_mul h2 p2 p1 (by omega)
  have c := Int.mul_nonneg l.1 f1
  have d := Int.mul_le_mul l.2 f2 f1 (by omega)
  have e := cdiv_bd (a := n * part) (b := 1000) (by omega) (by omega)
  have f := cdiv_bd (a := lastsV speed n * flow) (b := 100) (by omega) (by omega)
  unfold growthV
  omega

theorem dist_self (x y : Int) : distV x y x y = 0 := by
  unfold distV; rw [Int.sub_self, Int.sub_self]; rfl
theorem dist_comm (ax ay bx by' : Int) : distV ax ay bx by' = distV bx by' ax ay := by
  unfold distV
  have e : ∀ a b : Int, (a - b) * (a - b) = (b - a) * (b - a) := fun a b => by rw [← Int.neg_sub b a, Int.neg_mul_neg]
  rw [e ax bx, e ay by']
theorem lasts_zero (speed : Int) : lastsV speed 0 = 0 := by simp [lastsV, cdiv, upV]
theorem growth_zero (speed part flow : Int) : growthV speed part flow 0 = 0 := by simp [growthV, lasts_zero, cdiv, upV]
end Go.Proofs.Ytjnjmpakmgmdbaa
