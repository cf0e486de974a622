/- Plain mathematics of legs: lengths, times, growths. No program here. | Plain: the growths of all legs of a mission. | Plain: what the laws say of legs. | Plain: the route home. | Plain: the growths of a way out and of the route home. -/
import Derived.Test.YtjnjmpakmgmdbaaMsn
import Derived.Test.YtjnjmpakmgmdbaaExact
namespace Go.Proofs.Ytjnjmpakmgmdbaa

/-- the root, rounded up -/
def rootUp (s : Int) : Int := if (isqrt s.toNat : Int) * isqrt s.toNat < s then (isqrt s.toNat : Int) + 1 else isqrt s.toNat
def distV (ax ay bx by' : Int) : Int := rootUp ((ax - bx) * (ax - bx) + (ay - by') * (ay - by'))
def lastsV (speed n : Int) : Int := cdiv (100 * n) speed
def growthV (speed part flow n : Int) : Int := cdiv (n * part) 1000 + cdiv (lastsV speed n * flow) 100

theorem rootUp_spec {s : Int} (h : 0 ≤ s) : 0 ≤ rootUp s ∧ s ≤ rootUp s * rootUp s ∧ (∀ r : Int, 0 ≤ r → s ≤ r * r → rootUp s ≤ r) := by
  have ⟨h1, h2⟩ := isqrt_spec s.toNat
  have e : (s.toNat : Int) = s := by omega
  have h1' : (isqrt s.toNat : Int) * isqrt s.toNat ≤ s := by rw [← e]; exact_mod_cast h1
  have h2' : s < ((isqrt s.toNat : Int) + 1) * ((isqrt s.toNat : Int) + 1) := by rw [← e]; exact_mod_cast h2
  unfold rootUp
  generalize hr : (isqrt s.toNat : Int) = r at *
  have r0 : 0 ≤ r := by omega
  split
  · rename_i hlt
    refine ⟨by omega, by omega, fun q hq hs => ?_⟩
    rcases Int.lt_or_le r q with h | h
    · omega
    · have := Int.mul_le_mul h h hq r0; omega
  · rename_i hlt
    refine ⟨r0, by omega, fun q hq hs => ?_⟩
    rcases Int.lt_or_le q r with h | h
    · have := Int.mul_le_mul (show q + 1 ≤ r by omega) (show q + 1 ≤ r by omega) (by omega) r0
      have e2 : (q + 1) * (q + 1) = q * q + 2 * q + 1 := by rw [Int.add_mul, Int.mul_add]; omega
      omega
    · exact h

theorem isqrt_le {m n : Nat} (h : m ≤ n * n) : isqrt m ≤ n := by
  have ⟨h1, _⟩ := isqrt_spec m
  have := sq_lt (a := isqrt m) (b := n + 1) (by rw [Nat.add_mul, Nat.mul_add]; omega)
  omega

theorem sq_bd {a m : Int} (h1 : -m ≤ a) (h2 : a ≤ m) : 0 ≤ a * a ∧ a * a ≤ m * m := by
  have := prod_bd h1 h2 h1 h2
  rcases Int.le_total 0 a with h | h
  · have := Int.mul_nonneg h h; omega
  · have := Int.mul_nonneg_of_nonpos_of_nonpos h h; omega

/-- a length between places that are near -/
theorem dist_bd {ax ay bx by' : Int} (a1 : -300000 ≤ ax) (a2 : ax ≤ 300000) (a3 : -300000 ≤ ay) (a4 : ay ≤ 300000) (b1 : -300000 ≤ bx) (b2 : bx ≤ 300000) (b3 : -300000 ≤ by') (b4 : by' ≤ 300000) :
    0 ≤ (ax - bx) * (ax - bx) + (ay - by') * (ay - by') ∧ (ax - bx) * (ax - bx) + (ay - by') * (ay - by') ≤ 720000000000 ∧ 0 ≤ distV ax ay bx by' ∧ distV ax ay bx by' ≤ 900000 := by
  have h1 := sq_bd (a := ax - bx) (m := 600000) (by omega) (by omega)
  have h2 := sq_bd (a := ay - by') (m := 600000) (by omega) (by omega)
  have h3 := rootUp_spec (s := (ax - bx) * (ax - bx) + (ay - by') * (ay - by')) (by omega)
  refine ⟨by omega, by omega, h3.1, h3.2.2 900000 (by omega) (by omega)⟩

theorem cdiv_bd {a b : Int} (ha : 0 ≤ a) (hb : 1 ≤ b) : 0 ≤ cdiv a b ∧ cdiv a b ≤ a ∧ a ≤ cdiv a b * b ∧ (cdiv a b - 1) * b < a := by
  have e : b * (a / b) + a % b = a := Int.mul_ediv_add_emod a b
  have f1 := Int.emod_nonneg a (b := b) (by omega)
  have f2 := Int.emod_lt_of_pos a (b := b) (by omega)
  have q0 := Int.ediv_nonneg (a := a) (b := b) ha (by omega)
  unfold cdiv upV
  rw [Int.fdiv_eq_ediv_of_nonneg _ (by omega), Int.fmod_eq_emod_of_nonneg _ (by omega)]
  generalize a / b = q at *
  generalize a % b = r at *
  have qb : q ≤ b * q := by have := Int.mul_le_mul_of_nonneg_right hb q0; rw [Int.one_mul] at this; exact this
  have c : q * b = b * q := Int.mul_comm q b
  split
  · refine ⟨q0, by omega, by omega, ?_⟩
    rw [Int.sub_mul]; omega
  · refine ⟨by omega, by omega, ?_, ?_⟩
    · rw [Int.add_mul]; omega
    · rw [show q + 1 - 1 = q by omega]; omega

theorem lasts_bd {speed n : Int} (h1 : 0 ≤ n) (h2 : n ≤ 900000) (h3 : 1 ≤ speed) : 0 ≤ lastsV speed n ∧ lastsV speed n ≤ 90000000 := by
  have := cdiv_bd (a := 100 * n) (b := speed) (by omega) h3
  unfold lastsV; omega

theorem growth_bd {speed part flow n : Int} (h1 : 0 ≤ n) (h2 : n ≤ 900000) (h3 : 1 ≤ speed) (p1 : 0 ≤ part) (p2 : part ≤ 500) (f1 : 0 ≤ flow) (f2 : flow ≤ 5000) :
    0 ≤ n * part ∧ n * part ≤ 450000000 ∧ 0 ≤ lastsV speed n * flow ∧ lastsV speed n * flow ≤ 450000000000 ∧ 0 ≤ growthV speed part flow n ∧ growthV speed part flow n ≤ 1000000000000 := by
  have l := lasts_bd h1 h2 h3
  have a := Int.mul_nonneg h1 p1
  have b := Int.mul_le_mul h2 p2 p1 (by omega)
  have c := Int.mul_nonneg l.1 f1
  have d := Int.mul_le_mul l.2 f2 f1 (by omega)
  have e := cdiv_bd (a := n * part) (b := 1000) (by omega) (by omega)
  have f := cdiv_bd (a := lastsV speed n * flow) (b := 100) (by omega) (by omega)
  unfold growthV
  omega

theorem dist_self (x y : Int) : distV x y x y = 0 := by
  unfold distV; rw [Int.sub_self, Int.sub_self]; rfl
theorem dist_comm (ax ay bx by' : Int) : distV ax ay bx by' = distV bx by' ax ay := by
  unfold distV
  have e : ∀ a b : Int, (a - b) * (a - b) = (b - a) * (b - a) := fun a b => by rw [← Int.neg_sub b a, Int.neg_mul_neg]
  rw [e ax bx, e ay by']
theorem lasts_zero (speed : Int) : lastsV speed 0 = 0 := by simp [lastsV, cdiv, upV]
theorem growth_zero (speed part flow : Int) : growthV speed part flow 0 = 0 := by simp [growthV, lasts_zero, cdiv, upV]
end Go.Proofs.Ytjnjmpakmgmdbaa

namespace Go.Proofs.Ytjnjmpakmgmdbaa

/-- the numbers of a mission that legs are reckoned from -/
def legOk (m : Msn) : Prop := 1 ≤ m.speed ∧ m.speed ≤ 20000 ∧ 0 ≤ m.part ∧ m.part ≤ 500 ∧ 0 ≤ m.flow ∧ m.flow ≤ 5000
def nearP (x y : Int) : Prop := -300000 ≤ x ∧ x ≤ 300000 ∧ -300000 ≤ y ∧ y ≤ 300000

/-- all ways are well-formed -/
def waysB (l : List Wy) : Bool := decide (∀ j, j < l.length → wayB j (wy l j) = true)
theorem waysB_at {l : List Wy} (h : waysB l = true) {j : Nat} (hj : j < l.length) : wayB j (wy l j) = true := (of_decide_eq_true h) j hj
theorem way_near {l : List Wy} (h : waysB l = true) {j : Nat} (hj : j < l.length) : nearP (wy l j).x (wy l j).y := by
  have := wayB_true (waysB_at h hj); unfold nearP; omega
theorem way_back {l : List Wy} (h : waysB l = true) {j : Nat} (hj : j < l.length) : 0 ≤ (wy l j).back ∧ (wy l j).back ≤ ((j - 1 : Nat) : Int) ∧ (wy l j).back < l.length := by
  have := wayB_true (waysB_at h hj); omega

/-- length, time, growth of a leg -/
def dLeg (m : Msn) (i j : Nat) : Int := distV (wy m.ways i).x (wy m.ways i).y (wy m.ways j).x (wy m.ways j).y
def tLeg (m : Msn) (i j : Nat) : Int := lastsV m.speed (dLeg m i j)
def gLeg (m : Msn) (i j : Nat) : Int := growthV m.speed m.part m.flow (dLeg m i j)
def grownTo (m : Msn) : Nat → Int
  | 0 => m.start
  | k + 1 => grownTo m k + (gLeg m k (k + 1) + gLeg m (k + 1) (wy m.ways (k + 1)).back.toNat)
def grownV (m : Msn) : Int := grownTo m (m.ways.length - 1)

theorem dLeg_bd {m : Msn} (hw : waysB m.ways = true) {i j : Nat} (hi : i < m.ways.length) (hj : j < m.ways.length) : 0 ≤ dLeg m i j ∧ dLeg m i j ≤ 900000 := by
  obtain ⟨a1, a2, a3, a4⟩ := way_near hw hi
  obtain ⟨b1, b2, b3, b4⟩ := way_near hw hj
  have := dist_bd a1 a2 a3 a4 b1 b2 b3 b4
  exact ⟨this.2.2.1, this.2.2.2⟩
theorem tLeg_bd {m : Msn} (hm : legOk m) (hw : waysB m.ways = true) {i j : Nat} (hi : i < m.ways.length) (hj : j < m.ways.length) : 0 ≤ tLeg m i j ∧ tLeg m i j ≤ 90000000 :=
  lasts_bd (dLeg_bd hw hi hj).1 (dLeg_bd hw hi hj).2 hm.1
theorem gLeg_bd {m : Msn} (hm : legOk m) (hw : waysB m.ways = true) {i j : Nat} (hi : i < m.ways.length) (hj : j < m.ways.length) : 0 ≤ gLeg m i j ∧ gLeg m i j ≤ 1000000000000 := by
  obtain ⟨m1, m2, m3, m4, m5, m6⟩ := hm
  have d := dLeg_bd hw hi hj
  have := growth_bd (speed := m.speed) (part := m.part) (flow := m.flow) d.1 d.2 m1 m3 m4 m5 m6
  exact ⟨this.2.2.2.2.1, this.2.2.2.2.2⟩
theorem grownTo_bd {m : Msn} (hm : legOk m) (hs : 0 ≤ m.start ∧ m.start ≤ 100000) (hw : waysB m.ways = true) : ∀ k : Nat, k < m.ways.length → m.start ≤ grownTo m k ∧ grownTo m k ≤ 100000 + k * 2000000000000
  | 0, _ => by simp [grownTo]; omega
  | k + 1, h => by
    have ih := grownTo_bd hm hs hw k (by omega)
    have g1 := gLeg_bd hm hw (i := k) (j := k + 1) (by omega) h
    have b := way_back hw h
    have g2 := gLeg_bd hm hw (i := k + 1) (j := (wy m.ways (k + 1)).back.toNat) h (by omega)
    simp only [grownTo]
    omega
theorem grownTo_mono {m : Msn} (hm : legOk m) (hs : 0 ≤ m.start ∧ m.start ≤ 100000) (hw : waysB m.ways = true) (i : Nat) : ∀ k : Nat, i ≤ k → k < m.ways.length → grownTo m i ≤ grownTo m k
  | 0, h, _ => by obtain rfl : i = 0 := by omega
                  exact Int.le_refl _
  | k + 1, h, h' => by
    by_cases e : i = k + 1
    · rw [e]; exact Int.le_refl _
    · have ih := grownTo_mono hm hs hw i k (by omega) (by omega)
      have g1 := gLeg_bd hm hw (i := k) (j := k + 1) (by omega) h'
      have b := way_back hw h'
      have g2 := gLeg_bd hm hw (i := k + 1) (j := (wy m.ways (k + 1)).back.toNat) h' (by omega)
      simp only [grownTo]
      omega
end Go.Proofs.Ytjnjmpakmgmdbaa

namespace Go.Proofs.Ytjnjmpakmgmdbaa

theorem sq_le {a b : Int} (hb : 0 ≤ b) (h : a * a ≤ b * b) : a ≤ b := by
  rcases Int.lt_or_le b a with h1 | h1
  · have := Int.mul_le_mul (show b + 1 ≤ a by omega) (show b + 1 ≤ a by omega) (by omega) (by omega)
    have e : (b + 1) * (b + 1) = b * b + 2 * b + 1 := by rw [Int.add_mul, Int.mul_add]; omega
    omega
  · exact h1
theorem cauchy (a b c d : Int) : (a * c + b * d) * (a * c + b * d) ≤ (a * a + b * b) * (c * c + d * d) := by
  have h : (a * a + b * b) * (c * c + d * d) - (a * c + b * d) * (a * c + b * d) = (a * d - b * c) * (a * d - b * c) := by grind
  have := sq_bd (a := a * d - b * c) (m := if 0 ≤ a * d - b * c then a * d - b * c else -(a * d - b * c)) (by split <;> omega) (by split <;> omega)
  omega
theorem dist_tri (ax ay bx by' cx cy : Int) : distV ax ay bx by' ≤ distV ax ay cx cy + distV cx cy bx by' := by
  unfold distV
  have nn : ∀ u v : Int, 0 ≤ u * u + v * v := fun u v => by
    have h1 := sq_bd (a := u) (m := if 0 ≤ u then u else -u) (by split <;> omega) (by split <;> omega)
    have h2 := sq_bd (a := v) (m := if 0 ≤ v then v else -v) (by split <;> omega) (by split <;> omega)
    omega
  have e1 := rootUp_spec (nn (ax - cx) (ay - cy))
  have e2 := rootUp_spec (nn (cx - bx) (cy - by'))
  have e3 := rootUp_spec (nn (ax - bx) (ay - by'))
  refine e3.2.2 _ (by omega) ?_
  have hc := cauchy (ax - cx) (ay - cy) (cx - bx) (cy - by')
  generalize rootUp ((ax - cx) * (ax - cx) + (ay - cy) * (ay - cy)) = r at *
  generalize rootUp ((cx - bx) * (cx - bx) + (cy - by') * (cy - by')) = q at *
  have hs1 := nn (ax - cx) (ay - cy)
  have hs2 := nn (cx - bx) (cy - by')
  have hx : (ax - bx) * (ax - bx) + (ay - by') * (ay - by') = ((ax - cx) * (ax - cx) + (ay - cy) * (ay - cy)) + ((cx - bx) * (cx - bx) + (cy - by') * (cy - by')) + 2 * ((ax - cx) * (cx - bx) + (ay - cy) * (cy - by')) := by grind
  generalize (ax - cx) * (ax - cx) + (ay - cy) * (ay - cy) = s1 at *
  generalize (cx - bx) * (cx - bx) + (cy - by') * (cy - by') = s2 at *
  generalize (ax - cx) * (cx - bx) + (ay - cy) * (cy - by') = d at *
  have hm : s1 * s2 ≤ (r * r) * (q * q) := Int.mul_le_mul e1.2.1 e2.2.1 hs2 (by have := Int.mul_nonneg e1.1 e1.1; omega)
  have hd : d ≤ r * q := sq_le (Int.mul_nonneg e1.1 e2.1) (by
    have : (r * q) * (r * q) = (r * r) * (q * q) := by grind
    omega)
  have hsum : (r + q) * (r + q) = r * r + q * q + 2 * (r * q) := by grind
  omega
theorem dist_zero {ax ay bx by' : Int} (h : distV ax ay bx by' = 0) : ax = bx ∧ ay = by' := by
  unfold distV at h
  have h1 := sq_bd (a := ax - bx) (m := if 0 ≤ ax - bx then ax - bx else -(ax - bx)) (by split <;> omega) (by split <;> omega)
  have h2 := sq_bd (a := ay - by') (m := if 0 ≤ ay - by' then ay - by' else -(ay - by')) (by split <;> omega) (by split <;> omega)
  have e := rootUp_spec (s := (ax - bx) * (ax - bx) + (ay - by') * (ay - by')) (by omega)
  rw [h] at e
  have z1 : (ax - bx) * (ax - bx) = 0 := by omega
  have z2 : (ay - by') * (ay - by') = 0 := by omega
  have f1 := Int.mul_eq_zero.1 z1
  have f2 := Int.mul_eq_zero.1 z2
  omega
theorem lasts_law {speed n : Int} (h1 : 0 ≤ n) (h3 : 1 ≤ speed) : 100 * n ≤ lastsV speed n * speed ∧ (lastsV speed n - 1) * speed < 100 * n := by
  have := cdiv_bd (a := 100 * n) (b := speed) (by omega) h3
  exact ⟨this.2.2.1, this.2.2.2⟩
theorem growth_law {speed part flow n : Int} (h1 : 0 ≤ n * part) (h2 : 0 ≤ lastsV speed n * flow) :
    0 ≤ 1000 * growthV speed part flow n - n * part - 10 * lastsV speed n * flow ∧ 1000 * growthV speed part flow n - n * part - 10 * lastsV speed n * flow < 2000 := by
  have a := cdiv_bd (a := n * part) (b := 1000) h1 (by omega)
  have b := cdiv_bd (a := lastsV speed n * flow) (b := 100) h2 (by omega)
  unfold growthV
  have e : 10 * lastsV speed n * flow = 10 * (lastsV speed n * flow) := Int.mul_assoc _ _ _
  rw [e]
  generalize cdiv (n * part) 1000 = c1 at *
  generalize cdiv (lastsV speed n * flow) 100 = c2 at *
  generalize n * part = s at *
  generalize lastsV speed n * flow = t at *
  omega
end Go.Proofs.Ytjnjmpakmgmdbaa

namespace Go.Proofs.Ytjnjmpakmgmdbaa

/-- the way after j steps home -/
def itB (m : Msn) (k : Nat) : Nat → Nat
  | 0 => k
  | j + 1 => (wy m.ways (itB m k j)).back.toNat
def depF (m : Msn) : Nat → Nat → Nat
  | 0, _ => 0
  | f + 1, k => if k = 0 then 0 else depF m f (wy m.ways k).back.toNat + 1
/-- how many steps it is home -/
def dep (m : Msn) (k : Nat) : Nat := depF m k k

theorem itB_succ (m : Msn) (k j : Nat) : itB m k (j + 1) = itB m (wy m.ways k).back.toNat j := by
  induction j with
  | zero => rfl
  | succ j ih => show (wy m.ways (itB m k (j + 1))).back.toNat = _; rw [ih]; rfl
theorem back_lt {m : Msn} (hw : waysB m.ways = true) {k : Nat} (hk : k < m.ways.length) (h0 : 0 < k) : (wy m.ways k).back.toNat < k := by
  have := way_back hw hk; omega
theorem dep_any {m : Msn} (hw : waysB m.ways = true) : ∀ (f k : Nat), k ≤ f → k < m.ways.length → itB m k (depF m f k) = 0 ∧ (∀ j, j < depF m f k → 0 < itB m k j) ∧ depF m f k ≤ k ∧ (∀ j, j ≤ depF m f k → itB m k j < m.ways.length)
  | 0, k, hf, hk => by
    obtain rfl : k = 0 := by omega
    exact ⟨rfl, fun j hj => by simp [depF] at hj, by simp [depF], fun j hj => by simp [depF] at hj; subst hj; exact hk⟩
  | f + 1, k, hf, hk => by
    unfold depF
    by_cases h0 : k = 0
    · subst h0
      rw [if_pos rfl]
      exact ⟨rfl, fun j hj => by omega, by omega, fun j hj => by obtain rfl : j = 0 := by omega
                                                                 exact hk⟩
    · rw [if_neg h0]
      have hb := back_lt hw hk (by omega)
      obtain ⟨i1, i2, i3, i4⟩ := dep_any hw f (wy m.ways k).back.toNat (by omega) (by omega)
      refine ⟨by rw [itB_succ]; exact i1, fun j hj => ?_, by omega, fun j hj => ?_⟩
      · cases j with
        | zero => show 0 < k; omega
        | succ j => rw [itB_succ]; exact i2 j (by omega)
      · cases j with
        | zero => exact hk
        | succ j => rw [itB_succ]; exact i4 j (by omega)
section
variable {m : Msn} {k : Nat}
theorem dep_end (hw : waysB m.ways = true) (hk : k < m.ways.length) : itB m k (dep m k) = 0 := (dep_any hw k k (Nat.le_refl _) hk).1
theorem dep_pos (hw : waysB m.ways = true) (hk : k < m.ways.length) {j : Nat} (hj : j < dep m k) : 0 < itB m k j := (dep_any hw k k (Nat.le_refl _) hk).2.1 j hj
theorem dep_le (hw : waysB m.ways = true) (hk : k < m.ways.length) : dep m k ≤ k := (dep_any hw k k (Nat.le_refl _) hk).2.2.1
theorem itB_lt (hw : waysB m.ways = true) (hk : k < m.ways.length) {j : Nat} (hj : j ≤ dep m k) : itB m k j < m.ways.length := (dep_any hw k k (Nat.le_refl _) hk).2.2.2 j hj
theorem itB_dec (hw : waysB m.ways = true) (hk : k < m.ways.length) {j : Nat} (hj : j < dep m k) : itB m k (j + 1) < itB m k j := back_lt hw (itB_lt hw hk (by omega)) (dep_pos hw hk hj)
theorem dep_of_zero (hw : waysB m.ways = true) (hk : k < m.ways.length) {j : Nat} (hj : j ≤ dep m k) (h : itB m k j = 0) : j = dep m k := by
  rcases Nat.lt_or_ge j (dep m k) with h1 | h1
  · have := dep_pos hw hk h1; omega
  · omega
end
/-- the route home -/
def routeL (m : Msn) (k : Nat) : List Nat := (List.range (dep m k + 1)).map (itB m k)
end Go.Proofs.Ytjnjmpakmgmdbaa

namespace Go.Proofs.Ytjnjmpakmgmdbaa

/-- growths of the legs on -/
def onsTo (m : Msn) : Nat → Int
  | 0 => m.start
  | k + 1 => onsTo m k + gLeg m k (k + 1)
/-- growths of the legs back -/
def backsTo (m : Msn) : Nat → Int
  | 0 => 0
  | k + 1 => backsTo m k + gLeg m (k + 1) (wy m.ways (k + 1)).back.toNat
/-- growths of the first legs of the route home -/
def homeP (m : Msn) (a : Nat) : Nat → Int
  | 0 => 0
  | j + 1 => homeP m a j + gLeg m (itB m a j) (itB m a (j + 1))
theorem grown_split (m : Msn) : ∀ k, grownTo m k = onsTo m k + backsTo m k
  | 0 => by simp [grownTo, onsTo, backsTo]
  | k + 1 => by simp only [grownTo, onsTo, backsTo, grown_split m k]; omega
theorem homeP_succ (m : Msn) (a : Nat) : ∀ j, homeP m a (j + 1) = gLeg m a (wy m.ways a).back.toNat + homeP m (wy m.ways a).back.toNat j
  | 0 => by simp [homeP, itB]
  | j + 1 => by
    rw [homeP, homeP_succ m a j, itB_succ, itB_succ, homeP]
    omega
section
variable {m : Msn} (hm : legOk m) (hw : waysB m.ways = true)
include hm hw
theorem backs_mono (i : Nat) : ∀ k, i ≤ k → k < m.ways.length → backsTo m i ≤ backsTo m k
  | 0, h, _ => by obtain rfl : i = 0 := by omega
                  exact Int.le_refl _
  | k + 1, h, h' => by
    by_cases e : i = k + 1
    · rw [e]; exact Int.le_refl _
    · have ih := backs_mono i k (by omega) (by omega)
      have b := way_back hw h'
      have g := gLeg_bd hm hw (i := k + 1) (j := (wy m.ways (k + 1)).back.toNat) h' (by omega)
      simp only [backsTo]; omega
theorem home_le : ∀ (f a : Nat), a ≤ f → a < m.ways.length → homeP m a (depF m f a) ≤ backsTo m a
  | 0, a, hf, ha => by
    obtain rfl : a = 0 := by omega
    simp [depF, homeP, backsTo]
  | f + 1, a, hf, ha => by
    unfold depF
    by_cases h0 : a = 0
    · subst h0; simp [homeP, backsTo]
    · rw [if_neg h0, homeP_succ]
      have hb := back_lt hw ha (by omega)
      have ih := home_le f (wy m.ways a).back.toNat (by omega) (by omega)
      obtain ⟨k, rfl⟩ : ∃ k, a = k + 1 := ⟨a - 1, by omega⟩
      have hmn := backs_mono hm hw (wy m.ways (k + 1)).back.toNat k (by omega) (by omega)
      simp only [backsTo]; omega
theorem home_bd {a : Nat} (ha : a < m.ways.length) : ∀ j, j ≤ dep m a → 0 ≤ homeP m a j ∧ homeP m a j ≤ j * 1000000000000
  | 0, _ => by simp [homeP]
  | j + 1, h => by
    have ih := home_bd ha j (by omega)
    have g := gLeg_bd hm hw (itB_lt hw ha (j := j) (by omega)) (itB_lt hw ha h)
    simp only [homeP]; omega
theorem ons_bd (hs : 0 ≤ m.start ∧ m.start ≤ 100000) : ∀ k, k < m.ways.length → 0 ≤ onsTo m k ∧ onsTo m k ≤ 100000 + k * 1000000000000
  | 0, _ => by simp [onsTo]; omega
  | k + 1, h => by
    have ih := ons_bd hs k (by omega)
    have g := gLeg_bd hm hw (i := k) (j := k + 1) (by omega) h
    simp only [onsTo]; omega
theorem radii_le (hs : 0 ≤ m.start ∧ m.start ≤ 100000) (hg : grownV m ≤ 100000) {a : Nat} (ha : a < m.ways.length) : onsTo m a + homeP m a (dep m a) ≤ 100000 := by
  have h1 := home_le hm hw a a (Nat.le_refl _) ha
  have h2 := grownTo_mono hm hs hw a (m.ways.length - 1) (by omega) (by omega)
  rw [grown_split m a] at h2
  unfold grownV at hg
  change homeP m a (dep m a) ≤ _ at h1
  omega
end
end Go.Proofs.Ytjnjmpakmgmdbaa
