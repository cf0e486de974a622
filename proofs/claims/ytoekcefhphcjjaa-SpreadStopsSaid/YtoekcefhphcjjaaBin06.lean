/- Plain mathematics of legs: lengths, times, growths. No program here. | Plain: the growths of all legs of a mission. | Plain: what the laws say of legs. | Plain: the route home. | Plain: the growths of | mission.from, mission.isWay -/
import Derived.Test.YtoekcefhphcjjaaBin01
namespace Go.Proofs.Ytoekcefhphcjjaa

/-- the root, rounded up -/
def rootUp (s : Int) : Int := if (isqrt s.toNat : Int) * isqrt s.toNat < s then (isqrt s.toNat : Int) + 1 else isqrt s.toNat
def distV (ax ay bx by' : Int) : Int := rootUp ((ax - bx) * (ax - bx) + (ay - by') * (ay - by'))
def lastsV (speed n : Int) : Int := cdiv (100 * n) speed
def growthV (speed part flow n : Int) : Int := cdiv (n * part) 1000 + cdiv (lastsV speed n * flow) 100

theorem rootUp_spec {s : Int} (h : 0 ≤ s) : 0 ≤ rootUp s ∧ s ≤ rootUp s * rootUp s ∧ (∀ r : Int, 0 ≤ r → s ≤ r * r → rootUp s ≤ r) := by
  have ⟨h1, h2⟩ := isqrt_spec s.toNat
  have e : (s.toNat : Int) = s := by omega
  have h1' : (isqrt s.toNat : Int) * isqrt s.toNat ≤ s := by rw [← e]; exact_mod_cast h1
  have h2' : s < ((isqrt s.toNat : Int) + 1) * ((isqrt s.toNat : Int) + 1) := by rw [← e]; exact_mod_cast h2
  unfold rootUp
  generalize hr : (isqrt s.toNat : Int) = r at *
  have r0 : 0 ≤ r := by omega
  split
  · rename_i hlt
    refine ⟨by omega, by omega, fun q hq hs => ?_⟩
    rcases Int.lt_or_le r q with h | h
    · omega
    · have := Int.mul_le_mul h h hq r0; omega
  · rename_i hlt
    refine ⟨r0, by omega, fun q hq hs => ?_⟩
    rcases Int.lt_or_le q r with h | h
    · have := Int.mul_le_mul (show q + 1 ≤ r by omega) (show q + 1 ≤ r by omega) (by omega) r0
      have e2 : (q + 1) * (q + 1) = q * q + 2 * q + 1 := by rw [Int.add_mul, Int.mul_add]; omega
      omega
    · exact h

theorem isqrt_le {m n : Nat} (h : m ≤ n * n) : isqrt m ≤ n := by
  have ⟨h1, _⟩ := isqrt_spec m
  have := sq_lt (a := isqrt m) (b := n + 1) (by rw [Nat.add_mul, Nat.mul_add]; omega)
  omega

theorem sq_bd {a m : Int} (h1 : -m ≤ a) (h2 : a ≤ m) : 0 ≤ a * a ∧ a * a ≤ m * m := by
  have := prod_bd h1 h2 h1 h2
  rcases Int.le_total 0 a with h | h
  · have := Int.mul_nonneg h h; omega
  · have := Int.mul_nonneg_of_nonpos_of_nonpos h h; omega

/-- a length between places that are near -/
theorem dist_bd {ax ay bx by' : Int} (a1 : -300000 ≤ ax) (a2 : ax ≤ 300000) (a3 : -300000 ≤ ay) (a4 : ay ≤ 300000) (b1 : -300000 ≤ bx) (b2 : bx ≤ 300000) (b3 : -300000 ≤ by') (b4 : by' ≤ 300000) :
    0 ≤ (ax - bx) * (ax - bx) + (ay - by') * (ay - by') ∧ (ax - bx) * (ax - bx) + (ay - by') * (ay - by') ≤ 720000000000 ∧ 0 ≤ distV ax ay bx by' ∧ distV ax ay bx by' ≤ 900000 := by
  have h1 := sq_bd (a := ax - bx) (m := 600000) (by omega) (by omega)
  have h2 := sq_bd (a := ay - by') (m := 600000) (by omega) (by omega)
  have h3 := rootUp_spec (s := (ax - bx) * (ax - bx) + (ay - by') * (ay - by')) (by omega)
  refine ⟨by omega, by omega, h3.1, h3.2.2 900000 (by omega) (by omega)⟩

theorem cdiv_bd {a b : Int} (ha : 0 ≤ a) (hb : 1 ≤ b) : 0 ≤ cdiv a b ∧ cdiv a b ≤ a ∧ a ≤ cdiv a b * b ∧ (cdiv a b - 1) * b < a := by
  have e : b * (a / b) + a % b = a := Int.mul_ediv_add_emod a b
  have f1 := Int.emod_nonneg a (b := b) (by omega)
  have f2 := Int.emod_lt_of_pos a (b := b) (by omega)
  have q0 := Int.ediv_nonneg (a := a) (b := b) ha (by omega)
  unfold cdiv upV
  rw [Int.fdiv_eq_ediv_of_nonneg _ (by omega), Int.fmod_eq_emod_of_nonneg _ (by omega)]
  generalize a / b = q at *
  generalize a % b = r at *
  have qb : q ≤ b * q := by have := Int.mul_le_mul_of_nonneg_right hb q0; rw [Int.one_mul] at this; exact this
  have c : q * b = b * q := Int.mul_comm q b
  split
  · refine ⟨q0, by omega, by omega, ?_⟩
    rw [Int.sub_mul]; omega
  · refine ⟨by omega, by omega, ?_, ?_⟩
    · rw [Int.add_mul]; omega
    · rw [show q + 1 - 1 = q by omega]; omega

theorem lasts_bd {speed n : Int} (h1 : 0 ≤ n) (h2 : n ≤ 900000) (h3 : 1 ≤ speed) : 0 ≤ lastsV speed n ∧ lastsV speed n ≤ 90000000 := by
  have := cdiv_bd (a := 100 * n) (b := speed) (by omega) h3
  unfold lastsV; omega

theorem growth_bd {speed part flow n : Int} (h1 : 0 ≤ n) (h2 : n ≤ 900000) (h3 : 1 ≤ speed) (p1 : 0 ≤ part) (p2 : part ≤ 500) (f1 : 0 ≤ flow) (f2 : flow ≤ 5000) :
    0 ≤ n * part ∧ n * part ≤ 450000000 ∧ 0 ≤ lastsV speed n * flow ∧ lastsV speed n * flow ≤ 450000000000 ∧ 0 ≤ growthV speed part flow n ∧ growthV speed part flow n ≤ 1000000000000 := by
  have l := lasts_bd h1 h2 h3
  have a := Int.mul_nonneg h1 p1
  have b := Int.mul_le_mul h2 p2 p1 (by omega)
  have c := Int.mul_nonneg l.1 f1
  have d := Int.mul_le_mul l.2 f2 f1 (by omega)
  have e := cdiv_bd (a := n * part) (b := 1000) (by omega) (by omega)
  have f := cdiv_bd (a := lastsV speed n * flow) (b := 100) (by omega) (by omega)
  unfold growthV
  omega

theorem dist_self (x y : Int) : distV x y x y = 0 := by
  unfold distV; rw [Int.sub_self, Int.sub_self]; rfl
theorem lasts_zero (speed : Int) : lastsV speed 0 = 0 := by simp [lastsV, cdiv, upV]
theorem growth_zero (speed part flow : Int) : growthV speed part flow 0 = 0 := by simp [growthV, lasts_zero, cdiv, upV]
end Go.Proofs.Ytoekcefhphcjjaa

namespace Go.Proofs.Ytoekcefhphcjjaa

/-- the numbers of a mission that legs are reckoned from -/
def legOk (m : Msn) : Prop := 1 ≤ m.speed ∧ m.speed ≤ 20000 ∧ 0 ≤ m.part ∧ m.part ≤ 500 ∧ 0 ≤ m.flow ∧ m.flow ≤ 5000
def nearP (x y : Int) : Prop := -300000 ≤ x ∧ x ≤ 300000 ∧ -300000 ≤ y ∧ y ≤ 300000

/-- all ways are well-formed -/
def waysB (l : List Wy) : Bool := decide (∀ j, j < l.length → wayB j (wy l j) = true)
theorem waysB_at {l : List Wy} (h : waysB l = true) {j : Nat} (hj : j < l.length) : wayB j (wy l j) = true := (of_decide_eq_true h) j hj
theorem way_near {l : List Wy} (h : waysB l = true) {j : Nat} (hj : j < l.length) : nearP (wy l j).x (wy l j).y := by
  have := wayB_true (waysB_at h hj); unfold nearP; omega
theorem way_back {l : List Wy} (h : waysB l = true) {j : Nat} (hj : j < l.length) : 0 ≤ (wy l j).back ∧ (wy l j).back ≤ ((j - 1 : Nat) : Int) ∧ (wy l j).back < l.length := by
  have := wayB_true (waysB_at h hj); omega

/-- length, time, growth of a leg -/
def dLeg (m : Msn) (i j : Nat) : Int := distV (wy m.ways i).x (wy m.ways i).y (wy m.ways j).x (wy m.ways j).y
def tLeg (m : Msn) (i j : Nat) : Int := lastsV m.speed (dLeg m i j)
def gLeg (m : Msn) (i j : Nat) : Int := growthV m.speed m.part m.flow (dLeg m i j)
def grownTo (m : Msn) : Nat → Int
  | 0 => m.start
  | k + 1 => grownTo m k + (gLeg m k (k + 1) + gLeg m (k + 1) (wy m.ways (k + 1)).back.toNat)
def grownV (m : Msn) : Int := grownTo m (m.ways.length - 1)

theorem dLeg_bd {m : Msn} (hw : waysB m.ways = true) {i j : Nat} (hi : i < m.ways.length) (hj : j < m.ways.length) : 0 ≤ dLeg m i j ∧ dLeg m i j ≤ 900000 := by
  obtain ⟨a1, a2, a3, a4⟩ := way_near hw hi
  obtain ⟨b1, b2, b3, b4⟩ := way_near hw hj
  have := dist_bd a1 a2 a3 a4 b1 b2 b3 b4
  exact ⟨this.2.2.1, this.2.2.2⟩
theorem gLeg_bd {m : Msn} (hm : legOk m) (hw : waysB m.ways = true) {i j : Nat} (hi : i < m.ways.length) (hj : j < m.ways.length) : 0 ≤ gLeg m i j ∧ gLeg m i j ≤ 1000000000000 := by
  obtain ⟨m1, m2, m3, m4, m5, m6⟩ := hm
  have d := dLeg_bd hw hi hj
  have := growth_bd (speed := m.speed) (part := m.part) (flow := m.flow) d.1 d.2 m1 m3 m4 m5 m6
  exact ⟨this.2.2.2.2.1, this.2.2.2.2.2⟩
theorem grownTo_bd {m : Msn} (hm : legOk m) (hs : 0 ≤ m.start ∧ m.start ≤ 100000) (hw : waysB m.ways = true) : ∀ k : Nat, k < m.ways.length → m.start ≤ grownTo m k ∧ grownTo m k ≤ 100000 + k * 2000000000000
  | 0, _ => by simp [grownTo]; omega
  | k + 1, h => by
    have ih := grownTo_bd hm hs hw k (by omega)
    have g1 := gLeg_bd hm hw (i := k) (j := k + 1) (by omega) h
    have b := way_back hw h
    have g2 := gLeg_bd hm hw (i := k + 1) (j := (wy m.ways (k + 1)).back.toNat) h (by omega)
    simp only [grownTo]
    omega
theorem grownTo_mono {m : Msn} (hm : legOk m) (hs : 0 ≤ m.start ∧ m.start ≤ 100000) (hw : waysB m.ways = true) (i : Nat) : ∀ k : Nat, i ≤ k → k < m.ways.length → grownTo m i ≤ grownTo m k
  | 0, h, _ => by obtain rfl : i = 0 := by omega
                  exact Int.le_refl _
  | k + 1, h, h' => by
    by_cases e : i = k + 1
    · rw [e]; exact Int.le_refl _
    · have ih := grownTo_mono hm hs hw i k (by omega) (by omega)
      have g1 := gLeg_bd hm hw (i := k) (j := k + 1) (by omega) h'
      have b := way_back hw h'
      have g2 := gLeg_bd hm hw (i := k + 1) (j := (wy m.ways (k + 1)).back.toNat) h' (by omega)
      simp only [grownTo]
      omega
end Go.Proofs.Ytoekcefhphcjjaa

namespace Go.Proofs.Ytoekcefhphcjjaa

end Go.Proofs.Ytoekcefhphcjjaa

namespace Go.Proofs.Ytoekcefhphcjjaa

/-- the way after j steps home -/
def itB (m : Msn) (k : Nat) : Nat → Nat
  | 0 => k
  | j + 1 => (wy m.ways (itB m k j)).back.toNat
def depF (m : Msn) : Nat → Nat → Nat
  | 0, _ => 0
  | f + 1, k => if k = 0 then 0 else depF m f (wy m.ways k).back.toNat + 1
/-- how many steps it is home -/
def dep (m : Msn) (k : Nat) : Nat := depF m k k

section
variable {m : Msn} {k : Nat}
end
end Go.Proofs.Ytoekcefhphcjjaa

namespace Go.Proofs.Ytoekcefhphcjjaa

section
variable {m : Msn} (hm : legOk m) (hw : waysB m.ways = true)
include hm hw
end
end Go.Proofs.Ytoekcefhphcjjaa

namespace Go.Proofs.Ytoekcefhphcjjaa
open Go.RowKit

theorem from_any (n most : Int) (w : World) :
    Calls Try.prog 43 #[.int .i64 n, .int .i64 most] w fun e w' => e = .returned (.bool (inB n 0 most)) ∧ w = w' := by
  cases h : inB n 0 most
  · rcases inB_false h with h1 | ⟨h1, h2⟩
    · have d1 : decide (0 ≤ n) = false := by simp; omega
      clear h
      go_enter Try.func43, Try.ntmps43
      go_wp2
      go_ret
      exact ⟨rfl, rfl⟩
    · have d1 : decide (0 ≤ n) = true := by simp; omega
      have d2 : decide (n ≤ most) = false := by simp; omega
      clear h
      go_enter Try.func43, Try.ntmps43
      go_wp2
      go_ret
      exact ⟨rfl, rfl⟩
  · obtain ⟨h1, h2⟩ := inB_true h
    clear h
    go_enter Try.func43, Try.ntmps43
    go_wp2
    go_ret
    exact ⟨rfl, rfl⟩

theorem isWay_far (k : Nat) (x y fix wait back : Int) (w : World) (h : ¬ (-300000 ≤ x ∧ x ≤ 300000 ∧ -300000 ≤ y ∧ y ≤ 300000)) :
    Calls Try.prog 37 #[.int .i64 k, .agg #[.int .i64 x, .int .i64 y, .int .i64 fix, .int .i64 wait, .int .i64 back]] w fun e w' => e = .returned (.bool false) ∧ Below w.heap.size w w' := by
  rcases Int.lt_or_le y x with hxy | hxy
  · by_cases hm : maxI4 x (wrap64 (-x)) y (wrap64 (-y)) ≤ 300000
    · have d1 : decide (maxI4 x (wrap64 (-x)) y (wrap64 (-y)) ≤ 300000) = true := by simpa using hm
      have hb : x ≤ 300000 ∧ y ≤ 300000 := by unfold maxI4 at hm; omega
      have d3 : decide (-300000 ≤ y) = false := by simp; omega
      clear h hb hm
      go_enter Try.func37, Try.ntmps37
      go_wp2
      all_goals
        go_ret
        exact ⟨rfl, by repeat (first | exact Below.refl _ _ | assumption | apply Below.drew | refine Below.setCell ?_ (by first | omega | (simp; done) | (simp; omega)) _ | refine Below.alloc ?_ (by first | omega | (simp; done) | (simp; omega)) _ | refine Below.call (by assumption) ?_ (by first | omega | (simp; done) | (simp; omega)))⟩
    · have d1 : decide (maxI4 x (wrap64 (-x)) y (wrap64 (-y)) ≤ 300000) = false := by simpa using hm
      clear h hm
      go_enter Try.func37, Try.ntmps37
      go_wp2
      all_goals
        go_ret
        exact ⟨rfl, by repeat (first | exact Below.refl _ _ | assumption | apply Below.drew | refine Below.setCell ?_ (by first | omega | (simp; done) | (simp; omega)) _ | refine Below.alloc ?_ (by first | omega | (simp; done) | (simp; omega)) _ | refine Below.call (by assumption) ?_ (by first | omega | (simp; done) | (simp; omega)))⟩
  · by_cases hm : maxI4 x (wrap64 (-x)) y (wrap64 (-y)) ≤ 300000
    · have d1 : decide (maxI4 x (wrap64 (-x)) y (wrap64 (-y)) ≤ 300000) = true := by simpa using hm
      have hb : x ≤ 300000 ∧ y ≤ 300000 := by unfold maxI4 at hm; omega
      have d3 : decide (-300000 ≤ x) = false := by simp; omega
      clear h hb hm
      go_enter Try.func37, Try.ntmps37
      go_wp2
      all_goals
        go_ret
        exact ⟨rfl, by repeat (first | exact Below.refl _ _ | assumption | apply Below.drew | refine Below.setCell ?_ (by first | omega | (simp; done) | (simp; omega)) _ | refine Below.alloc ?_ (by first | omega | (simp; done) | (simp; omega)) _ | refine Below.call (by assumption) ?_ (by first | omega | (simp; done) | (simp; omega)))⟩
    · have d1 : decide (maxI4 x (wrap64 (-x)) y (wrap64 (-y)) ≤ 300000) = false := by simpa using hm
      clear h hm
      go_enter Try.func37, Try.ntmps37
      go_wp2
      all_goals
        go_ret
        exact ⟨rfl, by repeat (first | exact Below.refl _ _ | assumption | apply Below.drew | refine Below.setCell ?_ (by first | omega | (simp; done) | (simp; omega)) _ | refine Below.alloc ?_ (by first | omega | (simp; done) | (simp; omega)) _ | refine Below.call (by assumption) ?_ (by first | omega | (simp; done) | (simp; omega)))⟩

theorem isWay_zero (x y fix wait back : Int) (w : World) (h1 : -300000 ≤ x) (h2 : x ≤ 300000) (h3 : -300000 ≤ y) (h4 : y ≤ 300000) (hf : inB fix 0 100000 = true) (hw : inB wait 0 100000 = true) (hfw : 0 < fix ∨ wait = 0) :
    Calls Try.prog 37 #[.int .i64 0, .agg #[.int .i64 x, .int .i64 y, .int .i64 fix, .int .i64 wait, .int .i64 back]] w fun e w' => e = .returned (.bool (inB back 0 0)) ∧ Below w.heap.size w w' := by
  have d1 : decide (maxI4 x (-x) y (-y) ≤ 300000) = true := by simp [maxI4]; omega
  cases hb : inB back 0 0
  all_goals
    by_cases hfx : 0 < fix
    · clear hfw
      go_enter Try.func37, Try.ntmps37
      go_wp2_with (go_at_call 43; refine (from_any _ _ _).mono ?_; rintro e w' ⟨rfl, rfl⟩)
      all_goals
        go_ret
        exact ⟨rfl, by repeat (first | exact Below.refl _ _ | assumption | apply Below.drew | refine Below.setCell ?_ (by first | omega | (simp; done) | (simp; omega)) _ | refine Below.alloc ?_ (by first | omega | (simp; done) | (simp; omega)) _ | refine Below.call (by assumption) ?_ (by first | omega | (simp; done) | (simp; omega)))⟩
    · obtain rfl : wait = 0 := by omega
      have d2 : decide (0 < fix) = false := by simpa using hfx
      clear hfx hfw
      go_enter Try.func37, Try.ntmps37
      go_wp2_with (go_at_call 43; refine (from_any _ _ _).mono ?_; rintro e w' ⟨rfl, rfl⟩)
      all_goals
        go_ret
        exact ⟨rfl, by repeat (first | exact Below.refl _ _ | assumption | apply Below.drew | refine Below.setCell ?_ (by first | omega | (simp; done) | (simp; omega)) _ | refine Below.alloc ?_ (by first | omega | (simp; done) | (simp; omega)) _ | refine Below.call (by assumption) ?_ (by first | omega | (simp; done) | (simp; omega)))⟩

theorem isWay_one (x y fix wait back : Int) (w : World) (h1 : -300000 ≤ x) (h2 : x ≤ 300000) (h3 : -300000 ≤ y) (h4 : y ≤ 300000) (hf : inB fix 0 100000 = true) (hw : inB wait 0 100000 = true) (hfw : 0 < fix ∨ wait = 0) :
    Calls Try.prog 37 #[.int .i64 1, .agg #[.int .i64 x, .int .i64 y, .int .i64 fix, .int .i64 wait, .int .i64 back]] w fun e w' => e = .returned (.bool (inB back 0 0)) ∧ Below w.heap.size w w' := by
  have d1 : decide (maxI4 x (-x) y (-y) ≤ 300000) = true := by simp [maxI4]; omega
  cases hb : inB back 0 0
  all_goals
    by_cases hfx : 0 < fix
    · clear hfw
      go_enter Try.func37, Try.ntmps37
      go_wp2_with (go_at_call 43; refine (from_any _ _ _).mono ?_; rintro e w' ⟨rfl, rfl⟩)
      all_goals
        go_ret
        exact ⟨rfl, by repeat (first | exact Below.refl _ _ | assumption | apply Below.drew | refine Below.setCell ?_ (by first | omega | (simp; done) | (simp; omega)) _ | refine Below.alloc ?_ (by first | omega | (simp; done) | (simp; omega)) _ | refine Below.call (by assumption) ?_ (by first | omega | (simp; done) | (simp; omega)))⟩
    · obtain rfl : wait = 0 := by omega
      have d2 : decide (0 < fix) = false := by simpa using hfx
      clear hfx hfw
      go_enter Try.func37, Try.ntmps37
      go_wp2_with (go_at_call 43; refine (from_any _ _ _).mono ?_; rintro e w' ⟨rfl, rfl⟩)
      all_goals
        go_ret
        exact ⟨rfl, by repeat (first | exact Below.refl _ _ | assumption | apply Below.drew | refine Below.setCell ?_ (by first | omega | (simp; done) | (simp; omega)) _ | refine Below.alloc ?_ (by first | omega | (simp; done) | (simp; omega)) _ | refine Below.call (by assumption) ?_ (by first | omega | (simp; done) | (simp; omega)))⟩

theorem isWay_succ (n : Nat) (x y fix wait back : Int) (w : World) (h1 : -300000 ≤ x) (h2 : x ≤ 300000) (h3 : -300000 ≤ y) (h4 : y ≤ 300000) (hf : inB fix 0 100000 = true) (hw : inB wait 0 100000 = true) (hfw : 0 < fix ∨ wait = 0) (hk : n ≤ 1000000) (hn0 : (0 : Int) < n) :
    Calls Try.prog 37 #[.int .i64 ((n : Int) + 1), .agg #[.int .i64 x, .int .i64 y, .int .i64 fix, .int .i64 wait, .int .i64 back]] w fun e w' => e = .returned (.bool (inB back 0 (n : Int))) ∧ Below w.heap.size w w' := by
  have d1 : decide (maxI4 x (-x) y (-y) ≤ 300000) = true := by simp [maxI4]; omega
  cases hb : inB back 0 (n : Int)
  all_goals
    by_cases hfx : 0 < fix
    · clear hfw
      go_enter Try.func37, Try.ntmps37
      go_wp2_with (go_at_call 43; refine (from_any _ _ _).mono ?_; rintro e w' ⟨rfl, rfl⟩)
      all_goals
        go_ret
        exact ⟨rfl, by repeat (first | exact Below.refl _ _ | assumption | apply Below.drew | refine Below.setCell ?_ (by first | omega | (simp; done) | (simp; omega)) _ | refine Below.alloc ?_ (by first | omega | (simp; done) | (simp; omega)) _ | refine Below.call (by assumption) ?_ (by first | omega | (simp; done) | (simp; omega)))⟩
    · obtain rfl : wait = 0 := by omega
      have d2 : decide (0 < fix) = false := by simpa using hfx
      clear hfx hfw
      go_enter Try.func37, Try.ntmps37
      go_wp2_with (go_at_call 43; refine (from_any _ _ _).mono ?_; rintro e w' ⟨rfl, rfl⟩)
      all_goals
        go_ret
        exact ⟨rfl, by repeat (first | exact Below.refl _ _ | assumption | apply Below.drew | refine Below.setCell ?_ (by first | omega | (simp; done) | (simp; omega)) _ | refine Below.alloc ?_ (by first | omega | (simp; done) | (simp; omega)) _ | refine Below.call (by assumption) ?_ (by first | omega | (simp; done) | (simp; omega)))⟩

theorem isWay_any (k : Nat) (a : Wy) (w : World) (hk : k ≤ 1000000) :
    Calls Try.prog 37 #[.int .i64 k, wyVal a] w fun e w' => e = .returned (.bool (wayB k a)) ∧ Below w.heap.size w w' := by
  obtain ⟨x, y, fix, wait, back⟩ := a
  by_cases h : -300000 ≤ x ∧ x ≤ 300000 ∧ -300000 ≤ y ∧ y ≤ 300000
  · obtain ⟨h1, h2, h3, h4⟩ := h
    unfold wyVal
    have d1 : decide (maxI4 x (-x) y (-y) ≤ 300000) = true := by simp [maxI4]; omega
    cases hf : inB fix 0 100000
    · have e : wayB k ⟨x, y, fix, wait, back⟩ = false := by
        cases e : wayB k ⟨x, y, fix, wait, back⟩
        · rfl
        · have := wayB_true e; rcases inB_false hf with h | h <;> simp only at this <;> omega
      rw [e]; clear e
      go_enter Try.func37, Try.ntmps37
      go_wp2_with (go_at_call 43; refine (from_any _ _ _).mono ?_; rintro e w' ⟨rfl, rfl⟩)
      all_goals
        go_ret
        exact ⟨rfl, by repeat (first | exact Below.refl _ _ | assumption | apply Below.drew | refine Below.setCell ?_ (by first | omega | (simp; done) | (simp; omega)) _ | refine Below.alloc ?_ (by first | omega | (simp; done) | (simp; omega)) _ | refine Below.call (by assumption) ?_ (by first | omega | (simp; done) | (simp; omega)))⟩
    cases hw : inB wait 0 100000
    · have e : wayB k ⟨x, y, fix, wait, back⟩ = false := by
        cases e : wayB k ⟨x, y, fix, wait, back⟩
        · rfl
        · have := wayB_true e; rcases inB_false hw with h | h <;> simp only at this <;> omega
      rw [e]; clear e
      go_enter Try.func37, Try.ntmps37
      go_wp2_with (go_at_call 43; refine (from_any _ _ _).mono ?_; rintro e w' ⟨rfl, rfl⟩)
      all_goals
        go_ret
        exact ⟨rfl, by repeat (first | exact Below.refl _ _ | assumption | apply Below.drew | refine Below.setCell ?_ (by first | omega | (simp; done) | (simp; omega)) _ | refine Below.alloc ?_ (by first | omega | (simp; done) | (simp; omega)) _ | refine Below.call (by assumption) ?_ (by first | omega | (simp; done) | (simp; omega)))⟩
    obtain ⟨f1, f2⟩ := inB_true hf
    obtain ⟨w1, w2⟩ := inB_true hw
    by_cases hfw : 0 < fix ∨ wait = 0
    · have hB : ∀ m : Int, m = ((k - 1 : Nat) : Int) → wayB k ⟨x, y, fix, wait, back⟩ = inB back 0 m := by
        rintro m rfl
        unfold wayB inB
        congr 1
        simp only [eq_iff_iff]
        constructor
        · rintro ⟨_, _, _, _, _, _, _, _, _, h⟩; exact h
        · intro h; exact ⟨h1, h2, h3, h4, f1, f2, w1, w2, hfw, h⟩
      rcases k with _ | n
      · rw [hB 0 rfl]
        exact isWay_zero x y fix wait back w h1 h2 h3 h4 hf hw hfw
      · by_cases hn : n = 0
        · subst hn
          rw [hB 0 rfl]
          exact isWay_one x y fix wait back w h1 h2 h3 h4 hf hw hfw
        rw [hB (n : Int) (by simp)]
        exact isWay_succ n x y fix wait back w h1 h2 h3 h4 hf hw hfw (by omega) (by omega)
    · have e : wayB k ⟨x, y, fix, wait, back⟩ = false := by
        cases e : wayB k ⟨x, y, fix, wait, back⟩
        · rfl
        · have := wayB_true e; simp only at this; exact absurd this.2.2.2.2.2.2.2.2.1 hfw
      rw [e]; clear e
      have d2 : decide (0 < fix) = false := by simp; omega
      have d3 : (wait == 0) = false := by simp; omega
      clear f1 w1 hfw
      go_enter Try.func37, Try.ntmps37
      go_wp2_with (go_at_call 43; refine (from_any _ _ _).mono ?_; rintro e w' ⟨rfl, rfl⟩)
      all_goals
        go_ret
        exact ⟨rfl, by repeat (first | exact Below.refl _ _ | assumption | apply Below.drew | refine Below.setCell ?_ (by first | omega | (simp; done) | (simp; omega)) _ | refine Below.alloc ?_ (by first | omega | (simp; done) | (simp; omega)) _ | refine Below.call (by assumption) ?_ (by first | omega | (simp; done) | (simp; omega)))⟩
  · have e : wayB k ⟨x, y, fix, wait, back⟩ = false := by
      cases e : wayB k ⟨x, y, fix, wait, back⟩
      · rfl
      · have := wayB_true e; simp only at this; omega
    rw [e]
    exact isWay_far k x y fix wait back w h
end Go.Proofs.Ytoekcefhphcjjaa
