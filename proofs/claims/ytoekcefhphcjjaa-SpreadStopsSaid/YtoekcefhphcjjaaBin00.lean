/- Plain geometry: points, the area of a triangle, the order of places. No program here. | Plain mathematics of layer 1: quotients, roots. No program here. | Plain geometry: the hull of points: what it is, that it is one list alone, and that wrapping finds it. No program here. -/

namespace Go.Proofs.Ytoekcefhphcjjaa

structure Pt where
  x : Int
  y : Int
deriving DecidableEq

theorem Pt.ext' {a b : Pt} (h1 : a.x = b.x) (h2 : a.y = b.y) : a = b := by cases a; cases b; simp_all

/-- corner i of a list of points -/
def nth (l : List Pt) (i : Nat) : Pt := l.getD i ⟨0, 0⟩

/-- twice the area of a triangle -/
def turnV (ax ay bx by' cx cy : Int) : Int := (bx - ax) * (cy - ay) - (by' - ay) * (cx - ax)
def turnP (a b c : Pt) : Int := turnV a.x a.y b.x b.y c.x c.y

/-- cmp.Compare -/
def cmpI (a b : Int) : Int := if a < b then -1 else if b < a then 1 else 0
theorem cmpI_lt {a b : Int} (h : a < b) : cmpI a b = -1 := by simp [cmpI, h]
theorem cmpI_gt {a b : Int} (h : b < a) : cmpI a b = 1 := by simp [cmpI, show ¬ a < b by omega, h]
theorem cmpI_eq (a : Int) : cmpI a a = 0 := by simp [cmpI]
/-- places are compared by x, then by y -/
def orI (x y : Int) : Int := if x = 0 then y else x
def cmpV (ax ay bx by' : Int) : Int := orI (cmpI ax bx) (cmpI ay by')
def cmpP (a b : Pt) : Int := cmpV a.x a.y b.x b.y

def placeB (x y : Int) : Bool := decide (-500000 ≤ x ∧ x ≤ 500000 ∧ -500000 ≤ y ∧ y ≤ 500000)
theorem placeB_true {x y : Int} (h : placeB x y = true) : -500000 ≤ x ∧ x ≤ 500000 ∧ -500000 ≤ y ∧ y ≤ 500000 := by simpa [placeB] using h
theorem placeB_false {x y : Int} (h : placeB x y = false) : x < -500000 ∨ 500000 < x ∨ y < -500000 ∨ 500000 < y := by
  have : ¬ (-500000 ≤ x ∧ x ≤ 500000 ∧ -500000 ≤ y ∧ y ≤ 500000) := by simpa [placeB] using h
  omega
def placeP (p : Pt) : Bool := placeB p.x p.y

theorem prod_bd {a b m n : Int} (h1 : -m ≤ a) (h2 : a ≤ m) (h3 : -n ≤ b) (h4 : b ≤ n) : -(m * n) ≤ a * b ∧ a * b ≤ m * n := by
  have hm : 0 ≤ m := by omega
  have hn : 0 ≤ n := by omega
  have e : a * b ≤ m * n ∧ -(a * b) ≤ m * n := by
    rcases Int.le_total 0 a with ha | ha <;> rcases Int.le_total 0 b with hb | hb
    · have x := Int.mul_le_mul h2 h4 hb hm; have y := Int.mul_nonneg ha hb; omega
    · have x := Int.mul_le_mul h2 (show -b ≤ n by omega) (by omega) hm; have y := Int.mul_nonneg ha (show 0 ≤ -b by omega); rw [Int.mul_neg] at x y; omega
    · have x := Int.mul_le_mul (show -a ≤ m by omega) h4 hb hm; have y := Int.mul_nonneg (show 0 ≤ -a by omega) hb; rw [Int.neg_mul] at x y; omega
    · have x := Int.mul_le_mul (show -a ≤ m by omega) (show -b ≤ n by omega) (by omega) hm; have y := Int.mul_nonneg (show 0 ≤ -a by omega) (show 0 ≤ -b by omega); rw [Int.neg_mul_neg] at x y; omega
  omega
end Go.Proofs.Ytoekcefhphcjjaa

namespace Go.Proofs.Ytoekcefhphcjjaa

/-- the integer root, by counting up -/
def isqrt : Nat → Nat
  | 0 => 0
  | n + 1 => if (isqrt n + 1) * (isqrt n + 1) ≤ n + 1 then isqrt n + 1 else isqrt n

theorem isqrt_spec (n : Nat) : isqrt n * isqrt n ≤ n ∧ n < (isqrt n + 1) * (isqrt n + 1) := by
  induction n with
  | zero => simp [isqrt]
  | succ n ih =>
    obtain ⟨h1, h2⟩ := ih
    unfold isqrt
    by_cases h : (isqrt n + 1) * (isqrt n + 1) ≤ n + 1
    · rw [if_pos h]
      refine ⟨h, ?_⟩
      have e : (isqrt n + 1 + 1) * (isqrt n + 1 + 1) = (isqrt n + 1) * (isqrt n + 1) + 2 * (isqrt n + 1) + 1 := by
        rw [Nat.add_mul, Nat.mul_add]; omega
      omega
    · rw [if_neg h]
      exact ⟨by omega, by omega⟩

theorem sq_lt {a b : Nat} (h : a * a < b * b) : a < b := by
  rcases Nat.lt_or_ge a b with h' | h'
  · exact h'
  · have := Nat.mul_le_mul h' h'; omega

theorem isqrt_unique {n r : Nat} (h1 : r * r ≤ n) (h2 : n < (r + 1) * (r + 1)) : isqrt n = r := by
  have ⟨a, b⟩ := isqrt_spec n
  have x := sq_lt (a := isqrt n) (b := r + 1) (by omega)
  have y := sq_lt (a := r) (b := isqrt n + 1) (by omega)
  omega

/-- within MaxSpan -/
def wideB (n : Int) : Bool := decide (-1000000000000 ≤ n ∧ n ≤ 1000000000000)
theorem wideB_true {n : Int} (h : wideB n = true) : -1000000000000 ≤ n ∧ n ≤ 1000000000000 := by simpa [wideB] using h
theorem wideB_false {n : Int} (h : wideB n = false) : n < -1000000000000 ∨ 1000000000000 < n := by
  have : ¬ (-1000000000000 ≤ n ∧ n ≤ 1000000000000) := by simpa [wideB] using h
  omega
theorem wideB_mk {n : Int} (h1 : -1000000000000 ≤ n) (h2 : n ≤ 1000000000000) : wideB n = true := by simp [wideB]; omega

/-- the quotient, rounded up -/
def upV (q r : Int) : Int := if r = 0 then q else q + 1
def cdiv (a b : Int) : Int := upV (a.fdiv b) (a.fmod b)

theorem fdiv_cases (a b : Int) (hb : b ≠ 0) :
    (a.tmod b = 0 ∨ (a.tmod b < 0 ∧ b < 0) ∨ (0 < a.tmod b ∧ 0 < b)) ∧ a.tdiv b = a.fdiv b ∧ a.tmod b = a.fmod b ∨
    ((a.tmod b < 0 ∧ 0 < b) ∨ (0 < a.tmod b ∧ b < 0)) ∧ a.tdiv b - 1 = a.fdiv b ∧ a.tmod b + b = a.fmod b := by
  have e1 := Int.tdiv_eq_ediv (a := a) (b := b)
  have e2 := Int.fdiv_eq_ediv (a := a) (b := b)
  have e3 := Int.tmod_eq_emod (a := a) (b := b)
  have e4 := Int.fmod_eq_emod (a := a) (b := b)
  have p1 := Int.emod_nonneg a hb
  have p2 := Int.emod_lt a hb
  rw [e1, e2, e3, e4]
  simp only [Int.dvd_iff_emod_eq_zero]
  generalize a % b = r at *
  generalize a / b = q at *
  rcases Int.lt_or_gt_of_ne hb with h | h
  · have hs : Int.sign b = -1 := Int.sign_eq_neg_one_of_neg h
    rw [hs]
    repeat' split
    all_goals omega
  · have hs : Int.sign b = 1 := Int.sign_eq_one_of_pos h
    rw [hs]
    repeat' split
    all_goals omega

theorem tdiv_bd (a b : Int) (h1 : -1000000000000000000 ≤ a) (h2 : a ≤ 1000000000000000000) : -1000000000000000000 ≤ a.tdiv b ∧ a.tdiv b ≤ 1000000000000000000 := by
  have h := Int.natAbs_tdiv a b
  have h' : a.natAbs.div b.natAbs ≤ a.natAbs := Nat.div_le_self a.natAbs b.natAbs
  rw [← h] at h'
  omega

theorem tmod_bd (a b : Int) (h3 : -1000000000000 ≤ b) (h4 : b ≤ 1000000000000) (hb : b ≠ 0) : -1000000000000 < a.tmod b ∧ a.tmod b < 1000000000000 := by
  have h := Int.natAbs_tmod a b
  have h' := Nat.mod_lt a.natAbs (y := b.natAbs) (by omega)
  rw [← h] at h'
  omega

theorem fdiv_bd (a b : Int) (h1 : -1000000000000000000 ≤ a) (h2 : a ≤ 1000000000000000000) (hb : b ≠ 0) : -1000000000000000001 ≤ a.fdiv b ∧ a.fdiv b ≤ 1000000000000000000 := by
  rcases fdiv_cases a b hb with h | h
  · have := tdiv_bd a b h1 h2; omega
  · have := tdiv_bd a b h1 h2; omega
end Go.Proofs.Ytoekcefhphcjjaa

namespace Go.Proofs.Ytoekcefhphcjjaa

/-- a point lies in the box of two others -/
def Btw (a b x : Pt) : Prop := (a.x ≤ x.x ∨ b.x ≤ x.x) ∧ (x.x ≤ a.x ∨ x.x ≤ b.x) ∧ (a.y ≤ x.y ∨ b.y ≤ x.y) ∧ (x.y ≤ a.y ∨ x.y ≤ b.y)
instance (a b x : Pt) : Decidable (Btw a b x) := by unfold Btw; infer_instance
/-- the order of places -/
def LexLt (a b : Pt) : Prop := a.x < b.x ∨ a.x = b.x ∧ a.y < b.y
instance (a b : Pt) : Decidable (LexLt a b) := by unfold LexLt; infer_instance
theorem LexLt.trans {a b c : Pt} (h : LexLt a b) (k : LexLt b c) : LexLt a c := by unfold LexLt at *; omega
theorem LexLt.irrefl {a : Pt} (h : LexLt a a) : False := by unfold LexLt at h; omega
theorem LexLt.ne {a b : Pt} (h : LexLt a b) : a ≠ b := fun e => by subst e; exact h.irrefl
theorem LexLt.tri (a b : Pt) : LexLt a b ∨ a = b ∨ LexLt b a := by
  by_cases h : a = b
  · exact .inr (.inl h)
  · have : ¬ (a.x = b.x ∧ a.y = b.y) := fun e => h (Pt.ext' e.1 e.2)
    unfold LexLt; omega

def crs (ux uy vx vy : Int) : Int := ux * vy - uy * vx
def dt (ux uy vx vy : Int) : Int := ux * vx + uy * vy
/-- a direction lies on the left of another one, or opposite to it -/
def HP (dx dy vx vy : Int) : Prop := 0 < crs dx dy vx vy ∨ crs dx dy vx vy = 0 ∧ dt dx dy vx vy < 0
theorem sq_nn (a : Int) : 0 ≤ a * a := by
  rcases Int.le_total 0 a with h | h
  · exact Int.mul_nonneg h h
  · have := Int.mul_nonneg (show 0 ≤ -a by omega) (show 0 ≤ -a by omega); rwa [Int.neg_mul_neg] at this
theorem sq_sum_pos {x y : Int} (h : ¬ (x = 0 ∧ y = 0)) : 0 < x * x + y * y := by
  have a := sq_nn (x)
  have b := sq_nn (y)
  rcases Int.lt_or_le 0 (x * x + y * y) with h' | h'
  · exact h'
  · have e1 : x * x = 0 := by omega
    have e2 : y * y = 0 := by omega
    exact absurd ⟨by rcases Int.mul_eq_zero.1 e1 with k | k <;> exact k, by rcases Int.mul_eq_zero.1 e2 with k | k <;> exact k⟩ h
theorem HP.ne {dx dy vx vy : Int} (h : HP dx dy vx vy) : ¬ (dx = 0 ∧ dy = 0) := by
  rintro ⟨rfl, rfl⟩
  unfold HP crs dt at h
  simp at h
theorem pos_of_mul {a b : Int} (ha : 0 < a) (h : 0 < a * b) : 0 < b := by
  rcases Int.lt_or_le 0 b with h' | h'
  · exact h'
  · have := Int.mul_nonneg (Int.le_of_lt ha) (show 0 ≤ -b by omega)
    rw [Int.mul_neg] at this; omega
theorem nn_of_mul {a b : Int} (ha : 0 < a) (h : 0 ≤ a * b) : 0 ≤ b := by
  rcases Int.lt_or_le b 0 with h' | h'
  · have := Int.mul_pos ha (show 0 < -b by omega)
    rw [Int.mul_neg] at this; omega
  · exact h'
/-- in coordinates along a direction -/
theorem crs_in (dx dy ux uy vx vy : Int) : (dx * dx + dy * dy) * crs ux uy vx vy = dt dx dy ux uy * crs dx dy vx vy - crs dx dy ux uy * dt dx dy vx vy := by unfold crs dt; grind
theorem half_trans {p1 q1 p2 q2 p3 q3 : Int} (h1 : 0 < q1 ∨ q1 = 0 ∧ p1 < 0) (h2 : 0 < q2 ∨ q2 = 0 ∧ p2 < 0) (h3 : 0 < q3 ∨ q3 = 0 ∧ p3 < 0)
    (a : 0 < p1 * q2 - q1 * p2) (b : 0 ≤ p2 * q3 - q2 * p3) : 0 < p1 * q3 - q1 * p3 := by
  have id1 : q2 * (p1 * q3 - q1 * p3) = q3 * (p1 * q2 - q1 * p2) + q1 * (p2 * q3 - q2 * p3) := by grind
  rcases h2 with h2 | ⟨rfl, h2⟩
  · refine pos_of_mul h2 ?_
    rw [id1]
    rcases h3 with h3 | ⟨rfl, h3⟩
    · have x := Int.mul_pos h3 a
      have y := Int.mul_nonneg (show 0 ≤ q1 by omega) b
      omega
    · have hb : 0 < p2 * 0 - q2 * p3 := by have := Int.mul_pos h2 (show 0 < -p3 by omega); rw [Int.mul_neg] at this; omega
      rcases h1 with h1 | ⟨rfl, h1⟩
      · have := Int.mul_pos h1 hb; omega
      · have := Int.mul_pos (show 0 < -p1 by omega) h2
        rw [Int.neg_mul] at this; omega
  · have hq1 : 0 < q1 := by
      rcases h1 with h1 | ⟨rfl, h1⟩
      · exact h1
      · simp at a
    have hq3 : q3 = 0 := by
      rcases h3 with h3 | ⟨rfl, h3⟩
      · have := Int.mul_pos (show 0 < -p2 by omega) h3
        rw [Int.neg_mul] at this; omega
      · rfl
    subst hq3
    have := Int.mul_pos hq1 (show 0 < -p3 by omega)
    rw [Int.mul_neg] at this; omega
theorem hp_trans {dx dy ux uy vx vy wx wy : Int} (hu : HP dx dy ux uy) (hv : HP dx dy vx vy) (hw : HP dx dy wx wy) (a : 0 < crs ux uy vx vy) (b : 0 ≤ crs vx vy wx wy) : 0 < crs ux uy wx wy := by
  have hd := sq_sum_pos hu.ne
  refine pos_of_mul hd ?_
  rw [crs_in]
  have a' := Int.mul_pos hd a
  have b' := Int.mul_nonneg (Int.le_of_lt hd) b
  rw [crs_in] at a' b'
  exact half_trans hu hv hw a' b'
/-- two directions of one line, both in the half -/
theorem hp_along {dx dy ux uy vx vy : Int} (hu : HP dx dy ux uy) (hv : HP dx dy vx vy) (a : crs ux uy vx vy = 0) : 0 < dt ux uy vx vy := by
  have hd := sq_sum_pos hu.ne
  have e : (dx * dx + dy * dy) * crs ux uy vx vy = 0 := by rw [a, Int.mul_zero]
  have f : (dx * dx + dy * dy) * dt ux uy vx vy = dt dx dy ux uy * dt dx dy vx vy + crs dx dy ux uy * crs dx dy vx vy := by unfold crs dt; grind
  rw [crs_in] at e
  refine pos_of_mul hd ?_
  rw [f]
  unfold HP at hu hv
  generalize dt dx dy ux uy = p1 at *
  generalize crs dx dy ux uy = q1 at *
  generalize dt dx dy vx vy = p2 at *
  generalize crs dx dy vx vy = q2 at *
  clear f
  rcases hu with hu | ⟨rfl, hu⟩
  · have hq2 : 0 < q2 := by
      rcases hv with hv | ⟨rfl, hv⟩
      · exact hv
      · have := Int.mul_pos hu (show 0 < -p2 by omega)
        rw [Int.mul_neg] at this; omega
    have hq := Int.mul_pos hu hq2
    have id : q1 * q2 * (p1 * p2) = (q1 * p2) * (q1 * p2) + (p1 * q2 - q1 * p2) * (q1 * p2) := by grind
    rw [e, Int.zero_mul, Int.add_zero] at id
    have := sq_nn (q1 * p2)
    have := nn_of_mul hq (b := p1 * p2) (by omega)
    omega
  · have hq2 : q2 = 0 := by
      rcases hv with hv | ⟨rfl, hv⟩
      · have := Int.mul_pos (show 0 < -p1 by omega) hv
        rw [Int.neg_mul] at this; omega
      · rfl
    subst hq2
    have hp2 : p2 < 0 := by omega
    have := Int.mul_pos (show 0 < -p1 by omega) (show 0 < -p2 by omega)
    rw [Int.neg_mul_neg] at this
    omega

/-- collinear directions of one sense: one lies in the other's box -/
theorem along_box {ux uy vx vy : Int} (hc : crs ux uy vx vy = 0) (hd : 0 < dt ux uy vx vy) :
    ((0 ≤ ux ∧ ux ≤ vx ∨ vx ≤ ux ∧ ux ≤ 0) ∧ (0 ≤ uy ∧ uy ≤ vy ∨ vy ≤ uy ∧ uy ≤ 0)) ∨ ((0 ≤ vx ∧ vx ≤ ux ∨ ux ≤ vx ∧ vx ≤ 0) ∧ (0 ≤ vy ∧ vy ≤ uy ∨ uy ≤ vy ∧ vy ≤ 0)) := by
  have hu : 0 < ux * ux + uy * uy := sq_sum_pos fun h => by rw [h.1, h.2] at hd; unfold dt at hd; simp at hd
  -- dt u v * u = (u . u) * v
  have e1 : dt ux uy vx vy * ux = (ux * ux + uy * uy) * vx := by unfold dt crs at *; grind
  have e2 : dt ux uy vx vy * uy = (ux * ux + uy * uy) * vy := by unfold dt crs at *; grind
  generalize dt ux uy vx vy = m at *
  generalize ux * ux + uy * uy = n at *
  clear hc
  have go : ∀ u v : Int, m * u = n * v → (m ≤ n → (0 ≤ v ∧ v ≤ u ∨ u ≤ v ∧ v ≤ 0)) ∧ (n ≤ m → (0 ≤ u ∧ u ≤ v ∨ v ≤ u ∧ u ≤ 0)) := by
    intro u v e
    constructor
    · intro h
      rcases Int.le_total 0 u with hu0 | hu0
      · left
        have a : 0 ≤ n * v := by rw [← e]; exact Int.mul_nonneg (Int.le_of_lt hd) hu0
        have b := nn_of_mul hu a
        have c := Int.mul_le_mul_of_nonneg_right h hu0
        have d : 0 ≤ n * (u - v) := by rw [Int.mul_sub]; omega
        have := nn_of_mul hu d
        omega
      · right
        have a : 0 ≤ n * (-v) := by rw [Int.mul_neg, ← e]; have := Int.mul_nonneg (Int.le_of_lt hd) (show 0 ≤ -u by omega); rw [Int.mul_neg] at this; exact this
        have b := nn_of_mul hu a
        have c := Int.mul_le_mul_of_nonneg_right h (show 0 ≤ -u by omega)
        rw [Int.mul_neg, Int.mul_neg] at c
        have d : 0 ≤ n * (v - u) := by rw [Int.mul_sub]; omega
        have := nn_of_mul hu d
        omega
    · intro h
      rcases Int.le_total 0 v with hv0 | hv0
      · left
        have a : 0 ≤ m * u := by rw [e]; exact Int.mul_nonneg (Int.le_of_lt hu) hv0
        have b := nn_of_mul hd a
        have c := Int.mul_le_mul_of_nonneg_right h hv0
        have d : 0 ≤ m * (v - u) := by rw [Int.mul_sub]; omega
        have := nn_of_mul hd d
        omega
      · right
        have a : 0 ≤ m * (-u) := by rw [Int.mul_neg, e]; have := Int.mul_nonneg (Int.le_of_lt hu) (show 0 ≤ -v by omega); rw [Int.mul_neg] at this; exact this
        have b := nn_of_mul hd a
        have c := Int.mul_le_mul_of_nonneg_right h (show 0 ≤ -v by omega)
        rw [Int.mul_neg, Int.mul_neg] at c
        have d : 0 ≤ m * (u - v) := by rw [Int.mul_sub]; omega
        have := nn_of_mul hd d
        omega
  rcases Int.le_total m n with h | h
  · exact .inr ⟨(go _ _ e1).1 h, (go _ _ e2).1 h⟩
  · exact .inl ⟨(go _ _ e1).2 h, (go _ _ e2).2 h⟩

/-- from s the next corner is t -/
def Nx (l : List Pt) (s t : Pt) : Prop := t ∈ l ∧ (t = s → ∀ x, x ∈ l → x = s) ∧ ∀ x, x ∈ l → 0 ≤ turnP s t x ∧ (turnP s t x = 0 → Btw s t x)
theorem Nx.congr {l m : List Pt} (h : ∀ x, x ∈ l ↔ x ∈ m) {s t : Pt} (k : Nx l s t) : Nx m s t :=
  ⟨(h t).1 k.1, fun e x hx => k.2.1 e x ((h x).2 hx), fun x hx => k.2.2 x ((h x).2 hx)⟩
theorem turn_exch (a b c : Pt) : turnP a c b = -turnP a b c := by unfold turnP turnV; grind
theorem turn_flip (a b c : Pt) : turnP c b a = -turnP a b c := by unfold turnP turnV; grind
theorem turn_aa (a c : Pt) : turnP a a c = 0 := by unfold turnP turnV; grind
theorem turn_aca (a c : Pt) : turnP a c a = 0 := by unfold turnP turnV; grind
theorem turn_acc (a c : Pt) : turnP a c c = 0 := by unfold turnP turnV; grind
theorem Btw.l (a b : Pt) : Btw a b a := by unfold Btw; omega
theorem Btw.r (a b : Pt) : Btw a b b := by unfold Btw; omega
theorem Btw.anti {a b c : Pt} (h : Btw a b c) (k : Btw a c b) : b = c := by
  unfold Btw at *
  exact Pt.ext' (by omega) (by omega)
theorem Btw.anti' {a b c : Pt} (h : Btw a b c) (k : Btw c b a) : a = c := by
  unfold Btw at *
  exact Pt.ext' (by omega) (by omega)
theorem Nx.unique {l : List Pt} {s t u : Pt} (h : Nx l s t) (k : Nx l s u) : t = u := by
  have a := h.2.2 u k.1
  have b := k.2.2 t h.1
  rw [turn_exch] at b
  exact (a.2 (by omega)).anti (b.2 (by omega))
theorem Nx.inj {l : List Pt} {s u t : Pt} (hs : s ∈ l) (hu : u ∈ l) (h : Nx l s t) (k : Nx l u t) : s = u := by
  have a := h.2.2 u hu
  have b := k.2.2 s hs
  rw [turn_flip] at b
  exact (a.2 (by omega)).anti' (b.2 (by omega))

/-- h is the hull of l -/
structure HullOf (l h : List Pt) : Prop where
  none : l = [] → h = []
  some : l ≠ [] → 1 ≤ h.length
  first : l ≠ [] → nth h 0 ∈ l ∧ ∀ x, x ∈ l → ¬ LexLt x (nth h 0)
  next : ∀ i, i < h.length → Nx l (nth h i) (nth h ((i + 1) % h.length))
  back : ∀ i, 0 < i → i < h.length → nth h i ≠ nth h 0
theorem HullOf.congr {l m h : List Pt} (e : ∀ x, x ∈ l ↔ x ∈ m) (k : HullOf l h) : HullOf m h := by
  have hn : ∀ l : List Pt, l = [] ↔ ∀ x, x ∉ l := fun l => ⟨fun h => by rw [h]; simp, List.eq_nil_iff_forall_not_mem.2⟩
  have e0 : l = [] ↔ m = [] := by
    rw [hn, hn]
    exact ⟨fun h x hx => h x ((e x).2 hx), fun h x hx => h x ((e x).1 hx)⟩
  refine ⟨fun h => k.none (e0.2 h), fun h => k.some fun h' => h (e0.1 h'), fun h => ?_, fun i hi => (k.next i hi).congr e, k.back⟩
  have := k.first fun h' => h (e0.1 h')
  exact ⟨(e _).1 this.1, fun x hx => this.2 x ((e x).2 hx)⟩
theorem ext_nth {l m : List Pt} (h : l.length = m.length) (e : ∀ i, i < l.length → nth l i = nth m i) : l = m := by
  refine List.ext_getElem h fun i h1 h2 => ?_
  have := e i h1
  simpa [nth, List.getD_eq_getElem?_getD, List.getElem?_eq_getElem h1, List.getElem?_eq_getElem h2] using this
theorem HullOf.unique {l h k : List Pt} (a : HullOf l h) (b : HullOf l k) : h = k := by
  by_cases hl : l = []
  · rw [a.none hl, b.none hl]
  have f0 : nth h 0 = nth k 0 := by
    rcases LexLt.tri (nth h 0) (nth k 0) with c | c | c
    · exact absurd c ((b.first hl).2 _ (a.first hl).1)
    · exact c
    · exact absurd c ((a.first hl).2 _ (b.first hl).1)
  have same : ∀ i, i < h.length → i < k.length → nth h i = nth k i := fun i => by
    induction i with
    | zero => exact fun _ _ => f0
    | succ i ih =>
      intro h1 h2
      have x := a.next i (by omega)
      have y := b.next i (by omega)
      rw [Nat.mod_eq_of_lt (by omega)] at x y
      rw [ih (by omega) (by omega)] at x
      exact x.unique y
  have ha := a.some hl
  have hb := b.some hl
  have len : h.length = k.length := by
    rcases Nat.lt_trichotomy h.length k.length with c | c | c
    · have x := a.next (h.length - 1) (by omega)
      have y := b.next (h.length - 1) (by omega)
      rw [show h.length - 1 + 1 = h.length by omega] at x y
      rw [Nat.mod_self, same _ (by omega) (by omega)] at x
      rw [Nat.mod_eq_of_lt c] at y
      exact absurd ((y.unique x).trans f0) (b.back _ (by omega) c)
    · exact c
    · have x := a.next (k.length - 1) (by omega)
      have y := b.next (k.length - 1) (by omega)
      rw [show k.length - 1 + 1 = k.length by omega] at x y
      rw [Nat.mod_self, ← same _ (by omega) (by omega)] at y
      rw [Nat.mod_eq_of_lt c] at x
      exact absurd ((x.unique y).trans f0.symm) (a.back _ (by omega) c)
  exact ext_nth len fun i hi => same i hi (by omega)

/-- all points lie on one side of s -/
def Ext (l : List Pt) (s : Pt) : Prop := ∃ dx dy : Int, ∀ x, x ∈ l → x ≠ s → HP dx dy (x.x - s.x) (x.y - s.y)
theorem ext_first {l : List Pt} {s : Pt} (h : ∀ x, x ∈ l → ¬ LexLt x s) : Ext l s := by
  refine ⟨0, -1, fun x hx hne => ?_⟩
  have a := h x hx
  rcases LexLt.tri s x with b | b | b
  · unfold HP crs dt; unfold LexLt at b; omega
  · exact absurd b.symm hne
  · exact absurd b a
theorem Nx.ext {l : List Pt} {s t : Pt} (h : Nx l s t) : Ext l t := by
  by_cases e : t = s
  · exact ⟨1, 1, fun x hx hne => absurd (h.2.1 e x hx) (by rw [← e]; exact hne)⟩
  · refine ⟨t.x - s.x, t.y - s.y, fun x hx hne => ?_⟩
    obtain ⟨a, b⟩ := h.2.2 x hx
    have c : crs (t.x - s.x) (t.y - s.y) (x.x - t.x) (x.y - t.y) = turnP s t x := by unfold crs turnP turnV; grind
    unfold HP
    rw [c]
    by_cases z : turnP s t x = 0
    · right
      refine ⟨z, ?_⟩
      have bt := b z
      have hne' : ¬ (x.x = t.x ∧ x.y = t.y) := fun e => hne (Pt.ext' e.1 e.2)
      have hst : ¬ (t.x = s.x ∧ t.y = s.y) := fun e' => e (Pt.ext' e'.1 e'.2)
      unfold turnP turnV at z
      unfold Btw at bt
      unfold dt
      generalize ex : t.x - s.x = p at *
      generalize ey : t.y - s.y = q at *
      generalize eu : x.x - t.x = u at *
      generalize ev : x.y - t.y = v at *
      have z' : p * v = q * u := by
        have f1 : x.y - s.y = v + q := by omega
        have f2 : x.x - s.x = u + p := by omega
        rw [f1, f2] at z
        grind
      have m1 : p * u ≤ 0 := by
        rcases Int.le_total 0 p with hp | hp
        · have := Int.mul_nonneg hp (show 0 ≤ -u by omega); rw [Int.mul_neg] at this; omega
        · have := Int.mul_nonneg (show 0 ≤ -p by omega) (show 0 ≤ u by omega); rw [Int.neg_mul] at this; omega
      have m2 : q * v ≤ 0 := by
        rcases Int.le_total 0 q with hp | hp
        · have := Int.mul_nonneg hp (show 0 ≤ -v by omega); rw [Int.mul_neg] at this; omega
        · have := Int.mul_nonneg (show 0 ≤ -q by omega) (show 0 ≤ v by omega); rw [Int.neg_mul] at this; omega
      rcases Int.lt_or_le (p * u + q * v) 0 with h' | h'
      · exact h'
      · exfalso
        have hpq := sq_sum_pos (x := p) (y := q) (by omega)
        have e1 : (p * p + q * q) * u = (p * u + q * v) * p := by grind
        have e2 : (p * p + q * q) * v = (p * u + q * v) * q := by grind
        rw [show p * u + q * v = 0 by omega, Int.zero_mul] at e1 e2
        have u0 : u = 0 := (Int.mul_eq_zero.1 e1).resolve_left (by omega)
        have v0 : v = 0 := (Int.mul_eq_zero.1 e2).resolve_left (by omega)
        omega
    · left; omega

/-- one step of the search for the next corner -/
def wrapStep (s t p : Pt) : Pt := if t = s ∨ turnP s t p < 0 ∨ turnP s t p = 0 ∧ Btw s p t then p else t
def nextTo (l : List Pt) (s : Pt) : Nat → Pt
  | 0 => s
  | k + 1 => wrapStep s (nextTo l s k) (nth l k)
def nextP (l : List Pt) (s : Pt) : Pt := nextTo l s l.length
theorem nth_mem' {l : List Pt} {k : Nat} (h : k < l.length) : nth l k ∈ l := by
  simp only [nth, List.getD_eq_getElem?_getD, List.getElem?_eq_getElem h, Option.getD_some]
  exact List.getElem_mem h
theorem mem_nth' {l : List Pt} {x : Pt} (h : x ∈ l) : ∃ k, k < l.length ∧ nth l k = x := by
  obtain ⟨k, hk, e⟩ := List.mem_iff_getElem.1 h
  exact ⟨k, hk, by simp [nth, List.getD_eq_getElem?_getD, List.getElem?_eq_getElem hk, e]⟩
/-- what the search keeps -/
def Kept (l : List Pt) (s t : Pt) (k : Nat) : Prop := (t = s ∧ ∀ j, j < k → nth l j = s) ∨ (t ≠ s ∧ (∃ j, j < k ∧ nth l j = t) ∧ ∀ j, j < k → 0 ≤ turnP s t (nth l j) ∧ (turnP s t (nth l j) = 0 → Btw s t (nth l j)))
theorem kept_step {l : List Pt} {s t : Pt} {k : Nat} (he : Ext l s) (hk : k < l.length) (h : Kept l s t k) : Kept l s (wrapStep s t (nth l k)) (k + 1) := by
  obtain ⟨dx, dy, he⟩ := he
  have hpk := nth_mem' hk
  generalize hp : nth l k = p at *
  unfold wrapStep
  rcases h with ⟨rfl, h⟩ | ⟨hne, ⟨j0, hj0, ej0⟩, h⟩
  · rw [if_pos (.inl rfl)]
    by_cases e : p = t
    · left
      refine ⟨e, fun j hj => ?_⟩
      by_cases ej : j = k
      · rw [ej, hp, e]
      · exact h j (by omega)
    · right
      refine ⟨e, ⟨k, by omega, hp⟩, fun j hj => ?_⟩
      by_cases ej : j = k
      · rw [ej, hp, turn_acc]; exact ⟨Int.le_refl _, fun _ => Btw.r _ _⟩
      · rw [h j (by omega), turn_aca]; exact ⟨Int.le_refl _, fun _ => Btw.l _ _⟩
  · have htl : t ∈ l := by rw [← ej0]; exact nth_mem' (by omega)
    have ht := he t htl hne
    split
    · rename_i hc
      have hps : p ≠ s := fun e => by
        subst e
        rcases hc with hc | hc | hc
        · exact hne hc
        · rw [turn_aca] at hc; omega
        · have := hc.2; unfold Btw at this; exact hne (Pt.ext' (by omega) (by omega))
      have hpp := he p hpk hps
      right
      refine ⟨hps, ⟨k, by omega, hp⟩, fun j hj => ?_⟩
      by_cases ej : j = k
      · rw [ej, hp, turn_acc]; exact ⟨Int.le_refl _, fun _ => Btw.r _ _⟩
      · obtain ⟨h1, h2⟩ := h j (by omega)
        have hxl : nth l j ∈ l := nth_mem' (by omega)
        generalize nth l j = x at *
        by_cases hxs : x = s
        · rw [hxs, turn_aca]; exact ⟨Int.le_refl _, fun _ => Btw.l _ _⟩
        have hx := he x hxl hxs
        rcases hc with hc | hc | ⟨hc, hb⟩
        · exact absurd hc hne
        · have a : 0 < turnP s p t := by rw [turn_exch]; omega
          have := hp_trans hpp ht hx a h1
          change 0 < turnP s p x at this
          exact ⟨Int.le_of_lt this, fun e => by omega⟩
        · -- t lies between s and p
          have al := hp_along ht hpp hc
          have lk : dt (t.x - s.x) (t.y - s.y) (p.x - s.x) (p.y - s.y) * turnP s t x = ((t.x - s.x) * (t.x - s.x) + (t.y - s.y) * (t.y - s.y)) * turnP s p x := by
            unfold turnP turnV dt at *; grind
          have hn : 0 < (t.x - s.x) * (t.x - s.x) + (t.y - s.y) * (t.y - s.y) := sq_sum_pos fun e => hne (Pt.ext' (by omega) (by omega))
          refine ⟨nn_of_mul hn (by rw [← lk]; exact Int.mul_nonneg (Int.le_of_lt al) h1), fun e => ?_⟩
          rw [e, Int.mul_zero] at lk
          have := h2 ((Int.mul_eq_zero.1 lk).resolve_left (by omega))
          unfold Btw at *; omega
    · rename_i hc
      right
      refine ⟨hne, ⟨j0, by omega, ej0⟩, fun j hj => ?_⟩
      by_cases ej : j = k
      · rw [ej, hp]
        have hc1 : ¬ turnP s t p < 0 := fun h => hc (.inr (.inl h))
        refine ⟨by omega, fun e => ?_⟩
        by_cases hps : p = s
        · rw [hps]; exact Btw.l _ _
        have hpp := he p hpk hps
        have al := hp_along ht hpp e
        rcases along_box e al with b | b
        · exact absurd (.inr (.inr ⟨e, by unfold Btw; omega⟩)) hc
        · unfold Btw; omega
      · exact h j (by omega)
theorem kept_to {l : List Pt} {s : Pt} (he : Ext l s) : ∀ k, k ≤ l.length → Kept l s (nextTo l s k) k
  | 0, _ => .inl ⟨rfl, fun j h => by omega⟩
  | k + 1, h => kept_step he (by omega) (kept_to he k (by omega))
theorem nextP_nx {l : List Pt} {s : Pt} (he : Ext l s) (hs : s ∈ l) : Nx l s (nextP l s) := by
  rcases kept_to he l.length (Nat.le_refl _) with ⟨h1, h2⟩ | ⟨h1, ⟨j, hj, ej⟩, h2⟩
  · change nextP l s = s at h1
    rw [h1]
    have all : ∀ x, x ∈ l → x = s := fun x hx => by obtain ⟨k, hk, rfl⟩ := mem_nth' hx; exact h2 k hk
    exact ⟨hs, fun _ => all, fun x hx => by rw [all x hx, turn_aa]; exact ⟨Int.le_refl _, fun _ => Btw.l _ _⟩⟩
  · change nextP l s ≠ s at h1
    change nth l j = nextP l s at ej
    refine ⟨by rw [← ej]; exact nth_mem' hj, fun e => absurd e h1, fun x hx => ?_⟩
    obtain ⟨k, hk, rfl⟩ := mem_nth' hx
    exact h2 k hk

/-- the corners, one behind the other -/
def walkP (l : List Pt) (s : Pt) : Nat → Pt
  | 0 => s
  | k + 1 => nextP l (walkP l s k)
theorem walk_ok {l : List Pt} {s : Pt} (hs : s ∈ l) (hf : ∀ x, x ∈ l → ¬ LexLt x s) : ∀ k, walkP l s k ∈ l ∧ Ext l (walkP l s k)
  | 0 => ⟨hs, ext_first hf⟩
  | k + 1 => by
    obtain ⟨a, b⟩ := walk_ok hs hf k
    have := nextP_nx b a
    exact ⟨this.1, this.ext⟩
theorem walk_nx {l : List Pt} {s : Pt} (hs : s ∈ l) (hf : ∀ x, x ∈ l → ¬ LexLt x s) (k : Nat) : Nx l (walkP l s k) (walkP l s (k + 1)) :=
  nextP_nx (walk_ok hs hf k).2 (walk_ok hs hf k).1
theorem nodup_le : ∀ {l m : List Pt}, l.Nodup → (∀ x, x ∈ l → x ∈ m) → l.length ≤ m.length
  | [], _, _, _ => Nat.zero_le _
  | a :: l, m, hn, h => by
    have hn' := List.nodup_cons.1 hn
    have ham := h a (by simp)
    have := nodup_le (l := l) (m := m.erase a) hn'.2 fun x hx => by
      have hne : x ≠ a := fun e => hn'.1 (e ▸ hx)
      exact (List.mem_erase_of_ne hne).2 (h x (List.mem_cons_of_mem _ hx))
    rw [List.length_erase_of_mem ham] at this
    have : 0 < m.length := List.length_pos_of_mem ham
    simp only [List.length_cons]
    omega
/-- of n + 1 points of a list of n two are one -/
theorem pigeon {m : List Pt} (f : Nat → Pt) (h : ∀ k, f k ∈ m) : ∃ i j, i < j ∧ j ≤ m.length ∧ f i = f j := by
  apply Classical.byContradiction
  intro hn
  have nd : ((List.range (m.length + 1)).map f).Nodup := by
    rw [List.nodup_iff_pairwise_ne, List.pairwise_map]
    refine List.Pairwise.imp_of_mem ?_ List.pairwise_lt_range
    intro a b ha hb hab e
    exact hn ⟨a, b, hab, by have := List.mem_range.1 hb; omega, e⟩
  have := nodup_le nd (m := m) fun x hx => by
    obtain ⟨i, _, rfl⟩ := List.mem_map.1 hx
    exact h i
  simp at this
  omega
theorem walk_back {l : List Pt} {s : Pt} (hs : s ∈ l) (hf : ∀ x, x ∈ l → ¬ LexLt x s) : ∃ n, 1 ≤ n ∧ n ≤ l.length ∧ walkP l s n = s := by
  obtain ⟨i, j, hij, hj, e⟩ := pigeon (walkP l s) fun k => (walk_ok hs hf k).1
  have down : ∀ i j, i < j → walkP l s i = walkP l s j → walkP l s (j - i) = s := fun i => by
    induction i with
    | zero => intro j _ e; exact e.symm
    | succ i ih =>
      intro j hj e
      have a := walk_nx hs hf i
      have b := walk_nx hs hf (j - 1)
      rw [show j - 1 + 1 = j by omega, ← e] at b
      have := ih (j - 1) (by omega) (a.inj (walk_ok hs hf i).1 (walk_ok hs hf (j - 1)).1 b)
      rwa [show j - (i + 1) = j - 1 - i by omega]
  exact ⟨j - i, by omega, by omega, down i j hij e⟩
theorem least_nat {p : Nat → Prop} : ∀ n, p n → ∃ m, m ≤ n ∧ p m ∧ ∀ k, k < m → ¬ p k := fun n => by
  induction n using Nat.strongRecOn with
  | ind n ih =>
    intro hn
    by_cases h : ∃ k, k < n ∧ p k
    · obtain ⟨k, hk, pk⟩ := h
      obtain ⟨m, h1, h2, h3⟩ := ih k hk pk
      exact ⟨m, by omega, h2, h3⟩
    · exact ⟨n, Nat.le_refl _, hn, fun k hk pk => h ⟨k, hk, pk⟩⟩
/-- how many corners there are -/
theorem walk_round {l : List Pt} {s : Pt} (hs : s ∈ l) (hf : ∀ x, x ∈ l → ¬ LexLt x s) : ∃ n, 1 ≤ n ∧ n ≤ l.length ∧ walkP l s n = s ∧ ∀ k, 1 ≤ k → k < n → walkP l s k ≠ s := by
  obtain ⟨n, h1, h2, h3⟩ := walk_back hs hf
  obtain ⟨m, a, ⟨b, c⟩, d⟩ := least_nat (p := fun k => 1 ≤ k ∧ walkP l s k = s) n ⟨h1, h3⟩
  exact ⟨m, b, by omega, c, fun k k1 k2 e => d k k2 ⟨k1, e⟩⟩
theorem nth_uptoW (f : Nat → Pt) {n k : Nat} (h : k < n) : nth ((List.range n).map f) k = f k := by
  simp [nth, List.getD_eq_getElem?_getD, h]
theorem hull_walk {l : List Pt} {s : Pt} {n : Nat} (hs : s ∈ l) (hf : ∀ x, x ∈ l → ¬ LexLt x s) (h1 : 1 ≤ n) (hr : walkP l s n = s) (hb : ∀ k, 1 ≤ k → k < n → walkP l s k ≠ s) : HullOf l ((List.range n).map (walkP l s)) := by
  refine ⟨fun h => by rw [h] at hs; simp at hs, fun _ => by simp; omega, fun _ => ?_, fun i hi => ?_, fun i h0 hi => ?_⟩
  · rw [nth_uptoW _ (by omega)]; exact ⟨hs, hf⟩
  · simp only [List.length_map, List.length_range] at hi ⊢
    rw [nth_uptoW _ hi, nth_uptoW _ (Nat.mod_lt _ (by omega))]
    have := walk_nx hs hf i
    by_cases e : i + 1 = n
    · rw [e, Nat.mod_self]
      rw [e, hr] at this
      exact this
    · rw [Nat.mod_eq_of_lt (by omega)]; exact this
  · simp only [List.length_map, List.length_range] at hi
    rw [nth_uptoW _ hi, nth_uptoW _ (by omega)]
    exact hb i h0 hi
/-- the least point, by search -/
def leastTo (l : List Pt) : Nat → Pt
  | 0 => nth l 0
  | k + 1 => if LexLt (nth l k) (leastTo l k) then nth l k else leastTo l k
theorem leastTo_mem {l : List Pt} (h1 : 1 ≤ l.length) : ∀ k, k ≤ l.length → leastTo l k ∈ l
  | 0, _ => nth_mem' (by omega)
  | k + 1, h => by
    simp only [leastTo]
    split
    · exact nth_mem' (by omega)
    · exact leastTo_mem h1 k (by omega)
theorem leastTo_le {l : List Pt} : ∀ k j, j < k → ¬ LexLt (nth l j) (leastTo l k)
  | 0, j, h => by omega
  | k + 1, j, h => by
    simp only [leastTo]
    by_cases e : j = k
    · subst e
      split
      · exact fun h => h.irrefl
      · assumption
    · have ih := leastTo_le (l := l) k j (by omega)
      split
      · rename_i h'; exact fun h'' => ih (h''.trans h')
      · exact ih
def leastP (l : List Pt) : Pt := leastTo l l.length
theorem leastP_mem {l : List Pt} (h1 : 1 ≤ l.length) : leastP l ∈ l := leastTo_mem h1 _ (Nat.le_refl _)
theorem leastP_le {l : List Pt} : ∀ x, x ∈ l → ¬ LexLt x (leastP l) := fun x hx => by
  obtain ⟨j, hj, rfl⟩ := mem_nth' hx
  exact leastTo_le _ j hj
/-- every list has its hull -/
theorem hull_exists (l : List Pt) : ∃ h, HullOf l h ∧ h.length ≤ l.length := by
  by_cases hl : l = []
  · exact ⟨[], ⟨fun _ => rfl, fun h => absurd hl h, fun h => absurd hl h, fun i hi => by simp at hi, fun i _ hi => by simp at hi⟩, by simp⟩
  · have h1 : 1 ≤ l.length := List.length_pos_iff.2 hl
    obtain ⟨n, a, b, c, d⟩ := walk_round (leastP_mem h1) leastP_le
    exact ⟨_, hull_walk (leastP_mem h1) leastP_le a c d, by simpa using b⟩
noncomputable def hullP (l : List Pt) : List Pt := Classical.choose (hull_exists l)
theorem hullP_of (l : List Pt) : HullOf l (hullP l) := (Classical.choose_spec (hull_exists l)).1
theorem hullP_len (l : List Pt) : (hullP l).length ≤ l.length := (Classical.choose_spec (hull_exists l)).2
theorem hullP_eq {l h : List Pt} (k : HullOf l h) : h = hullP l := k.unique (hullP_of l)
theorem hullP_congr {l m : List Pt} (e : ∀ x, x ∈ l ↔ x ∈ m) : hullP l = hullP m := hullP_eq ((hullP_of l).congr e)
end Go.Proofs.Ytoekcefhphcjjaa
