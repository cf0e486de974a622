/- Plain geometry: points, the area of a triangle, the order of places. No program here. -/
namespace Go.Proofs.Ytjjkmonfihomnaa

structure Pt where
  x : Int
  y : Int
deriving DecidableEq

theorem Pt.ext' {a b : Pt} (h1 : a.x = b.x) (h2 : a.y = b.y) : a = b := by cases a; cases b; simp_all

/-- corner i of a list of points -/
def nth (l : List Pt) (i : Nat) : Pt := l.getD i ⟨0, 0⟩

/-- twice the area of a triangle -/
def turnV (ax ay bx by' cx cy : Int) : Int := (bx - ax) * (cy - ay) - (by' - ay) * (cx - ax)
def turnP (a b c : Pt) : Int := turnV a.x a.y b.x b.y c.x c.y

/-- cmp.Compare -/
def cmpI (a b : Int) : Int := if a < b then -1 else if b < a then 1 else 0
theorem cmpI_lt {a b : Int} (h : a < b) : cmpI a b = -1 := by simp [cmpI, h]
theorem cmpI_gt {a b : Int} (h : b < a) : cmpI a b = 1 := by simp [cmpI, show ¬ a < b by omega, h]
theorem cmpI_eq (a : Int) : cmpI a a = 0 := by simp [cmpI]
/-- places are compared by x, then by y -/
def orI (x y : Int) : Int := if x = 0 then y else x
def cmpV (ax ay bx by' : Int) : Int := orI (cmpI ax bx) (cmpI ay by')
def cmpP (a b : Pt) : Int := cmpV a.x a.y b.x b.y

def placeB (x y : Int) : Bool := decide (-500000 ≤ x ∧ x ≤ 500000 ∧ -500000 ≤ y ∧ y ≤ 500000)
theorem placeB_true {x y : Int} (h : placeB x y = true) : -500000 ≤ x ∧ x ≤ 500000 ∧ -500000 ≤ y ∧ y ≤ 500000 := by simpa [placeB] using h
theorem placeB_false {x y : Int} (h : placeB x y = false) : x < -500000 ∨ 500000 < x ∨ y < -500000 ∨ 500000 < y := by
  have : ¬ (-500000 ≤ x ∧ x ≤ 500000 ∧ -500000 ≤ y ∧ y ≤ 500000) := by simpa [placeB] using h
  omega
def placeP (p : Pt) : Bool := placeB p.x p.y

theorem prod_bd {a b m n : Int} (h1 : -m ≤ a) (h2 : a ≤ m) (h3 : -n ≤ b) (h4 : b ≤ n) : -(m * n) ≤ a * b ∧ a * b ≤ m * n := by
  have hm : 0 ≤ m := by omega
  have hn : 0 ≤ n := by omega
  have e : a * b ≤ m * n ∧ -(a * b) ≤ m * n := by
    rcases Int.le_total 0 a with ha | ha <;> rcases Int.le_total 0 b with hb | hb
    · have x := Int.mul_le_mul h2 h4 hb hm; have y := Int.mul_nonneg ha hb; omega
    · have x := Int.mul_le_mul h2 (show -b ≤ n by omega) (by omega) hm; have y := Int.mul_nonneg ha (show 0 ≤ -b by omega); rw [Int.mul_neg] at x y; omega
    · have x := Int.mul_le_mul (show -a ≤ m by omega) h4 hb hm; have y := Int.mul_nonneg (show 0 ≤ -a by omega) hb; rw [Int.neg_mul] at x y; omega
    · have x := Int.mul_le_mul (show -a ≤ m by omega) (show -b ≤ n by omega) (by omega) hm; have y := Int.mul_nonneg (show 0 ≤ -a by omega) (show 0 ≤ -b by omega); rw [Int.neg_mul_neg] at x y; omega
  omega
end Go.Proofs.Ytjjkmonfihomnaa
