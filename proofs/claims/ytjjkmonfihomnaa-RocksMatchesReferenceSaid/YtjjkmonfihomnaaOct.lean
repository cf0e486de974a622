/- Plain geometry: the disk with eight corners; the points of a hull. No program here. -/
import Derived.Test.YtjjkmonfihomnaaWrap
import Derived.Test.YtjjkmonfihomnaaTouch
import Derived.Test.YtjjkmonfihomnaaPlain
namespace Go.Proofs.Ytjjkmonfihomnaa

/-- the least number whose square is at least twice that of another one -/
def wideN (n : Nat) : Nat := if isqrt (2 * n * n) * isqrt (2 * n * n) = 2 * n * n then isqrt (2 * n * n) else isqrt (2 * n * n) + 1
theorem wideN_spec (n : Nat) : 2 * n * n ≤ wideN n * wideN n ∧ ∀ m, m < wideN n → m * m < 2 * n * n := by
  have h := isqrt_spec (2 * n * n)
  unfold wideN
  generalize isqrt (2 * n * n) = r at *
  generalize 2 * n * n = q at *
  split
  · refine ⟨by omega, fun m hm => ?_⟩
    have := Nat.mul_lt_mul'' hm hm
    omega
  · refine ⟨by omega, fun m hm => ?_⟩
    have := Nat.mul_le_mul (show m ≤ r by omega) (show m ≤ r by omega)
    omega
theorem wideN_le {n m : Nat} (h : 2 * n * n ≤ m * m) : wideN n ≤ m := by
  rcases Nat.lt_or_ge m (wideN n) with h' | h'
  · have := (wideN_spec n).2 m h'; omega
  · exact h'
theorem wideN_gt {n m : Nat} (h : m * m < 2 * n * n) : m < wideN n := by
  rcases Nat.lt_or_ge m (wideN n) with h' | h'
  · exact h'
  · have := Nat.mul_le_mul h' h'
    have := (wideN_spec n).1
    omega
theorem wideN_mono {n m : Nat} (h : n ≤ m) : wideN n ≤ wideN m := by
  refine wideN_le (Nat.le_trans ?_ (wideN_spec m).1)
  rw [Nat.mul_assoc, Nat.mul_assoc]
  exact Nat.mul_le_mul_left 2 (Nat.mul_le_mul h h)
theorem wideN_ge (n : Nat) : n ≤ wideN n := by
  rcases Nat.lt_or_ge (wideN n) n with h' | h'
  · have := (wideN_spec n).1
    have b := Nat.mul_lt_mul'' h' h'
    rw [Nat.mul_assoc] at this
    omega
  · exact h'
theorem wideN_two (n : Nat) : wideN n ≤ 2 * n := wideN_le (by
  have : 2 * n * (2 * n) = 2 * (2 * n * n) := by grind
  omega)
/-- the disk's corners, moved -/
def octAt (a : Pt) (n k : Int) : List Pt := [⟨n + a.x, -k + a.y⟩, ⟨n + a.x, k + a.y⟩, ⟨k + a.x, n + a.y⟩, ⟨-k + a.x, n + a.y⟩, ⟨-n + a.x, k + a.y⟩, ⟨-n + a.x, -k + a.y⟩, ⟨-k + a.x, -n + a.y⟩, ⟨k + a.x, -n + a.y⟩]
def octK (n : Nat) : Int := (wideN n : Int) - n
theorem octK_bd (n : Nat) : 0 ≤ octK n ∧ octK n ≤ n := by
  have := wideN_ge n
  have := wideN_two n
  unfold octK; omega
theorem oct_in {P : Int → Int → Int → Prop} (mix : ∀ {X1 Y1 W1 X2 Y2 W2 K s t X Y W : Int}, 0 < K → 0 ≤ s → 0 ≤ t → K * X = s * X1 + t * X2 → K * Y = s * Y1 + t * Y2 → K * W = s * W1 + t * W2 → P X1 Y1 W1 → P X2 Y2 W2 → P X Y W)
    {n k : Int} (h0 : 0 ≤ k) (hn : k ≤ n) (p1 : P n (-k) 1) (p2 : P n k 1) (p3 : P k n 1) (p4 : P (-k) n 1) (p5 : P (-n) k 1) (p6 : P (-n) (-k) 1) (p7 : P (-k) (-n) 1) (p8 : P k (-n) 1)
    {x y : Int} (x1 : -n ≤ x) (x2 : x ≤ n) (y1 : -n ≤ y) (y2 : y ≤ n) (q1 : x + y ≤ n + k) (q2 : x - y ≤ n + k) (q3 : -x + y ≤ n + k) (q4 : -x - y ≤ n + k) : P x y 1 := by
  have ends : ∃ e, 0 ≤ e ∧ -e ≤ x ∧ x ≤ e ∧ P e y 1 ∧ P (-e) y 1 := by
    by_cases c : -k ≤ y ∧ y ≤ k
    · refine ⟨n, by omega, x1, x2, ?_, ?_⟩
      · by_cases z : k = 0
        · subst z; rw [show y = 0 by omega]; exact p2
        · exact mix (K := 2 * k) (s := y + k) (t := k - y) (by omega) (by omega) (by omega) (by grind) (by grind) (by grind) p2 p1
      · by_cases z : k = 0
        · subst z; rw [show y = 0 by omega]; exact p5
        · exact mix (K := 2 * k) (s := y + k) (t := k - y) (by omega) (by omega) (by omega) (by grind) (by grind) (by grind) p5 p6
    · by_cases c2 : k < y
      · refine ⟨n + k - y, by omega, by omega, by omega, ?_, ?_⟩
        · exact mix (K := n - k) (s := n - y) (t := y - k) (by omega) (by omega) (by omega) (by grind) (by grind) (by grind) p2 p3
        · exact mix (K := n - k) (s := n - y) (t := y - k) (by omega) (by omega) (by omega) (by grind) (by grind) (by grind) p5 p4
      · refine ⟨n + k + y, by omega, by omega, by omega, ?_, ?_⟩
        · exact mix (K := n - k) (s := n + y) (t := -y - k) (by omega) (by omega) (by omega) (by grind) (by grind) (by grind) p1 p8
        · exact mix (K := n - k) (s := n + y) (t := -y - k) (by omega) (by omega) (by omega) (by grind) (by grind) (by grind) p6 p7
  obtain ⟨e, e0, e1, e2, pr, pl⟩ := ends
  by_cases z : e = 0
  · subst z; rw [show x = 0 by omega]; exact pr
  · exact mix (K := 2 * e) (s := x + e) (t := e - x) (by omega) (by omega) (by omega) (by grind) (by grind) (by grind) pr pl
/-- a direction that is not longer than n lies in the disk -/
theorem circle_oct {n : Nat} {x y : Int} (h : x * x + y * y ≤ (n : Int) * n) : (-(n : Int) ≤ x ∧ x ≤ n ∧ -(n : Int) ≤ y ∧ y ≤ n) ∧ (x + y ≤ n + octK n ∧ x - y ≤ n + octK n ∧ -x + y ≤ n + octK n ∧ -x - y ≤ n + octK n) := by
  have sx := sq_nn (x)
  have sy := sq_nn (y)
  have root : ∀ a b : Int, 0 ≤ b → a * a ≤ b * b → a ≤ b := fun a b hb hab => by
    rcases Int.lt_or_le b a with h' | h'
    · have e := Int.mul_le_mul (show b + 1 ≤ a by omega) (show b + 1 ≤ a by omega) (by omega) (by omega)
      have e2 : (b + 1) * (b + 1) = b * b + 2 * b + 1 := by grind
      omega
    · exact h'
  have w := (wideN_spec n).1
  have w' : 2 * ((n : Int) * n) ≤ (wideN n : Int) * wideN n := by
    have : ((2 * n * n : Nat) : Int) ≤ ((wideN n * wideN n : Nat) : Int) := by exact_mod_cast w
    push_cast at this
    rw [Int.mul_assoc] at this
    exact this
  have ek : (n : Int) + octK n = wideN n := by unfold octK; omega
  rw [ek]
  have d1 : (x + y) * (x + y) + (x - y) * (x - y) = 2 * (x * x + y * y) := by grind
  have n1 := sq_nn (x + y)
  have n2 := sq_nn (x - y)
  have e1 : -x * -x = x * x := Int.neg_mul_neg x x
  have e2 : -y * -y = y * y := Int.neg_mul_neg y y
  have e3 : (-x - y) * (-x - y) = (x + y) * (x + y) := by grind
  have e4 : (-x + y) * (-x + y) = (x - y) * (x - y) := by grind
  have a1 := root x n (by omega) (by omega)
  have a2 := root (-x) n (by omega) (by omega)
  have a3 := root y n (by omega) (by omega)
  have a4 := root (-y) n (by omega) (by omega)
  have b1 := root (x + y) (wideN n) (by omega) (by omega)
  have b2 := root (x - y) (wideN n) (by omega) (by omega)
  have b3 := root (-x + y) (wideN n) (by omega) (by omega)
  have b4 := root (-x - y) (wideN n) (by omega) (by omega)
  omega

/-- a hull has all the points of its list -/
theorem hull_has {l h : List Pt} (k : HullOf l h) {x : Pt} (hx : x ∈ l) : InH h x.x x.y 1 := by
  have hl : l ≠ [] := List.ne_nil_of_mem hx
  have h1 := k.some hl
  unfold InH
  by_cases h3 : h.length < 3
  · rw [if_pos h3]
    rcases (show h.length = 1 ∨ h.length = 2 by omega) with e | e
    · have n0 := k.next 0 (by omega)
      rw [e] at n0 ⊢
      have := n0.2.1 rfl x hx
      simp only [Nat.sub_self]
      rw [this]
      exact ⟨1, 1, 0, by omega, by omega, by omega, by omega, by omega, by omega⟩
    · have n0 := k.next 0 (by omega)
      have n1 := k.next 1 (by omega)
      rw [e] at n0 n1 ⊢
      have a := n0.2.2 x hx
      have b := (n1.2.2 x hx).1
      change 0 ≤ turnP (nth h 0) (nth h 1) x ∧ (turnP (nth h 0) (nth h 1) x = 0 → Btw (nth h 0) (nth h 1) x) at a
      change 0 ≤ turnP (nth h 1) (nth h 0) x at b
      have sw : turnP (nth h 1) (nth h 0) x = -turnP (nth h 0) (nth h 1) x := turn_neg _ _ _
      have z : turnP (nth h 0) (nth h 1) x = 0 := by omega
      have bt := a.2 z
      have lt : LexLt (nth h 0) (nth h 1) := by
        have m1 : nth h 1 ∈ l := n0.1
        have := (k.first hl).2 _ m1
        rcases LexLt.tri (nth h 0) (nth h 1) with c | c | c
        · exact c
        · exact absurd c.symm (k.back 1 (by omega) (by omega))
        · exact absurd c this
      show SegH (nth h 0) (nth h 1) x.x x.y 1
      unfold Btw at bt
      unfold LexLt at lt
      exact seg_of_box (.inr lt) z (by split <;> omega) (by split <;> omega) (by split <;> omega) (by split <;> omega)
  · rw [if_neg h3]
    intro i hi
    rw [hturn_one]
    exact ((k.next i hi).2.2 x hx).1
theorem hull_mem {l h : List Pt} (k : HullOf l h) {i : Nat} (hi : i < h.length) : nth h i ∈ l := by
  by_cases h0 : i = 0
  · subst h0
    by_cases hl : l = []
    · rw [k.none hl] at hi; simp at hi
    · exact (k.first hl).1
  · have := k.next (i - 1) (by omega)
    rw [show i - 1 + 1 = i by omega, Nat.mod_eq_of_lt hi] at this
    exact this.1
theorem cmp_lex {a b : Pt} : cmpP a b < 0 ↔ LexLt a b := by
  unfold cmpP LexLt cmpV orI cmpI
  repeat' split
  all_goals omega
/-- a hull of places that is not too large is a polygon -/
theorem hull_valid {l h : List Pt} (k : HullOf l h) (hl : l ≠ []) (h64 : h.length ≤ 64) (hp : ∀ x, x ∈ l → placeP x = true) : GoValid h := by
  have lex : ∀ i, 0 < i → i < h.length → LexLt (nth h 0) (nth h i) := fun i h0 hi => by
    have := (k.first hl).2 _ (hull_mem k hi)
    rcases LexLt.tri (nth h 0) (nth h i) with c | c | c
    · exact c
    · exact absurd c.symm (k.back i h0 hi)
    · exact absurd c this
  refine ⟨k.some hl, h64, fun i hi => ⟨hp _ (hull_mem k hi), fun h0 => cmp_lex.2 (lex i h0 hi)⟩, fun h3 i hi j hj n1 n2 => ?_⟩
  have a := (k.next i hi).2.2 _ (hull_mem k hj)
  unfold sideP at n1 n2 ⊢
  simp only at n1 n2 ⊢
  rcases Int.lt_or_le 0 (turnP (nth h i) (nth h ((i + 1) % h.length)) (nth h j)) with c | c
  · exact c
  · exfalso
    have z : turnP (nth h i) (nth h ((i + 1) % h.length)) (nth h j) = 0 := by omega
    have bt := a.2 z
    have mi := hull_mem k hi
    have mi' := hull_mem k (Nat.mod_lt (i + 1) (by omega) : (i + 1) % h.length < h.length)
    have nj := k.next j hj
    have bi := nj.2.2 _ mi
    have bi' := nj.2.2 _ mi'
    have ne : nth h j ≠ nth h ((j + 1) % h.length) := fun e => by
      have all := nj.2.1 e.symm
      exact n1 (all _ mi).symm
    generalize nth h i = p at *
    generalize nth h ((i + 1) % h.length) = q at *
    generalize nth h j = x at *
    generalize nth h ((j + 1) % h.length) = t at *
    clear nj mi mi' a c k lex
    -- x lies between p and q, and all lies on the left of x, t
    have hpq : ∃ m n : Int, 0 < m ∧ 0 < n ∧ m * (p.x - x.x) + n * (q.x - x.x) = 0 ∧ m * (p.y - x.y) + n * (q.y - x.y) = 0 := by
      unfold Btw at bt
      have n1' : ¬ (x.x = p.x ∧ x.y = p.y) := fun e => n1 (Pt.ext' e.1 e.2)
      have n2' : ¬ (x.x = q.x ∧ x.y = q.y) := fun e => n2 (Pt.ext' e.1 e.2)
      unfold turnP turnV at z
      by_cases hx : x.x = p.x
      · have z1 : (q.x - p.x) * (x.y - p.y) = 0 := by rw [hx] at z; grind
        have z2 : q.x = p.x := by have := (Int.mul_eq_zero.1 z1).resolve_right (by omega); omega
        have e1 : p.x - x.x = 0 := by omega
        have e2 : q.x - x.x = 0 := by omega
        rw [e1, e2]
        rcases Int.lt_or_le p.y x.y with c | c
        · exact ⟨q.y - x.y, x.y - p.y, by omega, by omega, by omega, by grind⟩
        · exact ⟨x.y - q.y, p.y - x.y, by omega, by omega, by omega, by grind⟩
      · by_cases hx2 : x.x = q.x
        · have z1 : (q.x - p.x) * (x.y - q.y) = 0 := by rw [hx2] at z; grind
          have := (Int.mul_eq_zero.1 z1).resolve_left (by omega)
          omega
        · rcases Int.lt_or_le p.x x.x with c | c
          · exact ⟨q.x - x.x, x.x - p.x, by omega, by omega, by grind, by grind⟩
          · exact ⟨x.x - q.x, p.x - x.x, by omega, by omega, by grind, by grind⟩
    obtain ⟨m, n, hm, hn, ex, ey⟩ := hpq
    have lin : m * turnP x t p + n * turnP x t q = 0 := by
      have : m * turnP x t p + n * turnP x t q = (t.x - x.x) * (m * (p.y - x.y) + n * (q.y - x.y)) - (t.y - x.y) * (m * (p.x - x.x) + n * (q.x - x.x)) := by unfold turnP turnV; grind
      rw [this, ex, ey]; simp
    have u1 := Int.mul_nonneg (Int.le_of_lt hm) bi.1
    have u2 := Int.mul_nonneg (Int.le_of_lt hn) bi'.1
    have z1 : turnP x t p = 0 := (Int.mul_eq_zero.1 (show m * turnP x t p = 0 by omega)).resolve_left (by omega)
    have z2 : turnP x t q = 0 := (Int.mul_eq_zero.1 (show n * turnP x t q = 0 by omega)).resolve_left (by omega)
    have b1 := bi.2 z1
    have b2 := bi'.2 z2
    have d1 : 0 ≤ (t.x - x.x) * (p.x - x.x) := by
      unfold Btw at b1
      rcases Int.le_total x.x t.x with c | c
      · exact Int.mul_nonneg (by omega) (by omega)
      · have := Int.mul_nonneg (show 0 ≤ -(t.x - x.x) by omega) (show 0 ≤ -(p.x - x.x) by omega); rwa [Int.neg_mul_neg] at this
    have d2 : 0 ≤ (t.x - x.x) * (q.x - x.x) := by
      unfold Btw at b2
      rcases Int.le_total x.x t.x with c | c
      · exact Int.mul_nonneg (by omega) (by omega)
      · have := Int.mul_nonneg (show 0 ≤ -(t.x - x.x) by omega) (show 0 ≤ -(q.x - x.x) by omega); rwa [Int.neg_mul_neg] at this
    have d3 : 0 ≤ (t.y - x.y) * (p.y - x.y) := by
      unfold Btw at b1
      rcases Int.le_total x.y t.y with c | c
      · exact Int.mul_nonneg (by omega) (by omega)
      · have := Int.mul_nonneg (show 0 ≤ -(t.y - x.y) by omega) (show 0 ≤ -(p.y - x.y) by omega); rwa [Int.neg_mul_neg] at this
    have d4 : 0 ≤ (t.y - x.y) * (q.y - x.y) := by
      unfold Btw at b2
      rcases Int.le_total x.y t.y with c | c
      · exact Int.mul_nonneg (by omega) (by omega)
      · have := Int.mul_nonneg (show 0 ≤ -(t.y - x.y) by omega) (show 0 ≤ -(q.y - x.y) by omega); rwa [Int.neg_mul_neg] at this
    have s1 : m * ((t.x - x.x) * (p.x - x.x)) + n * ((t.x - x.x) * (q.x - x.x)) = 0 := by
      have : m * ((t.x - x.x) * (p.x - x.x)) + n * ((t.x - x.x) * (q.x - x.x)) = (t.x - x.x) * (m * (p.x - x.x) + n * (q.x - x.x)) := by grind
      rw [this, ex, Int.mul_zero]
    have s2 : m * ((t.y - x.y) * (p.y - x.y)) + n * ((t.y - x.y) * (q.y - x.y)) = 0 := by
      have : m * ((t.y - x.y) * (p.y - x.y)) + n * ((t.y - x.y) * (q.y - x.y)) = (t.y - x.y) * (m * (p.y - x.y) + n * (q.y - x.y)) := by grind
      rw [this, ey, Int.mul_zero]
    have v1 := Int.mul_nonneg (Int.le_of_lt hm) d1
    have v2 := Int.mul_nonneg (Int.le_of_lt hn) d2
    have v3 := Int.mul_nonneg (Int.le_of_lt hm) d3
    have v4 := Int.mul_nonneg (Int.le_of_lt hn) d4
    have w1 : (t.x - x.x) * (p.x - x.x) = 0 := (Int.mul_eq_zero.1 (show m * ((t.x - x.x) * (p.x - x.x)) = 0 by omega)).resolve_left (by omega)
    have w3 : (t.y - x.y) * (p.y - x.y) = 0 := (Int.mul_eq_zero.1 (show m * ((t.y - x.y) * (p.y - x.y)) = 0 by omega)).resolve_left (by omega)
    -- so p = x
    have hne : ¬ (t.x = x.x ∧ t.y = x.y) := fun e => ne (Pt.ext' e.1.symm e.2.symm)
    have hpx : ¬ (p.x = x.x ∧ p.y = x.y) := fun e => n1 (Pt.ext' e.1.symm e.2.symm)
    unfold turnP turnV at z1
    rcases Int.mul_eq_zero.1 w1 with c | c
    · have c3 := (Int.mul_eq_zero.1 w3).resolve_left (by omega)
      rw [c, c3] at z1
      have z1' : (t.y - x.y) * (p.x - x.x) = 0 := by grind
      have := (Int.mul_eq_zero.1 z1').resolve_left (by omega)
      omega
    · have c3 : t.y - x.y = 0 := (Int.mul_eq_zero.1 w3).resolve_right (by omega)
      rw [c, c3] at z1
      have z1' : (t.x - x.x) * (p.y - x.y) = 0 := by grind
      have := (Int.mul_eq_zero.1 z1').resolve_left (by omega)
      omega
end Go.Proofs.Ytjjkmonfihomnaa
