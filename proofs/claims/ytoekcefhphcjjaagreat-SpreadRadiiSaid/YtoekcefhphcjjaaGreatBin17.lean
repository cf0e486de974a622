/- package rocks: First, Hit. | Plain: what Has, Common, First and Hit say of one another. | Plain geometry: polygons that have a point in common touch; those that touch have one. No program here. | landfallref03's between and Inside. | Plain geometry: the disk with eight corners; the points of a hull. No program here. -/
import Derived.WalkMore
import Derived.Test.YtoekcefhphcjjaaGreatBin15
import Derived.Test.YtoekcefhphcjjaaGreatBin16
import Derived.Test.YtoekcefhphcjjaaGreatBin07
import Derived.Test.YtoekcefhphcjjaaGreatBin03
import Derived.Test.YtoekcefhphcjjaaGreatBin00
namespace Go.Proofs.YtoekcefhphcjjaaGreat
open Go.RowKit
attribute [local irreducible] wpQuiet

/-- the first of the first k rocks that touches a corridor -/
noncomputable def hitTo (c : List Pt) (ls : List (List Pt)) : Nat → Option Nat
  | 0 => none
  | k + 1 => if (hitTo c ls k).isSome = true then hitTo c ls k else if touchB c (rk ls k) = true then some k else none



end Go.Proofs.YtoekcefhphcjjaaGreat

namespace Go.Proofs.YtoekcefhphcjjaaGreat

theorem goValid_true {l : List Pt} (h : goValid l = true) : GoValid l := by simpa [goValid] using h


end Go.Proofs.YtoekcefhphcjjaaGreat

namespace Go.Proofs.YtoekcefhphcjjaaGreat



/-- a linear number on a segment -/
theorem SegH.turn {a b : Pt} {X Y W K s t : Int} (e1 : K * X = s * a.x + t * b.x) (e2 : K * Y = s * a.y + t * b.y) (e3 : K * W = s + t) (u v : Pt) : K * hturn u v X Y W = s * turnP u v a + t * turnP u v b := by
  rw [← hturn_scale, e1, e2, e3]
  unfold hturn turnP turnV; grind



/-- two sides cross -/
def CrossS (S T : Pt × Pt) : Prop := (crossB (turnP S.1 S.2 T.1) (turnP S.1 S.2 T.2) && crossB (turnP T.1 T.2 S.1) (turnP T.1 T.2 S.2)) = true
theorem CrossS.symm {S T : Pt × Pt} (h : CrossS S T) : CrossS T S := by unfold CrossS at *; rwa [Bool.and_comm]


/-- two polygons have a corner in the other one, or sides that cross -/
def Touch (l m : List Pt) : Prop := (∃ k, k < l.length ∧ inside m (nth l k) = true) ∨ (∃ k, k < m.length ∧ inside l (nth m k) = true) ∨ ∃ i j, i < l.length ∧ j < m.length ∧ CrossS (sideP l i) (sideP m j)
theorem Touch.symm {l m : List Pt} (h : Touch l m) : Touch m l := by
  rcases h with h | h | ⟨i, j, hi, hj, h⟩
  · exact .inr (.inl h)
  · exact .inl h
  · exact .inr (.inr ⟨j, i, hj, hi, h.symm⟩)
end Go.Proofs.YtoekcefhphcjjaaGreat

namespace Go.Proofs.YtoekcefhphcjjaaGreat
open Go.RowKit
attribute [local irreducible] wpQuiet

def minI (a b : Int) : Int := if b < a then b else a
def maxI (a b : Int) : Int := if a < b then b else a
def btwB (ax ay bx by' px py : Int) : Bool := decide (minI ax bx ≤ px) && decide (px ≤ maxI ax bx) && decide (minI ay by' ≤ py) && decide (py ≤ maxI ay by')
set_option linter.unusedSimpArgs false in
theorem rbtw_any (ax ay bx by' px py : Int) (w : World) :
    Calls Tryz.prog 136 #[.agg #[.int .i64 ax, .int .i64 ay], .agg #[.int .i64 bx, .int .i64 by'], .agg #[.int .i64 px, .int .i64 py]] w fun e w' => e = .returned (.bool (btwB ax ay bx by' px py)) ∧ Below w.heap.size w w' := by
  unfold btwB minI maxI
  cases d1 : decide ((if bx < ax then bx else ax) ≤ px)
  · go_enter Tryz.func136, Tryz.ntmps136
    go_wp2
    all_goals (go_ret; exact ⟨rfl, by repeat (first | exact Below.refl _ _ | assumption | apply Below.drew | refine Below.setCell ?_ (by first | omega | (simp; done) | (simp; omega)) _ | refine Below.alloc ?_ (by first | omega | (simp; done) | (simp; omega)) _ | refine Below.call (by assumption) ?_ (by first | omega | (simp; done) | (simp; omega)))⟩)
  cases d2 : decide (px ≤ (if ax < bx then bx else ax))
  · go_enter Tryz.func136, Tryz.ntmps136
    go_wp2
    all_goals (go_ret; exact ⟨rfl, by repeat (first | exact Below.refl _ _ | assumption | apply Below.drew | refine Below.setCell ?_ (by first | omega | (simp; done) | (simp; omega)) _ | refine Below.alloc ?_ (by first | omega | (simp; done) | (simp; omega)) _ | refine Below.call (by assumption) ?_ (by first | omega | (simp; done) | (simp; omega)))⟩)
  cases d3 : decide ((if by' < ay then by' else ay) ≤ py)
  · go_enter Tryz.func136, Tryz.ntmps136
    go_wp2
    all_goals (go_ret; exact ⟨rfl, by repeat (first | exact Below.refl _ _ | assumption | apply Below.drew | refine Below.setCell ?_ (by first | omega | (simp; done) | (simp; omega)) _ | refine Below.alloc ?_ (by first | omega | (simp; done) | (simp; omega)) _ | refine Below.call (by assumption) ?_ (by first | omega | (simp; done) | (simp; omega)))⟩)
  cases d4 : decide (py ≤ (if ay < by' then by' else ay))
  · go_enter Tryz.func136, Tryz.ntmps136
    go_wp2
    all_goals (go_ret; exact ⟨rfl, by repeat (first | exact Below.refl _ _ | assumption | apply Below.drew | refine Below.setCell ?_ (by first | omega | (simp; done) | (simp; omega)) _ | refine Below.alloc ?_ (by first | omega | (simp; done) | (simp; omega)) _ | refine Below.call (by assumption) ?_ (by first | omega | (simp; done) | (simp; omega)))⟩)
  · go_enter Tryz.func136, Tryz.ntmps136
    go_wp2
    all_goals (go_ret; exact ⟨rfl, by repeat (first | exact Below.refl _ _ | assumption | apply Below.drew | refine Below.setCell ?_ (by first | omega | (simp; done) | (simp; omega)) _ | refine Below.alloc ?_ (by first | omega | (simp; done) | (simp; omega)) _ | refine Below.call (by assumption) ?_ (by first | omega | (simp; done) | (simp; omega)))⟩)


end Go.Proofs.YtoekcefhphcjjaaGreat

namespace Go.Proofs.YtoekcefhphcjjaaGreat

/-- the least number whose square is at least twice that of another one -/
def wideN (n : Nat) : Nat := if isqrt (2 * n * n) * isqrt (2 * n * n) = 2 * n * n then isqrt (2 * n * n) else isqrt (2 * n * n) + 1
theorem wideN_spec (n : Nat) : 2 * n * n ≤ wideN n * wideN n ∧ ∀ m, m < wideN n → m * m < 2 * n * n := by
  have h := isqrt_spec (2 * n * n)
  unfold wideN
  generalize isqrt (2 * n * n) = r at *
  generalize 2 * n * n = q at *
  split
  · refine ⟨by omega, fun m hm => ?_⟩
    have := Nat.mul_lt_mul'' hm hm
    omega
  · refine ⟨by omega, fun m hm => ?_⟩
    have := Nat.mul_le_mul (show m ≤ r by omega) (show m ≤ r by omega)
    omega
theorem wideN_le {n m : Nat} (h : 2 * n * n ≤ m * m) : wideN n ≤ m := by
  rcases Nat.lt_or_ge m (wideN n) with h' | h'
  · have := (wideN_spec n).2 m h'; omega
  · exact h'
theorem wideN_ge (n : Nat) : n ≤ wideN n := by
  rcases Nat.lt_or_ge (wideN n) n with h' | h'
  · have := (wideN_spec n).1
    have b := Nat.mul_lt_mul'' h' h'
    rw [Nat.mul_assoc] at this
    omega
  · exact h'
theorem wideN_two (n : Nat) : wideN n ≤ 2 * n := wideN_le (by
  have : 2 * n * (2 * n) = 2 * (2 * n * n) := by grind
  omega)
def octK (n : Nat) : Int := (wideN n : Int) - n
theorem octK_bd (n : Nat) : 0 ≤ octK n ∧ octK n ≤ n := by
  have := wideN_ge n
  have := wideN_two n
  unfold octK; omega

theorem hull_mem {l h : List Pt} (k : HullOf l h) {i : Nat} (hi : i < h.length) : nth h i ∈ l := by
  by_cases h0 : i = 0
  · subst h0
    by_cases hl : l = []
    · rw [k.none hl] at hi; simp at hi
    · exact (k.first hl).1
  · have := k.next (i - 1) (by omega)
    rw [show i - 1 + 1 = i by omega, Nat.mod_eq_of_lt hi] at this
    exact this.1
theorem cmp_lex {a b : Pt} : cmpP a b < 0 ↔ LexLt a b := by
  unfold cmpP LexLt cmpV orI cmpI
  repeat' split
  all_goals omega
/-- a hull of places that is not too large is a polygon -/
theorem hull_valid {l h : List Pt} (k : HullOf l h) (hl : l ≠ []) (h64 : h.length ≤ 64) (hp : ∀ x, x ∈ l → placeP x = true) : GoValid h := by
  have lex : ∀ i, 0 < i → i < h.length → LexLt (nth h 0) (nth h i) := fun i h0 hi => by
    have := (k.first hl).2 _ (hull_mem k hi)
    rcases LexLt.tri (nth h 0) (nth h i) with c | c | c
    · exact c
    · exact absurd c.symm (k.back i h0 hi)
    · exact absurd c this
  refine ⟨k.some hl, h64, fun i hi => ⟨hp _ (hull_mem k hi), fun h0 => cmp_lex.2 (lex i h0 hi)⟩, fun h3 i hi j hj n1 n2 => ?_⟩
  have a := (k.next i hi).2.2 _ (hull_mem k hj)
  unfold sideP at n1 n2 ⊢
  simp only at n1 n2 ⊢
  rcases Int.lt_or_le 0 (turnP (nth h i) (nth h ((i + 1) % h.length)) (nth h j)) with c | c
  · exact c
  · exfalso
    have z : turnP (nth h i) (nth h ((i + 1) % h.length)) (nth h j) = 0 := by omega
    have bt := a.2 z
    have mi := hull_mem k hi
    have mi' := hull_mem k (Nat.mod_lt (i + 1) (by omega) : (i + 1) % h.length < h.length)
    have nj := k.next j hj
    have bi := nj.2.2 _ mi
    have bi' := nj.2.2 _ mi'
    have ne : nth h j ≠ nth h ((j + 1) % h.length) := fun e => by
      have all := nj.2.1 e.symm
      exact n1 (all _ mi).symm
    generalize nth h i = p at *
    generalize nth h ((i + 1) % h.length) = q at *
    generalize nth h j = x at *
    generalize nth h ((j + 1) % h.length) = t at *
    clear nj mi mi' a c k lex
    -- x lies between p and q, and all lies on the left of x, t
    have hpq : ∃ m n : Int, 0 < m ∧ 0 < n ∧ m * (p.x - x.x) + n * (q.x - x.x) = 0 ∧ m * (p.y - x.y) + n * (q.y - x.y) = 0 := by
      unfold Btw at bt
      have n1' : ¬ (x.x = p.x ∧ x.y = p.y) := fun e => n1 (Pt.ext' e.1 e.2)
      have n2' : ¬ (x.x = q.x ∧ x.y = q.y) := fun e => n2 (Pt.ext' e.1 e.2)
      unfold turnP turnV at z
      by_cases hx : x.x = p.x
      · have z1 : (q.x - p.x) * (x.y - p.y) = 0 := by rw [hx] at z; grind
        have z2 : q.x = p.x := by have := (Int.mul_eq_zero.1 z1).resolve_right (by omega); omega
        have e1 : p.x - x.x = 0 := by omega
        have e2 : q.x - x.x = 0 := by omega
        rw [e1, e2]
        rcases Int.lt_or_le p.y x.y with c | c
        · exact ⟨q.y - x.y, x.y - p.y, by omega, by omega, by omega, by grind⟩
        · exact ⟨x.y - q.y, p.y - x.y, by omega, by omega, by omega, by grind⟩
      · by_cases hx2 : x.x = q.x
        · have z1 : (q.x - p.x) * (x.y - q.y) = 0 := by rw [hx2] at z; grind
          have := (Int.mul_eq_zero.1 z1).resolve_left (by omega)
          omega
        · rcases Int.lt_or_le p.x x.x with c | c
          · exact ⟨q.x - x.x, x.x - p.x, by omega, by omega, by grind, by grind⟩
          · exact ⟨x.x - q.x, p.x - x.x, by omega, by omega, by grind, by grind⟩
    obtain ⟨m, n, hm, hn, ex, ey⟩ := hpq
    have lin : m * turnP x t p + n * turnP x t q = 0 := by
      have : m * turnP x t p + n * turnP x t q = (t.x - x.x) * (m * (p.y - x.y) + n * (q.y - x.y)) - (t.y - x.y) * (m * (p.x - x.x) + n * (q.x - x.x)) := by unfold turnP turnV; grind
      rw [this, ex, ey]; simp
    have u1 := Int.mul_nonneg (Int.le_of_lt hm) bi.1
    have u2 := Int.mul_nonneg (Int.le_of_lt hn) bi'.1
    have z1 : turnP x t p = 0 := (Int.mul_eq_zero.1 (show m * turnP x t p = 0 by omega)).resolve_left (by omega)
    have z2 : turnP x t q = 0 := (Int.mul_eq_zero.1 (show n * turnP x t q = 0 by omega)).resolve_left (by omega)
    have b1 := bi.2 z1
    have b2 := bi'.2 z2
    have d1 : 0 ≤ (t.x - x.x) * (p.x - x.x) := by
      unfold Btw at b1
      rcases Int.le_total x.x t.x with c | c
      · exact Int.mul_nonneg (by omega) (by omega)
      · have := Int.mul_nonneg (show 0 ≤ -(t.x - x.x) by omega) (show 0 ≤ -(p.x - x.x) by omega); rwa [Int.neg_mul_neg] at this
    have d2 : 0 ≤ (t.x - x.x) * (q.x - x.x) := by
      unfold Btw at b2
      rcases Int.le_total x.x t.x with c | c
      · exact Int.mul_nonneg (by omega) (by omega)
      · have := Int.mul_nonneg (show 0 ≤ -(t.x - x.x) by omega) (show 0 ≤ -(q.x - x.x) by omega); rwa [Int.neg_mul_neg] at this
    have d3 : 0 ≤ (t.y - x.y) * (p.y - x.y) := by
      unfold Btw at b1
      rcases Int.le_total x.y t.y with c | c
      · exact Int.mul_nonneg (by omega) (by omega)
      · have := Int.mul_nonneg (show 0 ≤ -(t.y - x.y) by omega) (show 0 ≤ -(p.y - x.y) by omega); rwa [Int.neg_mul_neg] at this
    have d4 : 0 ≤ (t.y - x.y) * (q.y - x.y) := by
      unfold Btw at b2
      rcases Int.le_total x.y t.y with c | c
      · exact Int.mul_nonneg (by omega) (by omega)
      · have := Int.mul_nonneg (show 0 ≤ -(t.y - x.y) by omega) (show 0 ≤ -(q.y - x.y) by omega); rwa [Int.neg_mul_neg] at this
    have s1 : m * ((t.x - x.x) * (p.x - x.x)) + n * ((t.x - x.x) * (q.x - x.x)) = 0 := by
      have : m * ((t.x - x.x) * (p.x - x.x)) + n * ((t.x - x.x) * (q.x - x.x)) = (t.x - x.x) * (m * (p.x - x.x) + n * (q.x - x.x)) := by grind
      rw [this, ex, Int.mul_zero]
    have s2 : m * ((t.y - x.y) * (p.y - x.y)) + n * ((t.y - x.y) * (q.y - x.y)) = 0 := by
      have : m * ((t.y - x.y) * (p.y - x.y)) + n * ((t.y - x.y) * (q.y - x.y)) = (t.y - x.y) * (m * (p.y - x.y) + n * (q.y - x.y)) := by grind
      rw [this, ey, Int.mul_zero]
    have v1 := Int.mul_nonneg (Int.le_of_lt hm) d1
    have v2 := Int.mul_nonneg (Int.le_of_lt hn) d2
    have v3 := Int.mul_nonneg (Int.le_of_lt hm) d3
    have v4 := Int.mul_nonneg (Int.le_of_lt hn) d4
    have w1 : (t.x - x.x) * (p.x - x.x) = 0 := (Int.mul_eq_zero.1 (show m * ((t.x - x.x) * (p.x - x.x)) = 0 by omega)).resolve_left (by omega)
    have w3 : (t.y - x.y) * (p.y - x.y) = 0 := (Int.mul_eq_zero.1 (show m * ((t.y - x.y) * (p.y - x.y)) = 0 by omega)).resolve_left (by omega)
    -- so p = x
    have hne : ¬ (t.x = x.x ∧ t.y = x.y) := fun e => ne (Pt.ext' e.1.symm e.2.symm)
    have hpx : ¬ (p.x = x.x ∧ p.y = x.y) := fun e => n1 (Pt.ext' e.1.symm e.2.symm)
    unfold turnP turnV at z1
    rcases Int.mul_eq_zero.1 w1 with c | c
    · have c3 := (Int.mul_eq_zero.1 w3).resolve_left (by omega)
      rw [c, c3] at z1
      have z1' : (t.y - x.y) * (p.x - x.x) = 0 := by grind
      have := (Int.mul_eq_zero.1 z1').resolve_left (by omega)
      omega
    · have c3 : t.y - x.y = 0 := (Int.mul_eq_zero.1 w3).resolve_right (by omega)
      rw [c, c3] at z1
      have z1' : (t.x - x.x) * (p.y - x.y) = 0 := by grind
      have := (Int.mul_eq_zero.1 z1').resolve_left (by omega)
      omega
end Go.Proofs.YtoekcefhphcjjaaGreat
