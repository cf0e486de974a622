/- Plain mathematics of layer 1: quotients, roots. No program here. -/
namespace Go.Proofs.Ytjjkmonfihomnaa

/-- the integer root, by counting up -/
def isqrt : Nat → Nat
  | 0 => 0
  | n + 1 => if (isqrt n + 1) * (isqrt n + 1) ≤ n + 1 then isqrt n + 1 else isqrt n

theorem isqrt_spec (n : Nat) : isqrt n * isqrt n ≤ n ∧ n < (isqrt n + 1) * (isqrt n + 1) := by
  induction n with
  | zero => simp [isqrt]
  | succ n ih =>
    obtain ⟨h1, h2⟩ := ih
    unfold isqrt
    by_cases h : (isqrt n + 1) * (isqrt n + 1) ≤ n + 1
    · rw [if_pos h]
      refine ⟨h, ?_⟩
      have e : (isqrt n + 1 + 1) * (isqrt n + 1 + 1) = (isqrt n + 1) * (isqrt n + 1) + 2 * (isqrt n + 1) + 1 := by
        rw [Nat.add_mul, Nat.mul_add]; omega
      omega
    · rw [if_neg h]
      exact ⟨by omega, by omega⟩

theorem sq_lt {a b : Nat} (h : a * a < b * b) : a < b := by
  rcases Nat.lt_or_ge a b with h' | h'
  · exact h'
  · have := Nat.mul_le_mul h' h'; omega

theorem isqrt_unique {n r : Nat} (h1 : r * r ≤ n) (h2 : n < (r + 1) * (r + 1)) : isqrt n = r := by
  have ⟨a, b⟩ := isqrt_spec n
  have x := sq_lt (a := isqrt n) (b := r + 1) (by omega)
  have y := sq_lt (a := r) (b := isqrt n + 1) (by omega)
  omega

/-- within MaxSpan -/
def wideB (n : Int) : Bool := decide (-1000000000000 ≤ n ∧ n ≤ 1000000000000)
theorem wideB_true {n : Int} (h : wideB n = true) : -1000000000000 ≤ n ∧ n ≤ 1000000000000 := by simpa [wideB] using h
theorem wideB_false {n : Int} (h : wideB n = false) : n < -1000000000000 ∨ 1000000000000 < n := by
  have : ¬ (-1000000000000 ≤ n ∧ n ≤ 1000000000000) := by simpa [wideB] using h
  omega
theorem wideB_mk {n : Int} (h1 : -1000000000000 ≤ n) (h2 : n ≤ 1000000000000) : wideB n = true := by simp [wideB]; omega

/-- the quotient, rounded up -/
def upV (q r : Int) : Int := if r = 0 then q else q + 1
def cdiv (a b : Int) : Int := upV (a.fdiv b) (a.fmod b)
theorem upV_bd (q r : Int) : q ≤ upV q r ∧ upV q r ≤ q + 1 := by unfold upV; split <;> omega

theorem fdiv_cases (a b : Int) (hb : b ≠ 0) :
    (a.tmod b = 0 ∨ (a.tmod b < 0 ∧ b < 0) ∨ (0 < a.tmod b ∧ 0 < b)) ∧ a.tdiv b = a.fdiv b ∧ a.tmod b = a.fmod b ∨
    ((a.tmod b < 0 ∧ 0 < b) ∨ (0 < a.tmod b ∧ b < 0)) ∧ a.tdiv b - 1 = a.fdiv b ∧ a.tmod b + b = a.fmod b := by
  have e1 := Int.tdiv_eq_ediv (a := a) (b := b)
  have e2 := Int.fdiv_eq_ediv (a := a) (b := b)
  have e3 := Int.tmod_eq_emod (a := a) (b := b)
  have e4 := Int.fmod_eq_emod (a := a) (b := b)
  have p1 := Int.emod_nonneg a hb
  have p2 := Int.emod_lt a hb
  rw [e1, e2, e3, e4]
  simp only [Int.dvd_iff_emod_eq_zero]
  generalize a % b = r at *
  generalize a / b = q at *
  rcases Int.lt_or_gt_of_ne hb with h | h
  · have hs : Int.sign b = -1 := Int.sign_eq_neg_one_of_neg h
    rw [hs]
    repeat' split
    all_goals omega
  · have hs : Int.sign b = 1 := Int.sign_eq_one_of_pos h
    rw [hs]
    repeat' split
    all_goals omega

theorem tdiv_bd (a b : Int) (h1 : -1000000000000000000 ≤ a) (h2 : a ≤ 1000000000000000000) : -1000000000000000000 ≤ a.tdiv b ∧ a.tdiv b ≤ 1000000000000000000 := by
  have h := Int.natAbs_tdiv a b
  have h' : a.natAbs.div b.natAbs ≤ a.natAbs := Nat.div_le_self a.natAbs b.natAbs
  rw [← h] at h'
  omega

theorem tmod_bd (a b : Int) (h3 : -1000000000000 ≤ b) (h4 : b ≤ 1000000000000) (hb : b ≠ 0) : -1000000000000 < a.tmod b ∧ a.tmod b < 1000000000000 := by
  have h := Int.natAbs_tmod a b
  have h' := Nat.mod_lt a.natAbs (y := b.natAbs) (by omega)
  rw [← h] at h'
  omega

theorem fdiv_bd (a b : Int) (h1 : -1000000000000000000 ≤ a) (h2 : a ≤ 1000000000000000000) (hb : b ≠ 0) : -1000000000000000001 ≤ a.fdiv b ∧ a.fdiv b ≤ 1000000000000000000 := by
  rcases fdiv_cases a b hb with h | h
  · have := tdiv_bd a b h1 h2; omega
  · have := tdiv_bd a b h1 h2; omega
theorem fmod_zero_iff {a b : Int} (hb : b ≠ 0) : a.fmod b = 0 ↔ a % b = 0 := by
  have e4 := Int.fmod_eq_emod (a := a) (b := b)
  have p1 := Int.emod_nonneg a hb
  have p2 := Int.emod_lt a hb
  rw [e4]
  simp only [Int.dvd_iff_emod_eq_zero]
  split <;> omega
theorem cdiv_neg (a b : Int) (hb : b ≠ 0) : -((-a).fdiv b) = cdiv a b := by
  have e := Int.neg_fdiv (a := a) (b := b)
  have h := fmod_zero_iff (a := a) hb
  unfold cdiv upV
  rw [e]
  simp only [Int.dvd_iff_emod_eq_zero]
  by_cases h' : a % b = 0
  · rw [if_pos (Or.inr h'), if_pos (h.2 h')]; omega
  · rw [if_neg (by omega), if_neg (by omega)]; omega
end Go.Proofs.Ytjjkmonfihomnaa
