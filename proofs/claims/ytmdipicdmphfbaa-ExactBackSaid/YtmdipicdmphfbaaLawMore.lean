/- What Scale and Root give, in plain numbers: for the laws on signs, order, scaling back, roots and sums. -/
import Derived.Test.YtmdipicdmphfbaaRefC
namespace Go.Proofs.Ytmdipicdmphfbaa

theorem scaleE_zero {n a b : Int} (h : scaleE n a b = 0) : badS n a b = false ∧ badR n a b = false := by
  unfold scaleE at h
  cases h1 : badS n a b <;> cases h2 : badR n a b <;> simp [h1, h2] at h ⊢
theorem scaleE_cases (n a b : Int) : scaleE n a b = 0 ∨ scaleE n a b = 1 ∧ badS n a b = true ∨ scaleE n a b = 3 := by
  unfold scaleE
  cases h1 : badS n a b <;> cases h2 : badR n a b <;> simp
theorem ne_forms {x : Int} (h : x ≠ 0) : (x == 0) = false ∧ (x != 0) = true := by simp [h]

theorem quot_bounds (k b : Int) (hb : 0 < b) : k.fdiv b * b ≤ k ∧ k < k.fdiv b * b + b ∧ k ≤ cdiv k b * b ∧ cdiv k b * b < k + b := by
  have e := Int.mul_fdiv_add_fmod k b
  have p1 := Int.fmod_nonneg_of_pos k hb
  have p2 := Int.fmod_lt_of_pos k hb
  have c1 : b * k.fdiv b = k.fdiv b * b := Int.mul_comm _ _
  have c2 : (k.fdiv b + 1) * b = k.fdiv b * b + b := by rw [Int.add_mul]; omega
  unfold cdiv upV
  by_cases h : k.fmod b = 0
  · rw [if_pos h]; omega
  · rw [if_neg h]; omega

/-- all that is asked of Scale's results -/
structure ScaleOk (n a b l h : Int) : Prop where
  n1 : -1000000000000 ≤ n
  n2 : n ≤ 1000000000000
  a1 : 0 ≤ a
  a2 : a ≤ 1000000
  b1 : 1 ≤ b
  b2 : b ≤ 1000000
  l1 : -1000000000000 ≤ l
  l2 : l ≤ 1000000000000
  h1 : -1000000000000 ≤ h
  h2 : h ≤ 1000000000000
  e1 : l * b ≤ n * a
  e2 : n * a < l * b + b
  e3 : n * a ≤ h * b
  e4 : h * b < n * a + b

theorem scale_ok {n a b : Int} (h : scaleE n a b = 0) : ScaleOk n a b (scaleL n a b) (scaleH n a b) := by
  obtain ⟨hs, hr⟩ := scaleE_zero h
  have el : scaleL n a b = (n * a).fdiv b := by simp [scaleL, hs, hr]
  have eh : scaleH n a b = cdiv (n * a) b := by simp [scaleH, hs, hr]
  rw [el, eh]
  obtain ⟨h0, h1, h2, h3, h4⟩ := badS_false hs
  have hq := quot_bounds (n * a) b (by omega)
  have w0 := wideB_true h0
  have w1 : wideB ((n * a).fdiv b) = true := by cases x : wideB ((n * a).fdiv b) <;> simp [badR, x] at hr ⊢
  have w2 : wideB (cdiv (n * a) b) = true := by cases x : wideB (cdiv (n * a) b) <;> simp [badR, x] at hr ⊢
  have w1' := wideB_true w1
  have w2' := wideB_true w2
  exact ⟨w0.1, w0.2, h1, h2, h3, h4, w1'.1, w1'.2, w2'.1, w2'.2, hq.1, hq.2.1, hq.2.2.1, hq.2.2.2⟩

theorem le_of_mul_lt {x y b : Int} (hb : 0 < b) (h : x * b < y * b + b) : x ≤ y := by
  rcases Int.lt_or_le y x with h' | h'
  · have := Int.mul_le_mul_of_nonneg_right (show y + 1 ≤ x by omega) (show (0 : Int) ≤ b by omega)
    rw [Int.add_mul] at this; omega
  · exact h'

theorem scale_mono {n m a c b l h l' h' : Int} (hs : ScaleOk n a b l h) (ht : ScaleOk m c b l' h') (hm : n * a ≤ m * c) : l ≤ l' ∧ h ≤ h' ∧ l ≤ h := by
  have hb : 0 < b := by have := hs.b1; omega
  have x1 := hs.e1; have x2 := hs.e2; have x3 := hs.e3; have x4 := hs.e4
  have y1 := ht.e1; have y2 := ht.e2; have y3 := ht.e3; have y4 := ht.e4
  exact ⟨le_of_mul_lt hb (by omega), le_of_mul_lt hb (by omega), le_of_mul_lt hb (by omega)⟩

theorem scale_sum {n m a b l h l' h' s t : Int} (hs : ScaleOk n a b l h) (ht : ScaleOk m a b l' h') (hu : ScaleOk (n + m) a b s t) :
    l + l' ≤ s ∧ s ≤ l + l' + 1 ∧ t ≤ h + h' ∧ h + h' - 1 ≤ t := by
  have hb : 0 < b := by have := hs.b1; omega
  have x1 := hs.e1; have x2 := hs.e2; have x3 := hs.e3; have x4 := hs.e4
  have y1 := ht.e1; have y2 := ht.e2; have y3 := ht.e3; have y4 := ht.e4
  have z1 := hu.e1; have z2 := hu.e2; have z3 := hu.e3; have z4 := hu.e4
  have e : (n + m) * a = n * a + m * a := Int.add_mul _ _ _
  have f1 : (l + l') * b = l * b + l' * b := Int.add_mul _ _ _
  have f2 : (l + l' + 1) * b = l * b + l' * b + b := by rw [Int.add_mul, Int.add_mul]; omega
  have f3 : (h + h') * b = h * b + h' * b := Int.add_mul _ _ _
  have f4 : (h + h' - 1) * b = h * b + h' * b - b := by rw [Int.sub_mul, Int.add_mul]; omega
  exact ⟨le_of_mul_lt hb (by omega), le_of_mul_lt hb (by omega), le_of_mul_lt hb (by omega), le_of_mul_lt hb (by omega)⟩

theorem scale_back {n a b l h x x' y y' : Int} (ha : 1 ≤ a) (hs : ScaleOk n a b l h) (ht : ScaleOk l b a x x') (hu : ScaleOk h b a y' y) :
    x ≤ n ∧ n ≤ y ∧ n - x ≤ b / a + 1 ∧ y - n ≤ b / a + 1 := by
  have ha' : 0 < a := by omega
  have x1 := hs.e1; have x2 := hs.e2; have x3 := hs.e3; have x4 := hs.e4
  have y1 := ht.e1; have y2 := ht.e2
  have z3 := hu.e3; have z4 := hu.e4
  have q1 := Int.mul_ediv_add_emod b a
  have q2 := Int.emod_nonneg b (show a ≠ 0 by omega)
  have q3 := Int.emod_lt_of_pos b ha'
  have c1 : a * (b / a) = b / a * a := Int.mul_comm _ _
  have f1 : (n + b / a + 1) * a = n * a + b / a * a + a := by rw [Int.add_mul, Int.add_mul]; omega
  have f2 : (x + b / a + 1) * a = x * a + b / a * a + a := by rw [Int.add_mul, Int.add_mul]; omega
  refine ⟨le_of_mul_lt ha' (by omega), le_of_mul_lt ha' (by omega), ?_, ?_⟩
  · have := le_of_mul_lt (x := n) (y := x + b / a + 1) ha' (by omega); omega
  · have := le_of_mul_lt (x := y) (y := n + b / a + 1) ha' (by omega); omega
end Go.Proofs.Ytmdipicdmphfbaa
