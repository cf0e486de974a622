/- Whoever goes straight from a point of the first disk to a point of the second is in the corridor at each step. No condition. -/
import Derived.Test.YtoekcefhphcjjaaBin33
import Derived.Test.YtoekcefhphcjjaaBin34
import Derived.Test.YtoekcefhphcjjaaBin12
import Derived.Test.YtoekcefhphcjjaaBin18
namespace Go.Proofs.Ytoekcefhphcjjaa.spreadStraight
open Go.ChangeShapes Go.WideShapes Go.ChangeAt Go.RowKit
set_option linter.unusedVariables false
theorem own : ownKnob Try.prog.godebug = none := by kernel_rfl
theorem laidOut : laidOutB Try.prog = true := by kernel_rfl
attribute [local irreducible] wpQuiet

def smB (x y : Int) : Bool := decide (-100000 ≤ x ∧ x ≤ 100000 ∧ -100000 ≤ y ∧ y ≤ 100000)
theorem mix_le {K r s t a b c M x : Int} (hK : 0 < K) (hr : 0 ≤ r) (hs : 0 ≤ s) (ht : 0 ≤ t) (e1 : K * x = r * a + s * b + t * c) (e3 : K * 1 = r + s + t) (ha : a ≤ M) (hb : b ≤ M) (hc : c ≤ M) : x ≤ M := by
  have h1 := Int.mul_le_mul_of_nonneg_left ha hr
  have h2 := Int.mul_le_mul_of_nonneg_left hb hs
  have h3 := Int.mul_le_mul_of_nonneg_left hc ht
  have e : K * M = r * M + s * M + t * M := by
    rw [show K = r + s + t by omega, Int.add_mul, Int.add_mul]
  exact Int.le_of_mul_le_mul_left (by rw [e1, e]; omega) hK
theorem mix_ge {K r s t a b c M x : Int} (hK : 0 < K) (hr : 0 ≤ r) (hs : 0 ≤ s) (ht : 0 ≤ t) (e1 : K * x = r * a + s * b + t * c) (e3 : K * 1 = r + s + t) (ha : M ≤ a) (hb : M ≤ b) (hc : M ≤ c) : M ≤ x := by
  have := mix_le (a := -a) (b := -b) (c := -c) (M := -M) (x := -x) hK hr hs ht (by simp only [Int.mul_neg]; omega) e3 (by omega) (by omega) (by omega)
  omega
theorem inH_place {l : List Pt} (hl : GoValid l) {x y : Int} (h : InH l x y 1) : placeP ⟨x, y⟩ = true := by
  obtain ⟨i, j, k, hi, hj, hk, K, r, s, t, hK, hr, hs, ht, e1, e2, e3⟩ := inH_corners hl h
  have p1 := place_iff.1 (hl.2.2.1 i hi).1
  have p2 := place_iff.1 (hl.2.2.1 j hj).1
  have p3 := place_iff.1 (hl.2.2.1 k hk).1
  rw [place_iff]
  exact ⟨mix_ge hK hr hs ht e1 e3 p1.1 p2.1 p3.1, mix_le hK hr hs ht e1 e3 p1.2.1 p2.2.1 p3.2.1, mix_ge hK hr hs ht e2 e3 p1.2.2.1 p2.2.2.1 p3.2.2.1, mix_le hK hr hs ht e2 e3 p1.2.2.2 p2.2.2.2 p3.2.2.2⟩
theorem straight_has {a b : Pt} {u v : Int} (h : corE a u b v = 0) {p q : Pt} (hp : p.x * p.x + p.y * p.y ≤ u * u) (hq : q.x * q.x + q.y * q.y ≤ v * v) {s t x y : Int} (hs : 0 ≤ s) (ht : 0 ≤ t) (hst : 0 < s + t)
    (ex : (s + t) * x = s * (a.x + p.x) + t * (b.x + q.x)) (ey : (s + t) * y = s * (a.y + p.y) + t * (b.y + q.y)) : (hasB (corL a u b v) ⟨x, y⟩ = true ∧ hasE (corL a u b v) ⟨x, y⟩ = 0) ∧ placeP ⟨x, y⟩ = true := by
  have e1 : corL a u b v = corH a u.toNat b v.toNat := if_pos h
  rw [e1]
  have V := cor_valid h
  have g := goValid_of V
  have I := cor_straight h hp hq hs ht hst ex ey
  have px := inH_place V I
  have i := inside_of_inH V.1 (x := ⟨x, y⟩) I
  exact ⟨⟨by simp [hasB, g, px, i], by simp [hasE, g, px]⟩, px⟩
theorem mul_bd {a b : Int} (h1 : -600000 ≤ a) (h2 : a ≤ 600000) (h3 : 0 ≤ b) (h4 : b ≤ 21) : -12600000 ≤ a * b ∧ a * b ≤ 12600000 := by
  have g1 := Int.mul_le_mul_of_nonneg_right h1 h3
  have g2 := Int.mul_le_mul_of_nonneg_right h2 h3
  omega
theorem sq_bd {a : Int} (h1 : -100000 ≤ a) (h2 : a ≤ 100000) : 0 ≤ a * a ∧ a * a ≤ 10000000000 := by
  have g0 : 0 ≤ a * a := by
    rcases Int.le_total 0 a with h | h
    · exact Int.mul_nonneg h h
    · exact Int.mul_nonneg_of_nonpos_of_nonpos h h
  refine ⟨g0, ?_⟩
  rcases Int.le_total 0 a with h | h
  · have := Int.mul_le_mul_of_nonneg_right h2 h; omega
  · have := Int.mul_le_mul_of_nonpos_right h1 h; omega
theorem tm_bd (x : Int) (n : Nat) (h : 0 < n) : -(n : Int) < x.tmod n ∧ x.tmod n < n := by
  have h1 := Int.tmod_lt_of_pos x (b := (n : Int)) (by omega)
  have h2 := Int.tmod_lt_of_pos (-x) (b := (n : Int)) (by omega)
  rw [Int.neg_tmod] at h2
  omega
set_option linter.unusedSimpArgs false in
set_option linter.unusedVariables false in
set_option maxRecDepth 8000 in
set_option maxHeartbeats 1600000 in
theorem small_any (x y : Int) (w : World) :
    Calls Try.prog 10 #[.agg #[.int .i64 x, .int .i64 y]] w fun e w' => e = .returned (.bool (smB x y)) ∧ Below w.heap.size w w' := by
  have B0 := Lib.hid (show Below w.heap.size w (w.alloc (.cells #[.int .i64 x, .int .i64 y] 38)) from (Below.refl _ _).alloc (Nat.le_refl _) _)
  by_cases h1 : -100000 ≤ x
  case neg =>
    have e : smB x y = false := by simp [smB, h1]
    have d1 : decide (-100000 ≤ x) = false := by simpa using h1
    rw [e]; clear h1 e
    go_enter Try.func10, Try.ntmps10
    go_wp2
    go_ret
    exact ⟨rfl, B0.out⟩
  by_cases h2 : x ≤ 100000
  case neg =>
    have e : smB x y = false := by simp [smB, h2]
    have d1 : decide (-100000 ≤ x) = true := by simpa using h1
    have d2 : decide (x ≤ 100000) = false := by simpa using h2
    rw [e]; clear h1 h2 e
    go_enter Try.func10, Try.ntmps10
    go_wp2
    go_ret
    exact ⟨rfl, B0.out⟩
  by_cases h3 : -100000 ≤ y
  case neg =>
    have e : smB x y = false := by simp [smB, h3]
    have d1 : decide (-100000 ≤ x) = true := by simpa using h1
    have d2 : decide (x ≤ 100000) = true := by simpa using h2
    have d3 : decide (-100000 ≤ y) = false := by simpa using h3
    rw [e]; clear h1 h2 h3 e
    go_enter Try.func10, Try.ntmps10
    go_wp2
    go_ret
    exact ⟨rfl, B0.out⟩
  have e : smB x y = decide (y ≤ 100000) := by simp [smB, h1, h2, h3]
  have d1 : decide (-100000 ≤ x) = true := by simpa using h1
  have d2 : decide (x ≤ 100000) = true := by simpa using h2
  have d3 : decide (-100000 ≤ y) = true := by simpa using h3
  rw [e]; clear h1 h2 h3 e
  go_enter Try.func10, Try.ntmps10
  go_wp2
  go_ret
  exact ⟨rfl, B0.out⟩
set_option linter.unusedSimpArgs false in
set_option linter.unusedVariables false in
set_option maxRecDepth 8000 in
set_option maxHeartbeats 1600000 in
theorem far_any (x y r : Int) (hx : -100000 ≤ x ∧ x ≤ 100000) (hy : -100000 ≤ y ∧ y ≤ 100000) (hr : 0 ≤ r ∧ r ≤ 100000) (w : World) :
    Calls Try.prog 12 #[.agg #[.int .i64 x, .int .i64 y], .int .i64 r] w fun e w' => e = .returned (.bool (decide (r * r < x * x + y * y))) ∧ Below w.heap.size w w' := by
  have B0 := Lib.hid (show Below w.heap.size w (w.alloc (.cells #[.int .i64 x, .int .i64 y] 38)) from (Below.refl _ _).alloc (Nat.le_refl _) _)
  have q1 := sq_bd hx.1 hx.2
  have q2 := sq_bd hy.1 hy.2
  have q3 := sq_bd (a := r) (by omega) hr.2
  have z1 : IntKind.i64.wrap (x * x) = x * x := IntWalk.i64_in _ (by omega)
  have z2 : IntKind.i64.wrap (y * y) = y * y := IntWalk.i64_in _ (by omega)
  have z3 : IntKind.i64.wrap (r * r) = r * r := IntWalk.i64_in _ (by omega)
  have z4 : IntKind.i64.wrap (x * x + y * y) = x * x + y * y := IntWalk.i64_in _ (by omega)
  clear hx hy hr q1 q2 q3
  go_enter Try.func12, Try.ntmps12
  go_wp2
  go_ret
  exact ⟨rfl, B0.out⟩
set_option linter.unusedSimpArgs false in
set_option linter.unusedVariables false in
set_option maxRecDepth 8000 in
set_option maxHeartbeats 4000000 in
theorem walk (w : World) (ax ay bx by' vx vy zx zy u v mo ko : Int) (_ : (Lit.int .i64 u).wf = true) (_ : (Lit.int .i64 v).wf = true) (hmo : (Lit.int .u8 mo).wf = true) (hko : (Lit.int .u8 ko).wf = true) :
    Calls Try.prog 4 #[.agg #[.int .i64 ax, .int .i64 ay], .agg #[.int .i64 bx, .int .i64 by'], .agg #[.int .i64 vx, .int .i64 vy], .agg #[.int .i64 zx, .int .i64 zy], .int .i64 u, .int .i64 v, .int .u8 mo, .int .u8 ko] w fun e w' => e = .returned (.bool true) ∧ Below w.heap.size w w' := by
  have f1 := fun w1 => corridor_any ⟨ax, ay⟩ ⟨bx, by'⟩ u v w1
  have s1 := fun w1 => small_any vx vy w1
  have s2 := fun w1 => small_any zx zy w1
  have hd := Lib.hid (fun w1 => head32_any w1)
  have B0 := Lib.hid (Below.refl w.heap.size w)
  cases hsv : smB vx vy
  · rw [hsv] at s1
    clear hsv hmo hko s2 f1
    replace s1 := Lib.hid s1
    go_enter Try.func4, Try.ntmps4
    have q0 := Has.new w #[.int .i64 ax, .int .i64 ay] 38
    have q0 := q0.below ((Below.refl (w.heap.size + 1) _).alloc (by simp) (.cells #[.int .i64 bx, .int .i64 by'] 38)) (by omega)
    have q0 := q0.below ((Below.refl (w.heap.size + 2) _).alloc (by simp) (.cells #[.int .i64 vx, .int .i64 vy] 38)) (by omega)
    have q0 := q0.below ((Below.refl (w.heap.size + 3) _).alloc (by simp) (.cells #[.int .i64 zx, .int .i64 zy] 38)) (by omega)
    have q1 := Has.new (w.alloc (.cells #[.int .i64 ax, .int .i64 ay] 38)) #[.int .i64 bx, .int .i64 by'] 38
    rw [World.size_alloc] at q1
    have q1 := q1.below ((Below.refl (w.heap.size + 2) _).alloc (by simp) (.cells #[.int .i64 vx, .int .i64 vy] 38)) (by omega)
    have q1 := q1.below ((Below.refl (w.heap.size + 3) _).alloc (by simp) (.cells #[.int .i64 zx, .int .i64 zy] 38)) (by omega)
    have q2 := Has.new ((w.alloc (.cells #[.int .i64 ax, .int .i64 ay] 38)).alloc (.cells #[.int .i64 bx, .int .i64 by'] 38)) #[.int .i64 vx, .int .i64 vy] 38
    rw [World.size_alloc, World.size_alloc] at q2
    have q2 := q2.below ((Below.refl (w.heap.size + 3) _).alloc (by simp) (.cells #[.int .i64 zx, .int .i64 zy] 38)) (by omega)
    have q3 := Has.new (((w.alloc (.cells #[.int .i64 ax, .int .i64 ay] 38)).alloc (.cells #[.int .i64 bx, .int .i64 by'] 38)).alloc (.cells #[.int .i64 vx, .int .i64 vy] 38)) #[.int .i64 zx, .int .i64 zy] 38
    rw [World.size_alloc, World.size_alloc, World.size_alloc] at q3
    go_wp2_with fail
    have PA := Lib.hid (show Has ((((w.alloc (.cells #[.int .i64 ax, .int .i64 ay] 38)).alloc (.cells #[.int .i64 bx, .int .i64 by'] 38)).alloc (.cells #[.int .i64 vx, .int .i64 vy] 38)).alloc (.cells #[.int .i64 zx, .int .i64 zy] 38)) (w.heap.size) #[.int .i64 ax, .int .i64 ay] 38 from q0)
    have PB := Lib.hid (show Has ((((w.alloc (.cells #[.int .i64 ax, .int .i64 ay] 38)).alloc (.cells #[.int .i64 bx, .int .i64 by'] 38)).alloc (.cells #[.int .i64 vx, .int .i64 vy] 38)).alloc (.cells #[.int .i64 zx, .int .i64 zy] 38)) (w.heap.size + 1) #[.int .i64 bx, .int .i64 by'] 38 from q1)
    have PV := Lib.hid (show Has ((((w.alloc (.cells #[.int .i64 ax, .int .i64 ay] 38)).alloc (.cells #[.int .i64 bx, .int .i64 by'] 38)).alloc (.cells #[.int .i64 vx, .int .i64 vy] 38)).alloc (.cells #[.int .i64 zx, .int .i64 zy] 38)) (w.heap.size + 1 + 1) #[.int .i64 vx, .int .i64 vy] 38 from q2)
    have PZ := Lib.hid (show Has ((((w.alloc (.cells #[.int .i64 ax, .int .i64 ay] 38)).alloc (.cells #[.int .i64 bx, .int .i64 by'] 38)).alloc (.cells #[.int .i64 vx, .int .i64 vy] 38)).alloc (.cells #[.int .i64 zx, .int .i64 zy] 38)) (w.heap.size + 1 + 1 + 1) #[.int .i64 zx, .int .i64 zy] 38 from q3)
    have BX0 := Lib.hid (B0.out.trans (((((((Below.refl w.heap.size w).alloc (Nat.le_refl _) (.cells #[.int .i64 ax, .int .i64 ay] 38)).alloc (by simp) (.cells #[.int .i64 bx, .int .i64 by'] 38)).alloc (by simp; omega) (.cells #[.int .i64 vx, .int .i64 vy] 38)).alloc (by simp; omega) (.cells #[.int .i64 zx, .int .i64 zy] 38))).mono B0.out.size))
    generalize hXX0 : ((((w.alloc (.cells #[.int .i64 ax, .int .i64 ay] 38)).alloc (.cells #[.int .i64 bx, .int .i64 by'] 38)).alloc (.cells #[.int .i64 vx, .int .i64 vy] 38)).alloc (.cells #[.int .i64 zx, .int .i64 zy] 38)) = X0 at *
    clear hXX0
    have x0 := PA.out.cell (i := 0) rfl; have x1 := PA.out.cell (i := 1) rfl
    have y0 := PB.out.cell (i := 0) rfl; have y1 := PB.out.cell (i := 1) rfl
    have x2 := PV.out.cell (i := 0) rfl; have x3 := PV.out.cell (i := 1) rfl
    have y2 := PZ.out.cell (i := 0) rfl; have y3 := PZ.out.cell (i := 1) rfl
    clear q0 q1 q2 q3
    have hz0 := BX0.out.size
    refine (hd.out _).mono ?_
    rintro e w1 ⟨rfl, b1⟩
    have B1 := Lib.hid (BX0.out.trans (b1.mono BX0.out.size))
    replace PA := Lib.hid (PA.out.below b1 PA.out.lt)
    replace PB := Lib.hid (PB.out.below b1 PB.out.lt)
    replace PV := Lib.hid (PV.out.below b1 PV.out.lt)
    replace PZ := Lib.hid (PZ.out.below b1 PZ.out.lt)
    clear b1
    clear x0 x1 y0 y1 x2 x3 y2 y3
    have x0 := PA.out.cell (i := 0) rfl; have x1 := PA.out.cell (i := 1) rfl
    have y0 := PB.out.cell (i := 0) rfl; have y1 := PB.out.cell (i := 1) rfl
    have x2 := PV.out.cell (i := 0) rfl; have x3 := PV.out.cell (i := 1) rfl
    have y2 := PZ.out.cell (i := 0) rfl; have y3 := PZ.out.cell (i := 1) rfl
    go_wp2_with fail
    refine (s1.out _).mono ?_
    rintro e w2 ⟨rfl, b2⟩
    have B2 := Lib.hid (B1.out.trans (b2.mono B1.out.size))
    replace PA := Lib.hid (PA.out.below b2 PA.out.lt)
    replace PB := Lib.hid (PB.out.below b2 PB.out.lt)
    replace PV := Lib.hid (PV.out.below b2 PV.out.lt)
    replace PZ := Lib.hid (PZ.out.below b2 PZ.out.lt)
    clear b2
    clear x0 x1 y0 y1 x2 x3 y2 y3
    have x0 := PA.out.cell (i := 0) rfl; have x1 := PA.out.cell (i := 1) rfl
    have y0 := PB.out.cell (i := 0) rfl; have y1 := PB.out.cell (i := 1) rfl
    have x2 := PV.out.cell (i := 0) rfl; have x3 := PV.out.cell (i := 1) rfl
    have y2 := PZ.out.cell (i := 0) rfl; have y3 := PZ.out.cell (i := 1) rfl
    go_wp2
    go_ret
    exact ⟨rfl, B2.out⟩
  rw [hsv] at s1
  cases hsz : smB zx zy
  · rw [hsz] at s2
    clear hsv hsz hmo hko f1
    replace s1 := Lib.hid s1
    replace s2 := Lib.hid s2
    go_enter Try.func4, Try.ntmps4
    have q0 := Has.new w #[.int .i64 ax, .int .i64 ay] 38
    have q0 := q0.below ((Below.refl (w.heap.size + 1) _).alloc (by simp) (.cells #[.int .i64 bx, .int .i64 by'] 38)) (by omega)
    have q0 := q0.below ((Below.refl (w.heap.size + 2) _).alloc (by simp) (.cells #[.int .i64 vx, .int .i64 vy] 38)) (by omega)
    have q0 := q0.below ((Below.refl (w.heap.size + 3) _).alloc (by simp) (.cells #[.int .i64 zx, .int .i64 zy] 38)) (by omega)
    have q1 := Has.new (w.alloc (.cells #[.int .i64 ax, .int .i64 ay] 38)) #[.int .i64 bx, .int .i64 by'] 38
    rw [World.size_alloc] at q1
    have q1 := q1.below ((Below.refl (w.heap.size + 2) _).alloc (by simp) (.cells #[.int .i64 vx, .int .i64 vy] 38)) (by omega)
    have q1 := q1.below ((Below.refl (w.heap.size + 3) _).alloc (by simp) (.cells #[.int .i64 zx, .int .i64 zy] 38)) (by omega)
    have q2 := Has.new ((w.alloc (.cells #[.int .i64 ax, .int .i64 ay] 38)).alloc (.cells #[.int .i64 bx, .int .i64 by'] 38)) #[.int .i64 vx, .int .i64 vy] 38
    rw [World.size_alloc, World.size_alloc] at q2
    have q2 := q2.below ((Below.refl (w.heap.size + 3) _).alloc (by simp) (.cells #[.int .i64 zx, .int .i64 zy] 38)) (by omega)
    have q3 := Has.new (((w.alloc (.cells #[.int .i64 ax, .int .i64 ay] 38)).alloc (.cells #[.int .i64 bx, .int .i64 by'] 38)).alloc (.cells #[.int .i64 vx, .int .i64 vy] 38)) #[.int .i64 zx, .int .i64 zy] 38
    rw [World.size_alloc, World.size_alloc, World.size_alloc] at q3
    go_wp2_with fail
    have PA := Lib.hid (show Has ((((w.alloc (.cells #[.int .i64 ax, .int .i64 ay] 38)).alloc (.cells #[.int .i64 bx, .int .i64 by'] 38)).alloc (.cells #[.int .i64 vx, .int .i64 vy] 38)).alloc (.cells #[.int .i64 zx, .int .i64 zy] 38)) (w.heap.size) #[.int .i64 ax, .int .i64 ay] 38 from q0)
    have PB := Lib.hid (show Has ((((w.alloc (.cells #[.int .i64 ax, .int .i64 ay] 38)).alloc (.cells #[.int .i64 bx, .int .i64 by'] 38)).alloc (.cells #[.int .i64 vx, .int .i64 vy] 38)).alloc (.cells #[.int .i64 zx, .int .i64 zy] 38)) (w.heap.size + 1) #[.int .i64 bx, .int .i64 by'] 38 from q1)
    have PV := Lib.hid (show Has ((((w.alloc (.cells #[.int .i64 ax, .int .i64 ay] 38)).alloc (.cells #[.int .i64 bx, .int .i64 by'] 38)).alloc (.cells #[.int .i64 vx, .int .i64 vy] 38)).alloc (.cells #[.int .i64 zx, .int .i64 zy] 38)) (w.heap.size + 1 + 1) #[.int .i64 vx, .int .i64 vy] 38 from q2)
    have PZ := Lib.hid (show Has ((((w.alloc (.cells #[.int .i64 ax, .int .i64 ay] 38)).alloc (.cells #[.int .i64 bx, .int .i64 by'] 38)).alloc (.cells #[.int .i64 vx, .int .i64 vy] 38)).alloc (.cells #[.int .i64 zx, .int .i64 zy] 38)) (w.heap.size + 1 + 1 + 1) #[.int .i64 zx, .int .i64 zy] 38 from q3)
    have BX0 := Lib.hid (B0.out.trans (((((((Below.refl w.heap.size w).alloc (Nat.le_refl _) (.cells #[.int .i64 ax, .int .i64 ay] 38)).alloc (by simp) (.cells #[.int .i64 bx, .int .i64 by'] 38)).alloc (by simp; omega) (.cells #[.int .i64 vx, .int .i64 vy] 38)).alloc (by simp; omega) (.cells #[.int .i64 zx, .int .i64 zy] 38))).mono B0.out.size))
    generalize hXX0 : ((((w.alloc (.cells #[.int .i64 ax, .int .i64 ay] 38)).alloc (.cells #[.int .i64 bx, .int .i64 by'] 38)).alloc (.cells #[.int .i64 vx, .int .i64 vy] 38)).alloc (.cells #[.int .i64 zx, .int .i64 zy] 38)) = X0 at *
    clear hXX0
    have x0 := PA.out.cell (i := 0) rfl; have x1 := PA.out.cell (i := 1) rfl
    have y0 := PB.out.cell (i := 0) rfl; have y1 := PB.out.cell (i := 1) rfl
    have x2 := PV.out.cell (i := 0) rfl; have x3 := PV.out.cell (i := 1) rfl
    have y2 := PZ.out.cell (i := 0) rfl; have y3 := PZ.out.cell (i := 1) rfl
    clear q0 q1 q2 q3
    have hz0 := BX0.out.size
    refine (hd.out _).mono ?_
    rintro e w1 ⟨rfl, b1⟩
    have B1 := Lib.hid (BX0.out.trans (b1.mono BX0.out.size))
    replace PA := Lib.hid (PA.out.below b1 PA.out.lt)
    replace PB := Lib.hid (PB.out.below b1 PB.out.lt)
    replace PV := Lib.hid (PV.out.below b1 PV.out.lt)
    replace PZ := Lib.hid (PZ.out.below b1 PZ.out.lt)
    clear b1
    clear x0 x1 y0 y1 x2 x3 y2 y3
    have x0 := PA.out.cell (i := 0) rfl; have x1 := PA.out.cell (i := 1) rfl
    have y0 := PB.out.cell (i := 0) rfl; have y1 := PB.out.cell (i := 1) rfl
    have x2 := PV.out.cell (i := 0) rfl; have x3 := PV.out.cell (i := 1) rfl
    have y2 := PZ.out.cell (i := 0) rfl; have y3 := PZ.out.cell (i := 1) rfl
    go_wp2_with fail
    refine (s1.out _).mono ?_
    rintro e w2 ⟨rfl, b2⟩
    have B2 := Lib.hid (B1.out.trans (b2.mono B1.out.size))
    replace PA := Lib.hid (PA.out.below b2 PA.out.lt)
    replace PB := Lib.hid (PB.out.below b2 PB.out.lt)
    replace PV := Lib.hid (PV.out.below b2 PV.out.lt)
    replace PZ := Lib.hid (PZ.out.below b2 PZ.out.lt)
    clear b2
    clear x0 x1 y0 y1 x2 x3 y2 y3
    have x0 := PA.out.cell (i := 0) rfl; have x1 := PA.out.cell (i := 1) rfl
    have y0 := PB.out.cell (i := 0) rfl; have y1 := PB.out.cell (i := 1) rfl
    have x2 := PV.out.cell (i := 0) rfl; have x3 := PV.out.cell (i := 1) rfl
    have y2 := PZ.out.cell (i := 0) rfl; have y3 := PZ.out.cell (i := 1) rfl
    go_wp2_with fail
    refine (s2.out _).mono ?_
    rintro e w3 ⟨rfl, b3⟩
    have B3 := Lib.hid (B2.out.trans (b3.mono B2.out.size))
    replace PA := Lib.hid (PA.out.below b3 PA.out.lt)
    replace PB := Lib.hid (PB.out.below b3 PB.out.lt)
    replace PV := Lib.hid (PV.out.below b3 PV.out.lt)
    replace PZ := Lib.hid (PZ.out.below b3 PZ.out.lt)
    clear b3
    clear x0 x1 y0 y1 x2 x3 y2 y3
    have x0 := PA.out.cell (i := 0) rfl; have x1 := PA.out.cell (i := 1) rfl
    have y0 := PB.out.cell (i := 0) rfl; have y1 := PB.out.cell (i := 1) rfl
    have x2 := PV.out.cell (i := 0) rfl; have x3 := PV.out.cell (i := 1) rfl
    have y2 := PZ.out.cell (i := 0) rfl; have y3 := PZ.out.cell (i := 1) rfl
    go_wp2
    go_ret
    exact ⟨rfl, B3.out⟩
  rw [hsz] at s2
  replace s1 := Lib.hid s1
  replace s2 := Lib.hid s2
  by_cases he : corE ⟨ax, ay⟩ u ⟨bx, by'⟩ v = 0
  case neg =>
    have hcl : (corL ⟨ax, ay⟩ u ⟨bx, by'⟩ v).length = 0 := by unfold corL; rw [if_neg he]; rfl
    generalize corE ⟨ax, ay⟩ u ⟨bx, by'⟩ v = ce at *
    generalize corL ⟨ax, ay⟩ u ⟨bx, by'⟩ v = cl at *
    replace f1 := Lib.hid f1
    have de : (ce != 0) = true := by simpa using he
    have df : (ce == 0) = false := by simpa using he
    have dl : ((cl.length : Int) == 0) = true := by simp [hcl]
    have hcl' : (cl.length : Int) = 0 := by omega
    clear he hsv hsz hmo hko
    go_enter Try.func4, Try.ntmps4
    have q0 := Has.new w #[.int .i64 ax, .int .i64 ay] 38
    have q0 := q0.below ((Below.refl (w.heap.size + 1) _).alloc (by simp) (.cells #[.int .i64 bx, .int .i64 by'] 38)) (by omega)
    have q0 := q0.below ((Below.refl (w.heap.size + 2) _).alloc (by simp) (.cells #[.int .i64 vx, .int .i64 vy] 38)) (by omega)
    have q0 := q0.below ((Below.refl (w.heap.size + 3) _).alloc (by simp) (.cells #[.int .i64 zx, .int .i64 zy] 38)) (by omega)
    have q1 := Has.new (w.alloc (.cells #[.int .i64 ax, .int .i64 ay] 38)) #[.int .i64 bx, .int .i64 by'] 38
    rw [World.size_alloc] at q1
    have q1 := q1.below ((Below.refl (w.heap.size + 2) _).alloc (by simp) (.cells #[.int .i64 vx, .int .i64 vy] 38)) (by omega)
    have q1 := q1.below ((Below.refl (w.heap.size + 3) _).alloc (by simp) (.cells #[.int .i64 zx, .int .i64 zy] 38)) (by omega)
    have q2 := Has.new ((w.alloc (.cells #[.int .i64 ax, .int .i64 ay] 38)).alloc (.cells #[.int .i64 bx, .int .i64 by'] 38)) #[.int .i64 vx, .int .i64 vy] 38
    rw [World.size_alloc, World.size_alloc] at q2
    have q2 := q2.below ((Below.refl (w.heap.size + 3) _).alloc (by simp) (.cells #[.int .i64 zx, .int .i64 zy] 38)) (by omega)
    have q3 := Has.new (((w.alloc (.cells #[.int .i64 ax, .int .i64 ay] 38)).alloc (.cells #[.int .i64 bx, .int .i64 by'] 38)).alloc (.cells #[.int .i64 vx, .int .i64 vy] 38)) #[.int .i64 zx, .int .i64 zy] 38
    rw [World.size_alloc, World.size_alloc, World.size_alloc] at q3
    go_wp2_with fail
    have PA := Lib.hid (show Has ((((w.alloc (.cells #[.int .i64 ax, .int .i64 ay] 38)).alloc (.cells #[.int .i64 bx, .int .i64 by'] 38)).alloc (.cells #[.int .i64 vx, .int .i64 vy] 38)).alloc (.cells #[.int .i64 zx, .int .i64 zy] 38)) (w.heap.size) #[.int .i64 ax, .int .i64 ay] 38 from q0)
    have PB := Lib.hid (show Has ((((w.alloc (.cells #[.int .i64 ax, .int .i64 ay] 38)).alloc (.cells #[.int .i64 bx, .int .i64 by'] 38)).alloc (.cells #[.int .i64 vx, .int .i64 vy] 38)).alloc (.cells #[.int .i64 zx, .int .i64 zy] 38)) (w.heap.size + 1) #[.int .i64 bx, .int .i64 by'] 38 from q1)
    have PV := Lib.hid (show Has ((((w.alloc (.cells #[.int .i64 ax, .int .i64 ay] 38)).alloc (.cells #[.int .i64 bx, .int .i64 by'] 38)).alloc (.cells #[.int .i64 vx, .int .i64 vy] 38)).alloc (.cells #[.int .i64 zx, .int .i64 zy] 38)) (w.heap.size + 1 + 1) #[.int .i64 vx, .int .i64 vy] 38 from q2)
    have PZ := Lib.hid (show Has ((((w.alloc (.cells #[.int .i64 ax, .int .i64 ay] 38)).alloc (.cells #[.int .i64 bx, .int .i64 by'] 38)).alloc (.cells #[.int .i64 vx, .int .i64 vy] 38)).alloc (.cells #[.int .i64 zx, .int .i64 zy] 38)) (w.heap.size + 1 + 1 + 1) #[.int .i64 zx, .int .i64 zy] 38 from q3)
    have BX0 := Lib.hid (B0.out.trans (((((((Below.refl w.heap.size w).alloc (Nat.le_refl _) (.cells #[.int .i64 ax, .int .i64 ay] 38)).alloc (by simp) (.cells #[.int .i64 bx, .int .i64 by'] 38)).alloc (by simp; omega) (.cells #[.int .i64 vx, .int .i64 vy] 38)).alloc (by simp; omega) (.cells #[.int .i64 zx, .int .i64 zy] 38))).mono B0.out.size))
    generalize hXX0 : ((((w.alloc (.cells #[.int .i64 ax, .int .i64 ay] 38)).alloc (.cells #[.int .i64 bx, .int .i64 by'] 38)).alloc (.cells #[.int .i64 vx, .int .i64 vy] 38)).alloc (.cells #[.int .i64 zx, .int .i64 zy] 38)) = X0 at *
    clear hXX0
    have x0 := PA.out.cell (i := 0) rfl; have x1 := PA.out.cell (i := 1) rfl
    have y0 := PB.out.cell (i := 0) rfl; have y1 := PB.out.cell (i := 1) rfl
    have x2 := PV.out.cell (i := 0) rfl; have x3 := PV.out.cell (i := 1) rfl
    have y2 := PZ.out.cell (i := 0) rfl; have y3 := PZ.out.cell (i := 1) rfl
    clear q0 q1 q2 q3
    have hz0 := BX0.out.size
    refine (hd.out _).mono ?_
    rintro e w1 ⟨rfl, b1⟩
    have B1 := Lib.hid (BX0.out.trans (b1.mono BX0.out.size))
    replace PA := Lib.hid (PA.out.below b1 PA.out.lt)
    replace PB := Lib.hid (PB.out.below b1 PB.out.lt)
    replace PV := Lib.hid (PV.out.below b1 PV.out.lt)
    replace PZ := Lib.hid (PZ.out.below b1 PZ.out.lt)
    clear b1
    clear x0 x1 y0 y1 x2 x3 y2 y3
    have x0 := PA.out.cell (i := 0) rfl; have x1 := PA.out.cell (i := 1) rfl
    have y0 := PB.out.cell (i := 0) rfl; have y1 := PB.out.cell (i := 1) rfl
    have x2 := PV.out.cell (i := 0) rfl; have x3 := PV.out.cell (i := 1) rfl
    have y2 := PZ.out.cell (i := 0) rfl; have y3 := PZ.out.cell (i := 1) rfl
    go_wp2_with fail
    refine (s1.out _).mono ?_
    rintro e w2 ⟨rfl, b2⟩
    have B2 := Lib.hid (B1.out.trans (b2.mono B1.out.size))
    replace PA := Lib.hid (PA.out.below b2 PA.out.lt)
    replace PB := Lib.hid (PB.out.below b2 PB.out.lt)
    replace PV := Lib.hid (PV.out.below b2 PV.out.lt)
    replace PZ := Lib.hid (PZ.out.below b2 PZ.out.lt)
    clear b2
    clear x0 x1 y0 y1 x2 x3 y2 y3
    have x0 := PA.out.cell (i := 0) rfl; have x1 := PA.out.cell (i := 1) rfl
    have y0 := PB.out.cell (i := 0) rfl; have y1 := PB.out.cell (i := 1) rfl
    have x2 := PV.out.cell (i := 0) rfl; have x3 := PV.out.cell (i := 1) rfl
    have y2 := PZ.out.cell (i := 0) rfl; have y3 := PZ.out.cell (i := 1) rfl
    go_wp2_with fail
    refine (s2.out _).mono ?_
    rintro e w3 ⟨rfl, b3⟩
    have B3 := Lib.hid (B2.out.trans (b3.mono B2.out.size))
    replace PA := Lib.hid (PA.out.below b3 PA.out.lt)
    replace PB := Lib.hid (PB.out.below b3 PB.out.lt)
    replace PV := Lib.hid (PV.out.below b3 PV.out.lt)
    replace PZ := Lib.hid (PZ.out.below b3 PZ.out.lt)
    clear b3
    clear x0 x1 y0 y1 x2 x3 y2 y3
    have x0 := PA.out.cell (i := 0) rfl; have x1 := PA.out.cell (i := 1) rfl
    have y0 := PB.out.cell (i := 0) rfl; have y1 := PB.out.cell (i := 1) rfl
    have x2 := PV.out.cell (i := 0) rfl; have x3 := PV.out.cell (i := 1) rfl
    have y2 := PZ.out.cell (i := 0) rfl; have y3 := PZ.out.cell (i := 1) rfl
    go_wp2_with fail
    refine (f1.out _).mono ?_
    rintro e w4 ⟨v4, rfl, p4, b4⟩
    have B4 := Lib.hid (B3.out.trans (b4.mono B3.out.size))
    replace PA := Lib.hid (PA.out.below b4 PA.out.lt)
    replace PB := Lib.hid (PB.out.below b4 PB.out.lt)
    replace PV := Lib.hid (PV.out.below b4 PV.out.lt)
    replace PZ := Lib.hid (PZ.out.below b4 PZ.out.lt)
    obtain ⟨ga4, gc4, hv4⟩ := p4.len
    subst hv4
    have P1 := Lib.hid p4
    clear p4
    clear b4
    clear x0 x1 y0 y1 x2 x3 y2 y3
    have x0 := PA.out.cell (i := 0) rfl; have x1 := PA.out.cell (i := 1) rfl
    have y0 := PB.out.cell (i := 0) rfl; have y1 := PB.out.cell (i := 1) rfl
    have x2 := PV.out.cell (i := 0) rfl; have x3 := PV.out.cell (i := 1) rfl
    have y2 := PZ.out.cell (i := 0) rfl; have y3 := PZ.out.cell (i := 1) rfl
    go_wp2
    go_ret
    exact ⟨rfl, B4.out⟩
  have hz := corE_zero he
  obtain ⟨⟨pa, pb, u0, u1, v0, v1⟩, -, -⟩ := hz
  simp only [smB, decide_eq_true_eq] at hsv hsz
  have k1 := fun w1 => far_any vx vy u ⟨hsv.1, hsv.2.1⟩ hsv.2.2 ⟨u0, u1⟩ w1
  have k2 := fun w1 => far_any zx zy v ⟨hsz.1, hsz.2.1⟩ hsz.2.2 ⟨v0, v1⟩ w1
  rw [he] at f1
  by_cases hfv : u * u < vx * vx + vy * vy
  case pos =>
    rw [show decide (u * u < vx * vx + vy * vy) = true by simpa using hfv] at k1
    generalize corL ⟨ax, ay⟩ u ⟨bx, by'⟩ v = cl at *
    replace f1 := Lib.hid f1
    replace k1 := Lib.hid k1
    clear he hsv hsz hmo hko hfv k2 pa pb u0 u1 v0 v1
    go_enter Try.func4, Try.ntmps4
    have q0 := Has.new w #[.int .i64 ax, .int .i64 ay] 38
    have q0 := q0.below ((Below.refl (w.heap.size + 1) _).alloc (by simp) (.cells #[.int .i64 bx, .int .i64 by'] 38)) (by omega)
    have q0 := q0.below ((Below.refl (w.heap.size + 2) _).alloc (by simp) (.cells #[.int .i64 vx, .int .i64 vy] 38)) (by omega)
    have q0 := q0.below ((Below.refl (w.heap.size + 3) _).alloc (by simp) (.cells #[.int .i64 zx, .int .i64 zy] 38)) (by omega)
    have q1 := Has.new (w.alloc (.cells #[.int .i64 ax, .int .i64 ay] 38)) #[.int .i64 bx, .int .i64 by'] 38
    rw [World.size_alloc] at q1
    have q1 := q1.below ((Below.refl (w.heap.size + 2) _).alloc (by simp) (.cells #[.int .i64 vx, .int .i64 vy] 38)) (by omega)
    have q1 := q1.below ((Below.refl (w.heap.size + 3) _).alloc (by simp) (.cells #[.int .i64 zx, .int .i64 zy] 38)) (by omega)
    have q2 := Has.new ((w.alloc (.cells #[.int .i64 ax, .int .i64 ay] 38)).alloc (.cells #[.int .i64 bx, .int .i64 by'] 38)) #[.int .i64 vx, .int .i64 vy] 38
    rw [World.size_alloc, World.size_alloc] at q2
    have q2 := q2.below ((Below.refl (w.heap.size + 3) _).alloc (by simp) (.cells #[.int .i64 zx, .int .i64 zy] 38)) (by omega)
    have q3 := Has.new (((w.alloc (.cells #[.int .i64 ax, .int .i64 ay] 38)).alloc (.cells #[.int .i64 bx, .int .i64 by'] 38)).alloc (.cells #[.int .i64 vx, .int .i64 vy] 38)) #[.int .i64 zx, .int .i64 zy] 38
    rw [World.size_alloc, World.size_alloc, World.size_alloc] at q3
    go_wp2_with fail
    have PA := Lib.hid (show Has ((((w.alloc (.cells #[.int .i64 ax, .int .i64 ay] 38)).alloc (.cells #[.int .i64 bx, .int .i64 by'] 38)).alloc (.cells #[.int .i64 vx, .int .i64 vy] 38)).alloc (.cells #[.int .i64 zx, .int .i64 zy] 38)) (w.heap.size) #[.int .i64 ax, .int .i64 ay] 38 from q0)
    have PB := Lib.hid (show Has ((((w.alloc (.cells #[.int .i64 ax, .int .i64 ay] 38)).alloc (.cells #[.int .i64 bx, .int .i64 by'] 38)).alloc (.cells #[.int .i64 vx, .int .i64 vy] 38)).alloc (.cells #[.int .i64 zx, .int .i64 zy] 38)) (w.heap.size + 1) #[.int .i64 bx, .int .i64 by'] 38 from q1)
    have PV := Lib.hid (show Has ((((w.alloc (.cells #[.int .i64 ax, .int .i64 ay] 38)).alloc (.cells #[.int .i64 bx, .int .i64 by'] 38)).alloc (.cells #[.int .i64 vx, .int .i64 vy] 38)).alloc (.cells #[.int .i64 zx, .int .i64 zy] 38)) (w.heap.size + 1 + 1) #[.int .i64 vx, .int .i64 vy] 38 from q2)
    have PZ := Lib.hid (show Has ((((w.alloc (.cells #[.int .i64 ax, .int .i64 ay] 38)).alloc (.cells #[.int .i64 bx, .int .i64 by'] 38)).alloc (.cells #[.int .i64 vx, .int .i64 vy] 38)).alloc (.cells #[.int .i64 zx, .int .i64 zy] 38)) (w.heap.size + 1 + 1 + 1) #[.int .i64 zx, .int .i64 zy] 38 from q3)
    have BX0 := Lib.hid (B0.out.trans (((((((Below.refl w.heap.size w).alloc (Nat.le_refl _) (.cells #[.int .i64 ax, .int .i64 ay] 38)).alloc (by simp) (.cells #[.int .i64 bx, .int .i64 by'] 38)).alloc (by simp; omega) (.cells #[.int .i64 vx, .int .i64 vy] 38)).alloc (by simp; omega) (.cells #[.int .i64 zx, .int .i64 zy] 38))).mono B0.out.size))
    generalize hXX0 : ((((w.alloc (.cells #[.int .i64 ax, .int .i64 ay] 38)).alloc (.cells #[.int .i64 bx, .int .i64 by'] 38)).alloc (.cells #[.int .i64 vx, .int .i64 vy] 38)).alloc (.cells #[.int .i64 zx, .int .i64 zy] 38)) = X0 at *
    clear hXX0
    have x0 := PA.out.cell (i := 0) rfl; have x1 := PA.out.cell (i := 1) rfl
    have y0 := PB.out.cell (i := 0) rfl; have y1 := PB.out.cell (i := 1) rfl
    have x2 := PV.out.cell (i := 0) rfl; have x3 := PV.out.cell (i := 1) rfl
    have y2 := PZ.out.cell (i := 0) rfl; have y3 := PZ.out.cell (i := 1) rfl
    clear q0 q1 q2 q3
    have hz0 := BX0.out.size
    refine (hd.out _).mono ?_
    rintro e w1 ⟨rfl, b1⟩
    have B1 := Lib.hid (BX0.out.trans (b1.mono BX0.out.size))
    replace PA := Lib.hid (PA.out.below b1 PA.out.lt)
    replace PB := Lib.hid (PB.out.below b1 PB.out.lt)
    replace PV := Lib.hid (PV.out.below b1 PV.out.lt)
    replace PZ := Lib.hid (PZ.out.below b1 PZ.out.lt)
    clear b1
    clear x0 x1 y0 y1 x2 x3 y2 y3
    have x0 := PA.out.cell (i := 0) rfl; have x1 := PA.out.cell (i := 1) rfl
    have y0 := PB.out.cell (i := 0) rfl; have y1 := PB.out.cell (i := 1) rfl
    have x2 := PV.out.cell (i := 0) rfl; have x3 := PV.out.cell (i := 1) rfl
    have y2 := PZ.out.cell (i := 0) rfl; have y3 := PZ.out.cell (i := 1) rfl
    go_wp2_with fail
    refine (s1.out _).mono ?_
    rintro e w2 ⟨rfl, b2⟩
    have B2 := Lib.hid (B1.out.trans (b2.mono B1.out.size))
    replace PA := Lib.hid (PA.out.below b2 PA.out.lt)
    replace PB := Lib.hid (PB.out.below b2 PB.out.lt)
    replace PV := Lib.hid (PV.out.below b2 PV.out.lt)
    replace PZ := Lib.hid (PZ.out.below b2 PZ.out.lt)
    clear b2
    clear x0 x1 y0 y1 x2 x3 y2 y3
    have x0 := PA.out.cell (i := 0) rfl; have x1 := PA.out.cell (i := 1) rfl
    have y0 := PB.out.cell (i := 0) rfl; have y1 := PB.out.cell (i := 1) rfl
    have x2 := PV.out.cell (i := 0) rfl; have x3 := PV.out.cell (i := 1) rfl
    have y2 := PZ.out.cell (i := 0) rfl; have y3 := PZ.out.cell (i := 1) rfl
    go_wp2_with fail
    refine (s2.out _).mono ?_
    rintro e w3 ⟨rfl, b3⟩
    have B3 := Lib.hid (B2.out.trans (b3.mono B2.out.size))
    replace PA := Lib.hid (PA.out.below b3 PA.out.lt)
    replace PB := Lib.hid (PB.out.below b3 PB.out.lt)
    replace PV := Lib.hid (PV.out.below b3 PV.out.lt)
    replace PZ := Lib.hid (PZ.out.below b3 PZ.out.lt)
    clear b3
    clear x0 x1 y0 y1 x2 x3 y2 y3
    have x0 := PA.out.cell (i := 0) rfl; have x1 := PA.out.cell (i := 1) rfl
    have y0 := PB.out.cell (i := 0) rfl; have y1 := PB.out.cell (i := 1) rfl
    have x2 := PV.out.cell (i := 0) rfl; have x3 := PV.out.cell (i := 1) rfl
    have y2 := PZ.out.cell (i := 0) rfl; have y3 := PZ.out.cell (i := 1) rfl
    go_wp2_with fail
    refine (f1.out _).mono ?_
    rintro e w4 ⟨v4, rfl, p4, b4⟩
    have B4 := Lib.hid (B3.out.trans (b4.mono B3.out.size))
    replace PA := Lib.hid (PA.out.below b4 PA.out.lt)
    replace PB := Lib.hid (PB.out.below b4 PB.out.lt)
    replace PV := Lib.hid (PV.out.below b4 PV.out.lt)
    replace PZ := Lib.hid (PZ.out.below b4 PZ.out.lt)
    obtain ⟨ga4, gc4, hv4⟩ := p4.len
    subst hv4
    have P1 := Lib.hid p4
    clear p4
    clear b4
    clear x0 x1 y0 y1 x2 x3 y2 y3
    have x0 := PA.out.cell (i := 0) rfl; have x1 := PA.out.cell (i := 1) rfl
    have y0 := PB.out.cell (i := 0) rfl; have y1 := PB.out.cell (i := 1) rfl
    have x2 := PV.out.cell (i := 0) rfl; have x3 := PV.out.cell (i := 1) rfl
    have y2 := PZ.out.cell (i := 0) rfl; have y3 := PZ.out.cell (i := 1) rfl
    go_wp2_with fail
    refine (k1.out _).mono ?_
    rintro e w5 ⟨rfl, b5⟩
    have B5 := Lib.hid (B4.out.trans (b5.mono B4.out.size))
    replace PA := Lib.hid (PA.out.below b5 PA.out.lt)
    replace PB := Lib.hid (PB.out.below b5 PB.out.lt)
    replace PV := Lib.hid (PV.out.below b5 PV.out.lt)
    replace PZ := Lib.hid (PZ.out.below b5 PZ.out.lt)
    replace P1 := Lib.hid ((P1.out.below b5).mono b5.size)
    clear b5
    clear x0 x1 y0 y1 x2 x3 y2 y3
    have x0 := PA.out.cell (i := 0) rfl; have x1 := PA.out.cell (i := 1) rfl
    have y0 := PB.out.cell (i := 0) rfl; have y1 := PB.out.cell (i := 1) rfl
    have x2 := PV.out.cell (i := 0) rfl; have x3 := PV.out.cell (i := 1) rfl
    have y2 := PZ.out.cell (i := 0) rfl; have y3 := PZ.out.cell (i := 1) rfl
    go_wp2
    go_ret
    exact ⟨rfl, B5.out⟩
  rw [show decide (u * u < vx * vx + vy * vy) = false by simpa using hfv] at k1
  by_cases hfz : v * v < zx * zx + zy * zy
  case pos =>
    rw [show decide (v * v < zx * zx + zy * zy) = true by simpa using hfz] at k2
    generalize corL ⟨ax, ay⟩ u ⟨bx, by'⟩ v = cl at *
    replace f1 := Lib.hid f1
    replace k1 := Lib.hid k1
    replace k2 := Lib.hid k2
    clear he hsv hsz hmo hko hfv hfz pa pb u0 u1 v0 v1
    go_enter Try.func4, Try.ntmps4
    have q0 := Has.new w #[.int .i64 ax, .int .i64 ay] 38
    have q0 := q0.below ((Below.refl (w.heap.size + 1) _).alloc (by simp) (.cells #[.int .i64 bx, .int .i64 by'] 38)) (by omega)
    have q0 := q0.below ((Below.refl (w.heap.size + 2) _).alloc (by simp) (.cells #[.int .i64 vx, .int .i64 vy] 38)) (by omega)
    have q0 := q0.below ((Below.refl (w.heap.size + 3) _).alloc (by simp) (.cells #[.int .i64 zx, .int .i64 zy] 38)) (by omega)
    have q1 := Has.new (w.alloc (.cells #[.int .i64 ax, .int .i64 ay] 38)) #[.int .i64 bx, .int .i64 by'] 38
    rw [World.size_alloc] at q1
    have q1 := q1.below ((Below.refl (w.heap.size + 2) _).alloc (by simp) (.cells #[.int .i64 vx, .int .i64 vy] 38)) (by omega)
    have q1 := q1.below ((Below.refl (w.heap.size + 3) _).alloc (by simp) (.cells #[.int .i64 zx, .int .i64 zy] 38)) (by omega)
    have q2 := Has.new ((w.alloc (.cells #[.int .i64 ax, .int .i64 ay] 38)).alloc (.cells #[.int .i64 bx, .int .i64 by'] 38)) #[.int .i64 vx, .int .i64 vy] 38
    rw [World.size_alloc, World.size_alloc] at q2
    have q2 := q2.below ((Below.refl (w.heap.size + 3) _).alloc (by simp) (.cells #[.int .i64 zx, .int .i64 zy] 38)) (by omega)
    have q3 := Has.new (((w.alloc (.cells #[.int .i64 ax, .int .i64 ay] 38)).alloc (.cells #[.int .i64 bx, .int .i64 by'] 38)).alloc (.cells #[.int .i64 vx, .int .i64 vy] 38)) #[.int .i64 zx, .int .i64 zy] 38
    rw [World.size_alloc, World.size_alloc, World.size_alloc] at q3
    go_wp2_with fail
    have PA := Lib.hid (show Has ((((w.alloc (.cells #[.int .i64 ax, .int .i64 ay] 38)).alloc (.cells #[.int .i64 bx, .int .i64 by'] 38)).alloc (.cells #[.int .i64 vx, .int .i64 vy] 38)).alloc (.cells #[.int .i64 zx, .int .i64 zy] 38)) (w.heap.size) #[.int .i64 ax, .int .i64 ay] 38 from q0)
    have PB := Lib.hid (show Has ((((w.alloc (.cells #[.int .i64 ax, .int .i64 ay] 38)).alloc (.cells #[.int .i64 bx, .int .i64 by'] 38)).alloc (.cells #[.int .i64 vx, .int .i64 vy] 38)).alloc (.cells #[.int .i64 zx, .int .i64 zy] 38)) (w.heap.size + 1) #[.int .i64 bx, .int .i64 by'] 38 from q1)
    have PV := Lib.hid (show Has ((((w.alloc (.cells #[.int .i64 ax, .int .i64 ay] 38)).alloc (.cells #[.int .i64 bx, .int .i64 by'] 38)).alloc (.cells #[.int .i64 vx, .int .i64 vy] 38)).alloc (.cells #[.int .i64 zx, .int .i64 zy] 38)) (w.heap.size + 1 + 1) #[.int .i64 vx, .int .i64 vy] 38 from q2)
    have PZ := Lib.hid (show Has ((((w.alloc (.cells #[.int .i64 ax, .int .i64 ay] 38)).alloc (.cells #[.int .i64 bx, .int .i64 by'] 38)).alloc (.cells #[.int .i64 vx, .int .i64 vy] 38)).alloc (.cells #[.int .i64 zx, .int .i64 zy] 38)) (w.heap.size + 1 + 1 + 1) #[.int .i64 zx, .int .i64 zy] 38 from q3)
    have BX0 := Lib.hid (B0.out.trans (((((((Below.refl w.heap.size w).alloc (Nat.le_refl _) (.cells #[.int .i64 ax, .int .i64 ay] 38)).alloc (by simp) (.cells #[.int .i64 bx, .int .i64 by'] 38)).alloc (by simp; omega) (.cells #[.int .i64 vx, .int .i64 vy] 38)).alloc (by simp; omega) (.cells #[.int .i64 zx, .int .i64 zy] 38))).mono B0.out.size))
    generalize hXX0 : ((((w.alloc (.cells #[.int .i64 ax, .int .i64 ay] 38)).alloc (.cells #[.int .i64 bx, .int .i64 by'] 38)).alloc (.cells #[.int .i64 vx, .int .i64 vy] 38)).alloc (.cells #[.int .i64 zx, .int .i64 zy] 38)) = X0 at *
    clear hXX0
    have x0 := PA.out.cell (i := 0) rfl; have x1 := PA.out.cell (i := 1) rfl
    have y0 := PB.out.cell (i := 0) rfl; have y1 := PB.out.cell (i := 1) rfl
    have x2 := PV.out.cell (i := 0) rfl; have x3 := PV.out.cell (i := 1) rfl
    have y2 := PZ.out.cell (i := 0) rfl; have y3 := PZ.out.cell (i := 1) rfl
    clear q0 q1 q2 q3
    have hz0 := BX0.out.size
    refine (hd.out _).mono ?_
    rintro e w1 ⟨rfl, b1⟩
    have B1 := Lib.hid (BX0.out.trans (b1.mono BX0.out.size))
    replace PA := Lib.hid (PA.out.below b1 PA.out.lt)
    replace PB := Lib.hid (PB.out.below b1 PB.out.lt)
    replace PV := Lib.hid (PV.out.below b1 PV.out.lt)
    replace PZ := Lib.hid (PZ.out.below b1 PZ.out.lt)
    clear b1
    clear x0 x1 y0 y1 x2 x3 y2 y3
    have x0 := PA.out.cell (i := 0) rfl; have x1 := PA.out.cell (i := 1) rfl
    have y0 := PB.out.cell (i := 0) rfl; have y1 := PB.out.cell (i := 1) rfl
    have x2 := PV.out.cell (i := 0) rfl; have x3 := PV.out.cell (i := 1) rfl
    have y2 := PZ.out.cell (i := 0) rfl; have y3 := PZ.out.cell (i := 1) rfl
    go_wp2_with fail
    refine (s1.out _).mono ?_
    rintro e w2 ⟨rfl, b2⟩
    have B2 := Lib.hid (B1.out.trans (b2.mono B1.out.size))
    replace PA := Lib.hid (PA.out.below b2 PA.out.lt)
    replace PB := Lib.hid (PB.out.below b2 PB.out.lt)
    replace PV := Lib.hid (PV.out.below b2 PV.out.lt)
    replace PZ := Lib.hid (PZ.out.below b2 PZ.out.lt)
    clear b2
    clear x0 x1 y0 y1 x2 x3 y2 y3
    have x0 := PA.out.cell (i := 0) rfl; have x1 := PA.out.cell (i := 1) rfl
    have y0 := PB.out.cell (i := 0) rfl; have y1 := PB.out.cell (i := 1) rfl
    have x2 := PV.out.cell (i := 0) rfl; have x3 := PV.out.cell (i := 1) rfl
    have y2 := PZ.out.cell (i := 0) rfl; have y3 := PZ.out.cell (i := 1) rfl
    go_wp2_with fail
    refine (s2.out _).mono ?_
    rintro e w3 ⟨rfl, b3⟩
    have B3 := Lib.hid (B2.out.trans (b3.mono B2.out.size))
    replace PA := Lib.hid (PA.out.below b3 PA.out.lt)
    replace PB := Lib.hid (PB.out.below b3 PB.out.lt)
    replace PV := Lib.hid (PV.out.below b3 PV.out.lt)
    replace PZ := Lib.hid (PZ.out.below b3 PZ.out.lt)
    clear b3
    clear x0 x1 y0 y1 x2 x3 y2 y3
    have x0 := PA.out.cell (i := 0) rfl; have x1 := PA.out.cell (i := 1) rfl
    have y0 := PB.out.cell (i := 0) rfl; have y1 := PB.out.cell (i := 1) rfl
    have x2 := PV.out.cell (i := 0) rfl; have x3 := PV.out.cell (i := 1) rfl
    have y2 := PZ.out.cell (i := 0) rfl; have y3 := PZ.out.cell (i := 1) rfl
    go_wp2_with fail
    refine (f1.out _).mono ?_
    rintro e w4 ⟨v4, rfl, p4, b4⟩
    have B4 := Lib.hid (B3.out.trans (b4.mono B3.out.size))
    replace PA := Lib.hid (PA.out.below b4 PA.out.lt)
    replace PB := Lib.hid (PB.out.below b4 PB.out.lt)
    replace PV := Lib.hid (PV.out.below b4 PV.out.lt)
    replace PZ := Lib.hid (PZ.out.below b4 PZ.out.lt)
    obtain ⟨ga4, gc4, hv4⟩ := p4.len
    subst hv4
    have P1 := Lib.hid p4
    clear p4
    clear b4
    clear x0 x1 y0 y1 x2 x3 y2 y3
    have x0 := PA.out.cell (i := 0) rfl; have x1 := PA.out.cell (i := 1) rfl
    have y0 := PB.out.cell (i := 0) rfl; have y1 := PB.out.cell (i := 1) rfl
    have x2 := PV.out.cell (i := 0) rfl; have x3 := PV.out.cell (i := 1) rfl
    have y2 := PZ.out.cell (i := 0) rfl; have y3 := PZ.out.cell (i := 1) rfl
    go_wp2_with fail
    refine (k1.out _).mono ?_
    rintro e w5 ⟨rfl, b5⟩
    have B5 := Lib.hid (B4.out.trans (b5.mono B4.out.size))
    replace PA := Lib.hid (PA.out.below b5 PA.out.lt)
    replace PB := Lib.hid (PB.out.below b5 PB.out.lt)
    replace PV := Lib.hid (PV.out.below b5 PV.out.lt)
    replace PZ := Lib.hid (PZ.out.below b5 PZ.out.lt)
    replace P1 := Lib.hid ((P1.out.below b5).mono b5.size)
    clear b5
    clear x0 x1 y0 y1 x2 x3 y2 y3
    have x0 := PA.out.cell (i := 0) rfl; have x1 := PA.out.cell (i := 1) rfl
    have y0 := PB.out.cell (i := 0) rfl; have y1 := PB.out.cell (i := 1) rfl
    have x2 := PV.out.cell (i := 0) rfl; have x3 := PV.out.cell (i := 1) rfl
    have y2 := PZ.out.cell (i := 0) rfl; have y3 := PZ.out.cell (i := 1) rfl
    go_wp2_with fail
    refine (k2.out _).mono ?_
    rintro e w6 ⟨rfl, b6⟩
    have B6 := Lib.hid (B5.out.trans (b6.mono B5.out.size))
    replace PA := Lib.hid (PA.out.below b6 PA.out.lt)
    replace PB := Lib.hid (PB.out.below b6 PB.out.lt)
    replace PV := Lib.hid (PV.out.below b6 PV.out.lt)
    replace PZ := Lib.hid (PZ.out.below b6 PZ.out.lt)
    replace P1 := Lib.hid ((P1.out.below b6).mono b6.size)
    clear b6
    clear x0 x1 y0 y1 x2 x3 y2 y3
    have x0 := PA.out.cell (i := 0) rfl; have x1 := PA.out.cell (i := 1) rfl
    have y0 := PB.out.cell (i := 0) rfl; have y1 := PB.out.cell (i := 1) rfl
    have x2 := PV.out.cell (i := 0) rfl; have x3 := PV.out.cell (i := 1) rfl
    have y2 := PZ.out.cell (i := 0) rfl; have y3 := PZ.out.cell (i := 1) rfl
    go_wp2
    go_ret
    exact ⟨rfl, B6.out⟩
  rw [show decide (v * v < zx * zx + zy * zy) = false by simpa using hfz] at k2
  have HS := fun (s t x y : Int) => straight_has he (p := ⟨vx, vy⟩) (q := ⟨zx, zy⟩) (by simpa using hfv) (by simpa using hfz) (s := s) (t := t) (x := x) (y := y)
  have pa' := place_iff.1 pa
  have pb' := place_iff.1 pb
  simp only at pa' pb' HS
  generalize corL ⟨ax, ay⟩ u ⟨bx, by'⟩ v = cl at *
  replace f1 := Lib.hid f1
  replace k1 := Lib.hid k1
  replace k2 := Lib.hid k2
  replace HS := Lib.hid HS
  have fa := Lib.hid at32_any
  obtain ⟨jm, rfl, hjm⟩ := u8_bd hmo
  obtain ⟨jk, rfl, hjk⟩ := u8_bd hko
  obtain ⟨n', hq1, hn', -⟩ := mod_at (i := jm) (n := 20) (by omega)
  replace hq1 : ((jm : Nat) : Int).tmod 20 = (n' : Int) := hq1
  obtain ⟨n, hn⟩ : ∃ n : Nat, n = 1 + n' := ⟨_, rfl⟩
  obtain ⟨i, hq2, hi, -⟩ := mod_at (i := jk) (n := n + 1) (by omega)
  replace hq2 : ((jk : Nat) : Int).tmod ((n : Int) + 1) = (i : Int) := by rw [← hq2]; congr 1
  have z1 : IntKind.i64.wrap (jm : Int) = jm := IntWalk.i64_in _ (by omega)
  have z2 : IntKind.i64.wrap (jk : Int) = jk := IntWalk.i64_in _ (by omega)
  have z3 : IntKind.i64.wrap (n' : Int) = n' := IntWalk.i64_in _ (by omega)
  have z4 : IntKind.i64.wrap (1 + (n' : Int)) = (n : Int) := by rw [hn]; exact IntWalk.i64_in _ (by omega)
  have z5 : IntKind.i64.wrap ((n : Int) + 1) = (n : Int) + 1 := IntWalk.i64_in _ (by omega)
  have z6 : IntKind.i64.wrap (i : Int) = i := IntWalk.i64_in _ (by omega)
  have z7 : ¬ (n : Int) + 1 = 0 := by omega
  have z8 : ¬ (n : Int) = 0 := by omega
  have z8' : ¬ n = 0 := by omega
  obtain ⟨fx, hfx⟩ : ∃ t : Int, t = ax + vx := ⟨_, rfl⟩
  obtain ⟨fy, hfy⟩ : ∃ t : Int, t = ay + vy := ⟨_, rfl⟩
  obtain ⟨tx, htx⟩ : ∃ t : Int, t = bx + zx := ⟨_, rfl⟩
  obtain ⟨ty, hty⟩ : ∃ t : Int, t = by' + zy := ⟨_, rfl⟩
  have y1 : IntKind.i64.wrap (ax + vx) = fx := by rw [hfx]; exact IntWalk.i64_in _ (by omega)
  have y2 : IntKind.i64.wrap (ay + vy) = fy := by rw [hfy]; exact IntWalk.i64_in _ (by omega)
  have y3 : IntKind.i64.wrap (bx + zx) = tx := by rw [htx]; exact IntWalk.i64_in _ (by omega)
  have y4 : IntKind.i64.wrap (by' + zy) = ty := by rw [hty]; exact IntWalk.i64_in _ (by omega)
  obtain ⟨s, hs⟩ : ∃ s : Int, s = (n : Int) - i := ⟨_, rfl⟩
  obtain ⟨p1, hp1⟩ : ∃ t : Int, t = fx * s := ⟨_, rfl⟩
  obtain ⟨p2, hp2⟩ : ∃ t : Int, t = tx * (i : Int) := ⟨_, rfl⟩
  obtain ⟨r1, hr1⟩ : ∃ t : Int, t = fy * s := ⟨_, rfl⟩
  obtain ⟨r2, hr2⟩ : ∃ t : Int, t = ty * (i : Int) := ⟨_, rfl⟩
  obtain ⟨XX, hXX⟩ : ∃ t : Int, t = p1 + p2 := ⟨_, rfl⟩
  obtain ⟨YY, hYY⟩ : ∃ t : Int, t = r1 + r2 := ⟨_, rfl⟩
  have m1 := mul_bd (a := fx) (b := s) (by omega) (by omega) (by omega) (by omega)
  have m2 := mul_bd (a := tx) (b := (i : Int)) (by omega) (by omega) (by omega) (by omega)
  have m3 := mul_bd (a := fy) (b := s) (by omega) (by omega) (by omega) (by omega)
  have m4 := mul_bd (a := ty) (b := (i : Int)) (by omega) (by omega) (by omega) (by omega)
  have y5 : IntKind.i64.wrap ((n : Int) - (i : Int)) = s := by rw [hs]; exact IntWalk.i64_in _ (by omega)
  have y6 : IntKind.i64.wrap (fx * s) = p1 := by rw [hp1]; exact IntWalk.i64_in _ (by omega)
  have y7 : IntKind.i64.wrap (tx * (i : Int)) = p2 := by rw [hp2]; exact IntWalk.i64_in _ (by omega)
  have y8 : IntKind.i64.wrap (fy * s) = r1 := by rw [hr1]; exact IntWalk.i64_in _ (by omega)
  have y9 : IntKind.i64.wrap (ty * (i : Int)) = r2 := by rw [hr2]; exact IntWalk.i64_in _ (by omega)
  have y10 : IntKind.i64.wrap (p1 + p2) = XX := by rw [hXX]; exact IntWalk.i64_in _ (by omega)
  have y11 : IntKind.i64.wrap (r1 + r2) = YY := by rw [hYY]; exact IntWalk.i64_in _ (by omega)
  have bX := tm_bd XX n (by omega)
  have bY := tm_bd YY n (by omega)
  have hn20 : n ≤ 20 := by omega
  have hin : i ≤ n := by omega
  have HN : ∀ qx qy : Int, (n : Int) * qx = XX → (n : Int) * qy = YY → (hasB cl ⟨qx, qy⟩ = true ∧ hasE cl ⟨qx, qy⟩ = 0) ∧ placeP ⟨qx, qy⟩ = true := fun qx qy e1 e2 => HS.out s i qx qy (by omega) (by omega) (by omega) (by rw [show s + (i : Int) = n by omega, e1, hXX, hp1, hp2, hfx, htx, Int.mul_comm s, Int.mul_comm (i : Int)]) (by rw [show s + (i : Int) = n by omega, e2, hYY, hr1, hr2, hfy, hty, Int.mul_comm s, Int.mul_comm (i : Int)])
  replace HN := Lib.hid HN
  clear hXX hYY hp1 hp2 hr1 hr2 hs hfx hfy htx hty m1 m2 m3 m4 HS hsv hsz hfv hfz pa pb pa' pb' u0 u1 v0 v1 he hmo hko hjm hjk hn
  go_enter Try.func4, Try.ntmps4
  have q0 := Has.new w #[.int .i64 ax, .int .i64 ay] 38
  have q0 := q0.below ((Below.refl (w.heap.size + 1) _).alloc (by simp) (.cells #[.int .i64 bx, .int .i64 by'] 38)) (by omega)
  have q0 := q0.below ((Below.refl (w.heap.size + 2) _).alloc (by simp) (.cells #[.int .i64 vx, .int .i64 vy] 38)) (by omega)
  have q0 := q0.below ((Below.refl (w.heap.size + 3) _).alloc (by simp) (.cells #[.int .i64 zx, .int .i64 zy] 38)) (by omega)
  have q1 := Has.new (w.alloc (.cells #[.int .i64 ax, .int .i64 ay] 38)) #[.int .i64 bx, .int .i64 by'] 38
  rw [World.size_alloc] at q1
  have q1 := q1.below ((Below.refl (w.heap.size + 2) _).alloc (by simp) (.cells #[.int .i64 vx, .int .i64 vy] 38)) (by omega)
  have q1 := q1.below ((Below.refl (w.heap.size + 3) _).alloc (by simp) (.cells #[.int .i64 zx, .int .i64 zy] 38)) (by omega)
  have q2 := Has.new ((w.alloc (.cells #[.int .i64 ax, .int .i64 ay] 38)).alloc (.cells #[.int .i64 bx, .int .i64 by'] 38)) #[.int .i64 vx, .int .i64 vy] 38
  rw [World.size_alloc, World.size_alloc] at q2
  have q2 := q2.below ((Below.refl (w.heap.size + 3) _).alloc (by simp) (.cells #[.int .i64 zx, .int .i64 zy] 38)) (by omega)
  have q3 := Has.new (((w.alloc (.cells #[.int .i64 ax, .int .i64 ay] 38)).alloc (.cells #[.int .i64 bx, .int .i64 by'] 38)).alloc (.cells #[.int .i64 vx, .int .i64 vy] 38)) #[.int .i64 zx, .int .i64 zy] 38
  rw [World.size_alloc, World.size_alloc, World.size_alloc] at q3
  go_wp2_with fail
  have PA := Lib.hid (show Has ((((w.alloc (.cells #[.int .i64 ax, .int .i64 ay] 38)).alloc (.cells #[.int .i64 bx, .int .i64 by'] 38)).alloc (.cells #[.int .i64 vx, .int .i64 vy] 38)).alloc (.cells #[.int .i64 zx, .int .i64 zy] 38)) (w.heap.size) #[.int .i64 ax, .int .i64 ay] 38 from q0)
  have PB := Lib.hid (show Has ((((w.alloc (.cells #[.int .i64 ax, .int .i64 ay] 38)).alloc (.cells #[.int .i64 bx, .int .i64 by'] 38)).alloc (.cells #[.int .i64 vx, .int .i64 vy] 38)).alloc (.cells #[.int .i64 zx, .int .i64 zy] 38)) (w.heap.size + 1) #[.int .i64 bx, .int .i64 by'] 38 from q1)
  have PV := Lib.hid (show Has ((((w.alloc (.cells #[.int .i64 ax, .int .i64 ay] 38)).alloc (.cells #[.int .i64 bx, .int .i64 by'] 38)).alloc (.cells #[.int .i64 vx, .int .i64 vy] 38)).alloc (.cells #[.int .i64 zx, .int .i64 zy] 38)) (w.heap.size + 1 + 1) #[.int .i64 vx, .int .i64 vy] 38 from q2)
  have PZ := Lib.hid (show Has ((((w.alloc (.cells #[.int .i64 ax, .int .i64 ay] 38)).alloc (.cells #[.int .i64 bx, .int .i64 by'] 38)).alloc (.cells #[.int .i64 vx, .int .i64 vy] 38)).alloc (.cells #[.int .i64 zx, .int .i64 zy] 38)) (w.heap.size + 1 + 1 + 1) #[.int .i64 zx, .int .i64 zy] 38 from q3)
  have BX0 := Lib.hid (B0.out.trans (((((((Below.refl w.heap.size w).alloc (Nat.le_refl _) (.cells #[.int .i64 ax, .int .i64 ay] 38)).alloc (by simp) (.cells #[.int .i64 bx, .int .i64 by'] 38)).alloc (by simp; omega) (.cells #[.int .i64 vx, .int .i64 vy] 38)).alloc (by simp; omega) (.cells #[.int .i64 zx, .int .i64 zy] 38))).mono B0.out.size))
  generalize hXX0 : ((((w.alloc (.cells #[.int .i64 ax, .int .i64 ay] 38)).alloc (.cells #[.int .i64 bx, .int .i64 by'] 38)).alloc (.cells #[.int .i64 vx, .int .i64 vy] 38)).alloc (.cells #[.int .i64 zx, .int .i64 zy] 38)) = X0 at *
  clear hXX0
  have x0 := PA.out.cell (i := 0) rfl; have x1 := PA.out.cell (i := 1) rfl
  have y0 := PB.out.cell (i := 0) rfl; have y1 := PB.out.cell (i := 1) rfl
  have x2 := PV.out.cell (i := 0) rfl; have x3 := PV.out.cell (i := 1) rfl
  have y2 := PZ.out.cell (i := 0) rfl; have y3 := PZ.out.cell (i := 1) rfl
  clear q0 q1 q2 q3
  have hz0 := BX0.out.size
  refine (hd.out _).mono ?_
  rintro e w1 ⟨rfl, b1⟩
  have B1 := Lib.hid (BX0.out.trans (b1.mono BX0.out.size))
  replace PA := Lib.hid (PA.out.below b1 PA.out.lt)
  replace PB := Lib.hid (PB.out.below b1 PB.out.lt)
  replace PV := Lib.hid (PV.out.below b1 PV.out.lt)
  replace PZ := Lib.hid (PZ.out.below b1 PZ.out.lt)
  clear b1
  clear x0 x1 y0 y1 x2 x3 y2 y3
  have x0 := PA.out.cell (i := 0) rfl; have x1 := PA.out.cell (i := 1) rfl
  have y0 := PB.out.cell (i := 0) rfl; have y1 := PB.out.cell (i := 1) rfl
  have x2 := PV.out.cell (i := 0) rfl; have x3 := PV.out.cell (i := 1) rfl
  have y2 := PZ.out.cell (i := 0) rfl; have y3 := PZ.out.cell (i := 1) rfl
  go_wp2_with fail
  refine (s1.out _).mono ?_
  rintro e w2 ⟨rfl, b2⟩
  have B2 := Lib.hid (B1.out.trans (b2.mono B1.out.size))
  replace PA := Lib.hid (PA.out.below b2 PA.out.lt)
  replace PB := Lib.hid (PB.out.below b2 PB.out.lt)
  replace PV := Lib.hid (PV.out.below b2 PV.out.lt)
  replace PZ := Lib.hid (PZ.out.below b2 PZ.out.lt)
  clear b2
  clear x0 x1 y0 y1 x2 x3 y2 y3
  have x0 := PA.out.cell (i := 0) rfl; have x1 := PA.out.cell (i := 1) rfl
  have y0 := PB.out.cell (i := 0) rfl; have y1 := PB.out.cell (i := 1) rfl
  have x2 := PV.out.cell (i := 0) rfl; have x3 := PV.out.cell (i := 1) rfl
  have y2 := PZ.out.cell (i := 0) rfl; have y3 := PZ.out.cell (i := 1) rfl
  go_wp2_with fail
  refine (s2.out _).mono ?_
  rintro e w3 ⟨rfl, b3⟩
  have B3 := Lib.hid (B2.out.trans (b3.mono B2.out.size))
  replace PA := Lib.hid (PA.out.below b3 PA.out.lt)
  replace PB := Lib.hid (PB.out.below b3 PB.out.lt)
  replace PV := Lib.hid (PV.out.below b3 PV.out.lt)
  replace PZ := Lib.hid (PZ.out.below b3 PZ.out.lt)
  clear b3
  clear x0 x1 y0 y1 x2 x3 y2 y3
  have x0 := PA.out.cell (i := 0) rfl; have x1 := PA.out.cell (i := 1) rfl
  have y0 := PB.out.cell (i := 0) rfl; have y1 := PB.out.cell (i := 1) rfl
  have x2 := PV.out.cell (i := 0) rfl; have x3 := PV.out.cell (i := 1) rfl
  have y2 := PZ.out.cell (i := 0) rfl; have y3 := PZ.out.cell (i := 1) rfl
  go_wp2_with fail
  refine (f1.out _).mono ?_
  rintro e w4 ⟨v4, rfl, p4, b4⟩
  have B4 := Lib.hid (B3.out.trans (b4.mono B3.out.size))
  replace PA := Lib.hid (PA.out.below b4 PA.out.lt)
  replace PB := Lib.hid (PB.out.below b4 PB.out.lt)
  replace PV := Lib.hid (PV.out.below b4 PV.out.lt)
  replace PZ := Lib.hid (PZ.out.below b4 PZ.out.lt)
  obtain ⟨ga4, gc4, hv4⟩ := p4.len
  subst hv4
  have P1 := Lib.hid p4
  clear p4
  clear b4
  clear x0 x1 y0 y1 x2 x3 y2 y3
  have x0 := PA.out.cell (i := 0) rfl; have x1 := PA.out.cell (i := 1) rfl
  have y0 := PB.out.cell (i := 0) rfl; have y1 := PB.out.cell (i := 1) rfl
  have x2 := PV.out.cell (i := 0) rfl; have x3 := PV.out.cell (i := 1) rfl
  have y2 := PZ.out.cell (i := 0) rfl; have y3 := PZ.out.cell (i := 1) rfl
  go_wp2_with fail
  refine (k1.out _).mono ?_
  rintro e w5 ⟨rfl, b5⟩
  have B5 := Lib.hid (B4.out.trans (b5.mono B4.out.size))
  replace PA := Lib.hid (PA.out.below b5 PA.out.lt)
  replace PB := Lib.hid (PB.out.below b5 PB.out.lt)
  replace PV := Lib.hid (PV.out.below b5 PV.out.lt)
  replace PZ := Lib.hid (PZ.out.below b5 PZ.out.lt)
  replace P1 := Lib.hid ((P1.out.below b5).mono b5.size)
  clear b5
  clear x0 x1 y0 y1 x2 x3 y2 y3
  have x0 := PA.out.cell (i := 0) rfl; have x1 := PA.out.cell (i := 1) rfl
  have y0 := PB.out.cell (i := 0) rfl; have y1 := PB.out.cell (i := 1) rfl
  have x2 := PV.out.cell (i := 0) rfl; have x3 := PV.out.cell (i := 1) rfl
  have y2 := PZ.out.cell (i := 0) rfl; have y3 := PZ.out.cell (i := 1) rfl
  go_wp2_with fail
  refine (k2.out _).mono ?_
  rintro e w6 ⟨rfl, b6⟩
  have B6 := Lib.hid (B5.out.trans (b6.mono B5.out.size))
  replace PA := Lib.hid (PA.out.below b6 PA.out.lt)
  replace PB := Lib.hid (PB.out.below b6 PB.out.lt)
  replace PV := Lib.hid (PV.out.below b6 PV.out.lt)
  replace PZ := Lib.hid (PZ.out.below b6 PZ.out.lt)
  replace P1 := Lib.hid ((P1.out.below b6).mono b6.size)
  clear b6
  clear x0 x1 y0 y1 x2 x3 y2 y3
  have x0 := PA.out.cell (i := 0) rfl; have x1 := PA.out.cell (i := 1) rfl
  have y0 := PB.out.cell (i := 0) rfl; have y1 := PB.out.cell (i := 1) rfl
  have x2 := PV.out.cell (i := 0) rfl; have x3 := PV.out.cell (i := 1) rfl
  have y2 := PZ.out.cell (i := 0) rfl; have y3 := PZ.out.cell (i := 1) rfl
  go_upto_region 9 with fail
  go_cut [22, 23] from 77 (fun b1 b2 wx => ∃ x y, b1 = .pointer (some ⟨x, 0, none⟩) ∧ b2 = .pointer (some ⟨y, 0, none⟩) ∧ x ≠ y ∧ w6.heap.size ≤ x ∧ w6.heap.size ≤ y ∧ Has wx x #[.int .i64 fx, .int .i64 fy] 38 ∧ Has wx y #[.int .i64 tx, .int .i64 ty] 38 ∧ Below w6.heap.size w6 wx)
  case first =>
    refine (wpIn_wide (n := 9)).1 ?_
    refine wpIn_region_sched (lets_wide _) 25 (fun X => Below w6.heap.size w6 X) (by kernel_rfl) (by kernel_rfl) (by kernel_rfl) fun hH inv0 => ?_
    refine sched_take hH (i := 0) (v := .pointer (some ⟨w.heap.size, 0, none⟩)) (drop_get rfl) (by omega) inv0 (by kernel_rfl) (by kernel_rfl) rfl (fun X hX => ?_) fun inv1 => ?_
    · go_simp
    simp only [Act.put, List.setIfInBounds_toArray, List.set_cons_zero, List.set_cons_succ]
    clear inv0
    refine sched_take hH (i := 1) (v := .int .i64 ax) (drop_get rfl) (by omega) inv1 (by kernel_rfl) (by kernel_rfl) rfl (fun X hX => ?_) fun inv2 => ?_
    · have s0 := (hX.cell (p := ⟨w.heap.size, 0, none⟩) PA.out.lt).trans x0; go_simp
    simp only [Act.put, List.setIfInBounds_toArray, List.set_cons_zero, List.set_cons_succ]
    clear inv1
    refine sched_take hH (i := 2) (v := .pointer (some ⟨w.heap.size + 1 + 1, 0, none⟩)) (drop_get rfl) (by omega) inv2 (by kernel_rfl) (by kernel_rfl) rfl (fun X hX => ?_) fun inv3 => ?_
    · go_simp
    simp only [Act.put, List.setIfInBounds_toArray, List.set_cons_zero, List.set_cons_succ]
    clear inv2
    refine sched_take hH (i := 3) (v := .int .i64 vx) (drop_get rfl) (by omega) inv3 (by kernel_rfl) (by kernel_rfl) rfl (fun X hX => ?_) fun inv4 => ?_
    · have s0 := (hX.cell (p := ⟨w.heap.size + 1 + 1, 0, none⟩) PV.out.lt).trans x2; go_simp
    simp only [Act.put, List.setIfInBounds_toArray, List.set_cons_zero, List.set_cons_succ]
    clear inv3
    refine sched_take hH (i := 4) (v := .int .i64 fx) (drop_get rfl) (by omega) inv4 (by kernel_rfl) (by kernel_rfl) rfl (fun X hX => ?_) fun inv5 => ?_
    · go_simp
    simp only [Act.put, List.setIfInBounds_toArray, List.set_cons_zero, List.set_cons_succ]
    clear inv4
    refine sched_take hH (i := 5) (v := .pointer (some ⟨w.heap.size, 1, none⟩)) (drop_get rfl) (by omega) inv5 (by kernel_rfl) (by kernel_rfl) rfl (fun X hX => ?_) fun inv6 => ?_
    · go_simp
    simp only [Act.put, List.setIfInBounds_toArray, List.set_cons_zero, List.set_cons_succ]
    clear inv5
    refine sched_take hH (i := 6) (v := .int .i64 ay) (drop_get rfl) (by omega) inv6 (by kernel_rfl) (by kernel_rfl) rfl (fun X hX => ?_) fun inv7 => ?_
    · have s0 := (hX.cell (p := ⟨w.heap.size, 1, none⟩) PA.out.lt).trans x1; go_simp
    simp only [Act.put, List.setIfInBounds_toArray, List.set_cons_zero, List.set_cons_succ]
    clear inv6
    refine sched_take hH (i := 7) (v := .pointer (some ⟨w.heap.size + 1 + 1, 1, none⟩)) (drop_get rfl) (by omega) inv7 (by kernel_rfl) (by kernel_rfl) rfl (fun X hX => ?_) fun inv8 => ?_
    · go_simp
    simp only [Act.put, List.setIfInBounds_toArray, List.set_cons_zero, List.set_cons_succ]
    clear inv7
    refine sched_take hH (i := 8) (v := .int .i64 vy) (drop_get rfl) (by omega) inv8 (by kernel_rfl) (by kernel_rfl) rfl (fun X hX => ?_) fun inv9 => ?_
    · have s0 := (hX.cell (p := ⟨w.heap.size + 1 + 1, 1, none⟩) PV.out.lt).trans x3; go_simp
    simp only [Act.put, List.setIfInBounds_toArray, List.set_cons_zero, List.set_cons_succ]
    clear inv8
    refine sched_take hH (i := 9) (v := .int .i64 fy) (drop_get rfl) (by omega) inv9 (by kernel_rfl) (by kernel_rfl) rfl (fun X hX => ?_) fun inv10 => ?_
    · go_simp
    simp only [Act.put, List.setIfInBounds_toArray, List.set_cons_zero, List.set_cons_succ]
    clear inv9
    refine sched_take hH (i := 11) (v := .pointer (some ⟨w.heap.size + 1, 0, none⟩)) (drop_get rfl) (by omega) inv10 (by kernel_rfl) (by kernel_rfl) rfl (fun X hX => ?_) fun inv11 => ?_
    · go_simp
    simp only [Act.put, List.setIfInBounds_toArray, List.set_cons_zero, List.set_cons_succ]
    clear inv10
    refine sched_take hH (i := 12) (v := .int .i64 bx) (drop_get rfl) (by omega) inv11 (by kernel_rfl) (by kernel_rfl) rfl (fun X hX => ?_) fun inv12 => ?_
    · have s0 := (hX.cell (p := ⟨w.heap.size + 1, 0, none⟩) PB.out.lt).trans y0; go_simp
    simp only [Act.put, List.setIfInBounds_toArray, List.set_cons_zero, List.set_cons_succ]
    clear inv11
    refine sched_take hH (i := 13) (v := .pointer (some ⟨w.heap.size + 1 + 1 + 1, 0, none⟩)) (drop_get rfl) (by omega) inv12 (by kernel_rfl) (by kernel_rfl) rfl (fun X hX => ?_) fun inv13 => ?_
    · go_simp
    simp only [Act.put, List.setIfInBounds_toArray, List.set_cons_zero, List.set_cons_succ]
    clear inv12
    refine sched_take hH (i := 14) (v := .int .i64 zx) (drop_get rfl) (by omega) inv13 (by kernel_rfl) (by kernel_rfl) rfl (fun X hX => ?_) fun inv14 => ?_
    · have s0 := (hX.cell (p := ⟨w.heap.size + 1 + 1 + 1, 0, none⟩) PZ.out.lt).trans y2; go_simp
    simp only [Act.put, List.setIfInBounds_toArray, List.set_cons_zero, List.set_cons_succ]
    clear inv13
    refine sched_take hH (i := 15) (v := .int .i64 tx) (drop_get rfl) (by omega) inv14 (by kernel_rfl) (by kernel_rfl) rfl (fun X hX => ?_) fun inv15 => ?_
    · go_simp
    simp only [Act.put, List.setIfInBounds_toArray, List.set_cons_zero, List.set_cons_succ]
    clear inv14
    refine sched_take hH (i := 16) (v := .pointer (some ⟨w.heap.size + 1, 1, none⟩)) (drop_get rfl) (by omega) inv15 (by kernel_rfl) (by kernel_rfl) rfl (fun X hX => ?_) fun inv16 => ?_
    · go_simp
    simp only [Act.put, List.setIfInBounds_toArray, List.set_cons_zero, List.set_cons_succ]
    clear inv15
    refine sched_take hH (i := 17) (v := .int .i64 by') (drop_get rfl) (by omega) inv16 (by kernel_rfl) (by kernel_rfl) rfl (fun X hX => ?_) fun inv17 => ?_
    · have s0 := (hX.cell (p := ⟨w.heap.size + 1, 1, none⟩) PB.out.lt).trans y1; go_simp
    simp only [Act.put, List.setIfInBounds_toArray, List.set_cons_zero, List.set_cons_succ]
    clear inv16
    refine sched_take hH (i := 18) (v := .pointer (some ⟨w.heap.size + 1 + 1 + 1, 1, none⟩)) (drop_get rfl) (by omega) inv17 (by kernel_rfl) (by kernel_rfl) rfl (fun X hX => ?_) fun inv18 => ?_
    · go_simp
    simp only [Act.put, List.setIfInBounds_toArray, List.set_cons_zero, List.set_cons_succ]
    clear inv17
    refine sched_take hH (i := 19) (v := .int .i64 zy) (drop_get rfl) (by omega) inv18 (by kernel_rfl) (by kernel_rfl) rfl (fun X hX => ?_) fun inv19 => ?_
    · have s0 := (hX.cell (p := ⟨w.heap.size + 1 + 1 + 1, 1, none⟩) PZ.out.lt).trans y3; go_simp
    simp only [Act.put, List.setIfInBounds_toArray, List.set_cons_zero, List.set_cons_succ]
    clear inv18
    refine sched_take hH (i := 20) (v := .int .i64 ty) (drop_get rfl) (by omega) inv19 (by kernel_rfl) (by kernel_rfl) rfl (fun X hX => ?_) fun inv20 => ?_
    · go_simp
    simp only [Act.put, List.setIfInBounds_toArray, List.set_cons_zero, List.set_cons_succ]
    clear inv19
    clear inv20 hH
    have hS : Below w6.heap.size w6 w6.drew := Below.drew (Below.refl _ _)
    have hz0 := hS.size
    generalize w6.drew = X0 at *
    refine sched_all (rs := [10, 22, 23]) (by kernel_rfl) (by simp) hS (by simp) (fun i hi' => ?_)
    simp only [List.mem_cons, List.not_mem_nil, or_false] at hi'
    rcases hi' with rfl | rfl | rfl
    · skip
      refine okOp_call (drop_get rfl) rfl (f := 13) (args := #[.int .i64 fx, .int .i64 fy]) (by go_simp) (fa.out fx fy X0) ?_
      rintro e X1 ⟨rfl, b⟩
      refine ⟨_, rfl, ?_⟩
      simp only [Act.put, List.setIfInBounds_toArray, List.set_cons_zero, List.set_cons_succ]
      replace hS := hS.trans (b.mono hS.size)
      have hz1 := b.size
      clear b
      refine sched_all (rs := [21, 22, 23]) (by kernel_rfl) (by simp) hS (by simp) (fun i hi' => ?_)
      simp only [List.mem_cons, List.not_mem_nil, or_false] at hi'
      rcases hi' with rfl | rfl | rfl
      · skip
        refine okOp_call (drop_get rfl) rfl (f := 13) (args := #[.int .i64 tx, .int .i64 ty]) (by go_simp) (fa.out tx ty X1) ?_
        rintro e X2 ⟨rfl, b⟩
        refine ⟨_, rfl, ?_⟩
        simp only [Act.put, List.setIfInBounds_toArray, List.set_cons_zero, List.set_cons_succ]
        replace hS := hS.trans (b.mono hS.size)
        have hz2 := b.size
        clear b
        refine sched_all (rs := [22, 23]) (by kernel_rfl) (by simp) hS (by simp) (fun i hi' => ?_)
        simp only [List.mem_cons, List.not_mem_nil, or_false] at hi'
        rcases hi' with rfl | rfl
        · skip
          refine okOp_run (drop_get rfl) rfl (v := .pointer (some ⟨X2.heap.size, 0, none⟩)) (w' := X2.alloc (.cells #[.int .i64 0, .int .i64 0] 38)) (by go_simp) ?_
          simp only [Act.put, List.setIfInBounds_toArray, List.set_cons_zero, List.set_cons_succ]
          have hA1 := Has.new X2 #[.int .i64 0, .int .i64 0] 38
          replace hS := hS.alloc (by omega) (.cells #[.int .i64 0, .int .i64 0] 38)
          have hz3 : X2.heap.size < (X2.alloc (.cells #[.int .i64 0, .int .i64 0] 38)).heap.size := by simp
          generalize X2.alloc (.cells #[.int .i64 0, .int .i64 0] 38) = X3 at *
          refine sched_all (rs := [23]) (by kernel_rfl) (by simp) hS (by simp) (fun i hi' => ?_)
          simp only [List.mem_cons, List.not_mem_nil, or_false] at hi'
          subst hi'
          refine okOp_run (drop_get rfl) rfl (v := .pointer (some ⟨X3.heap.size, 0, none⟩)) (w' := X3.alloc (.cells #[.int .i64 0, .int .i64 0] 38)) (by go_simp) ?_
          simp only [Act.put, List.setIfInBounds_toArray, List.set_cons_zero, List.set_cons_succ]
          have hA2 := Has.new X3 #[.int .i64 0, .int .i64 0] 38
          replace hA1 := hA1.below ((Below.refl X3.heap.size X3).alloc (Nat.le_refl _) (.cells #[.int .i64 0, .int .i64 0] 38)) hA1.lt
          replace hS := hS.alloc (by omega) (.cells #[.int .i64 0, .int .i64 0] 38)
          have hz4 : X3.heap.size < (X3.alloc (.cells #[.int .i64 0, .int .i64 0] 38)).heap.size := by simp
          generalize X3.alloc (.cells #[.int .i64 0, .int .i64 0] 38) = X4 at *
          refine sched_all (rs := [24]) (by kernel_rfl) (by simp) hS (by simp) (fun i hi' => ?_)
          simp only [List.mem_cons, List.not_mem_nil, or_false] at hi'
          subst hi'
          refine okOp_row (drop_get rfl) rfl rfl (g := X2.heap.size) (cells := #[.int .i64 fx, .int .i64 fy]) rfl rfl hA1 (by kernel_rfl) rfl (by simp [Value.oneCell']) ?_
          simp only [Act.put, List.setIfInBounds_toArray, List.set_cons_zero, List.set_cons_succ]
          replace hA2 := Has.keep (cells := #[.int .i64 fx, .int .i64 fy]) (C := X2.heap.size) hA2 (by omega)
          replace hS := Below.setRow hS (C := X2.heap.size) (by omega) #[.int .i64 fx, .int .i64 fy]
          replace hA1 := Has.put (cells := #[.int .i64 fx, .int .i64 fy]) hA1
          generalize X4.setRow X2.heap.size #[.int .i64 fx, .int .i64 fy] = X5 at *
          refine sched_done (by kernel_rfl) hS ?_
          simp only [List.drop_succ_cons, List.drop_zero]
          refine wpListIn_row rfl rfl (g := X3.heap.size) (cells := #[.int .i64 tx, .int .i64 ty]) rfl rfl hA2 (by kernel_rfl) rfl (by simp [Value.oneCell']) ?_
          have hP2 := Has.put (cells := #[.int .i64 tx, .int .i64 ty]) hA2
          have hP1 := Has.keep (cells := #[.int .i64 tx, .int .i64 ty]) (C := X3.heap.size) hA1 (by omega)
          have hT := Below.setRow hS (C := X3.heap.size) (by omega) #[.int .i64 tx, .int .i64 ty]
          generalize X5.setRow X3.heap.size #[.int .i64 tx, .int .i64 ty] = X6 at *
          gi_wp2
          go_meet
          exact ⟨_, _, rfl, rfl, by omega, by omega, by omega, hP1, hP2, hT⟩
        · skip
          refine okOp_run (drop_get rfl) rfl (v := .pointer (some ⟨X2.heap.size, 0, none⟩)) (w' := X2.alloc (.cells #[.int .i64 0, .int .i64 0] 38)) (by go_simp) ?_
          simp only [Act.put, List.setIfInBounds_toArray, List.set_cons_zero, List.set_cons_succ]
          have hA2 := Has.new X2 #[.int .i64 0, .int .i64 0] 38
          replace hS := hS.alloc (by omega) (.cells #[.int .i64 0, .int .i64 0] 38)
          have hz3 : X2.heap.size < (X2.alloc (.cells #[.int .i64 0, .int .i64 0] 38)).heap.size := by simp
          generalize X2.alloc (.cells #[.int .i64 0, .int .i64 0] 38) = X3 at *
          refine sched_all (rs := [22]) (by kernel_rfl) (by simp) hS (by simp) (fun i hi' => ?_)
          simp only [List.mem_cons, List.not_mem_nil, or_false] at hi'
          subst hi'
          refine okOp_run (drop_get rfl) rfl (v := .pointer (some ⟨X3.heap.size, 0, none⟩)) (w' := X3.alloc (.cells #[.int .i64 0, .int .i64 0] 38)) (by go_simp) ?_
          simp only [Act.put, List.setIfInBounds_toArray, List.set_cons_zero, List.set_cons_succ]
          have hA1 := Has.new X3 #[.int .i64 0, .int .i64 0] 38
          replace hA2 := hA2.below ((Below.refl X3.heap.size X3).alloc (Nat.le_refl _) (.cells #[.int .i64 0, .int .i64 0] 38)) hA2.lt
          replace hS := hS.alloc (by omega) (.cells #[.int .i64 0, .int .i64 0] 38)
          have hz4 : X3.heap.size < (X3.alloc (.cells #[.int .i64 0, .int .i64 0] 38)).heap.size := by simp
          generalize X3.alloc (.cells #[.int .i64 0, .int .i64 0] 38) = X4 at *
          refine sched_all (rs := [24]) (by kernel_rfl) (by simp) hS (by simp) (fun i hi' => ?_)
          simp only [List.mem_cons, List.not_mem_nil, or_false] at hi'
          subst hi'
          refine okOp_row (drop_get rfl) rfl rfl (g := X3.heap.size) (cells := #[.int .i64 fx, .int .i64 fy]) rfl rfl hA1 (by kernel_rfl) rfl (by simp [Value.oneCell']) ?_
          simp only [Act.put, List.setIfInBounds_toArray, List.set_cons_zero, List.set_cons_succ]
          replace hA2 := Has.keep (cells := #[.int .i64 fx, .int .i64 fy]) (C := X3.heap.size) hA2 (by omega)
          replace hS := Below.setRow hS (C := X3.heap.size) (by omega) #[.int .i64 fx, .int .i64 fy]
          replace hA1 := Has.put (cells := #[.int .i64 fx, .int .i64 fy]) hA1
          generalize X4.setRow X3.heap.size #[.int .i64 fx, .int .i64 fy] = X5 at *
          refine sched_done (by kernel_rfl) hS ?_
          simp only [List.drop_succ_cons, List.drop_zero]
          refine wpListIn_row rfl rfl (g := X2.heap.size) (cells := #[.int .i64 tx, .int .i64 ty]) rfl rfl hA2 (by kernel_rfl) rfl (by simp [Value.oneCell']) ?_
          have hP2 := Has.put (cells := #[.int .i64 tx, .int .i64 ty]) hA2
          have hP1 := Has.keep (cells := #[.int .i64 tx, .int .i64 ty]) (C := X2.heap.size) hA1 (by omega)
          have hT := Below.setRow hS (C := X2.heap.size) (by omega) #[.int .i64 tx, .int .i64 ty]
          generalize X5.setRow X2.heap.size #[.int .i64 tx, .int .i64 ty] = X6 at *
          gi_wp2
          go_meet
          exact ⟨_, _, rfl, rfl, by omega, by omega, by omega, hP1, hP2, hT⟩
      · skip
        refine okOp_run (drop_get rfl) rfl (v := .pointer (some ⟨X1.heap.size, 0, none⟩)) (w' := X1.alloc (.cells #[.int .i64 0, .int .i64 0] 38)) (by go_simp) ?_
        simp only [Act.put, List.setIfInBounds_toArray, List.set_cons_zero, List.set_cons_succ]
        have hA1 := Has.new X1 #[.int .i64 0, .int .i64 0] 38
        replace hS := hS.alloc (by omega) (.cells #[.int .i64 0, .int .i64 0] 38)
        have hz2 : X1.heap.size < (X1.alloc (.cells #[.int .i64 0, .int .i64 0] 38)).heap.size := by simp
        generalize X1.alloc (.cells #[.int .i64 0, .int .i64 0] 38) = X2 at *
        refine sched_all (rs := [21, 23]) (by kernel_rfl) (by simp) hS (by simp) (fun i hi' => ?_)
        simp only [List.mem_cons, List.not_mem_nil, or_false] at hi'
        rcases hi' with rfl | rfl
        · skip
          refine okOp_call (drop_get rfl) rfl (f := 13) (args := #[.int .i64 tx, .int .i64 ty]) (by go_simp) (fa.out tx ty X2) ?_
          rintro e X3 ⟨rfl, b⟩
          refine ⟨_, rfl, ?_⟩
          simp only [Act.put, List.setIfInBounds_toArray, List.set_cons_zero, List.set_cons_succ]
          replace hS := hS.trans (b.mono hS.size)
          have hz3 := b.size
          replace hA1 := hA1.below b hA1.lt
          clear b
          refine sched_all (rs := [23]) (by kernel_rfl) (by simp) hS (by simp) (fun i hi' => ?_)
          simp only [List.mem_cons, List.not_mem_nil, or_false] at hi'
          subst hi'
          refine okOp_run (drop_get rfl) rfl (v := .pointer (some ⟨X3.heap.size, 0, none⟩)) (w' := X3.alloc (.cells #[.int .i64 0, .int .i64 0] 38)) (by go_simp) ?_
          simp only [Act.put, List.setIfInBounds_toArray, List.set_cons_zero, List.set_cons_succ]
          have hA2 := Has.new X3 #[.int .i64 0, .int .i64 0] 38
          replace hA1 := hA1.below ((Below.refl X3.heap.size X3).alloc (Nat.le_refl _) (.cells #[.int .i64 0, .int .i64 0] 38)) hA1.lt
          replace hS := hS.alloc (by omega) (.cells #[.int .i64 0, .int .i64 0] 38)
          have hz4 : X3.heap.size < (X3.alloc (.cells #[.int .i64 0, .int .i64 0] 38)).heap.size := by simp
          generalize X3.alloc (.cells #[.int .i64 0, .int .i64 0] 38) = X4 at *
          refine sched_all (rs := [24]) (by kernel_rfl) (by simp) hS (by simp) (fun i hi' => ?_)
          simp only [List.mem_cons, List.not_mem_nil, or_false] at hi'
          subst hi'
          refine okOp_row (drop_get rfl) rfl rfl (g := X1.heap.size) (cells := #[.int .i64 fx, .int .i64 fy]) rfl rfl hA1 (by kernel_rfl) rfl (by simp [Value.oneCell']) ?_
          simp only [Act.put, List.setIfInBounds_toArray, List.set_cons_zero, List.set_cons_succ]
          replace hA2 := Has.keep (cells := #[.int .i64 fx, .int .i64 fy]) (C := X1.heap.size) hA2 (by omega)
          replace hS := Below.setRow hS (C := X1.heap.size) (by omega) #[.int .i64 fx, .int .i64 fy]
          replace hA1 := Has.put (cells := #[.int .i64 fx, .int .i64 fy]) hA1
          generalize X4.setRow X1.heap.size #[.int .i64 fx, .int .i64 fy] = X5 at *
          refine sched_done (by kernel_rfl) hS ?_
          simp only [List.drop_succ_cons, List.drop_zero]
          refine wpListIn_row rfl rfl (g := X3.heap.size) (cells := #[.int .i64 tx, .int .i64 ty]) rfl rfl hA2 (by kernel_rfl) rfl (by simp [Value.oneCell']) ?_
          have hP2 := Has.put (cells := #[.int .i64 tx, .int .i64 ty]) hA2
          have hP1 := Has.keep (cells := #[.int .i64 tx, .int .i64 ty]) (C := X3.heap.size) hA1 (by omega)
          have hT := Below.setRow hS (C := X3.heap.size) (by omega) #[.int .i64 tx, .int .i64 ty]
          generalize X5.setRow X3.heap.size #[.int .i64 tx, .int .i64 ty] = X6 at *
          gi_wp2
          go_meet
          exact ⟨_, _, rfl, rfl, by omega, by omega, by omega, hP1, hP2, hT⟩
        · skip
          refine okOp_run (drop_get rfl) rfl (v := .pointer (some ⟨X2.heap.size, 0, none⟩)) (w' := X2.alloc (.cells #[.int .i64 0, .int .i64 0] 38)) (by go_simp) ?_
          simp only [Act.put, List.setIfInBounds_toArray, List.set_cons_zero, List.set_cons_succ]
          have hA2 := Has.new X2 #[.int .i64 0, .int .i64 0] 38
          replace hA1 := hA1.below ((Below.refl X2.heap.size X2).alloc (Nat.le_refl _) (.cells #[.int .i64 0, .int .i64 0] 38)) hA1.lt
          replace hS := hS.alloc (by omega) (.cells #[.int .i64 0, .int .i64 0] 38)
          have hz3 : X2.heap.size < (X2.alloc (.cells #[.int .i64 0, .int .i64 0] 38)).heap.size := by simp
          generalize X2.alloc (.cells #[.int .i64 0, .int .i64 0] 38) = X3 at *
          refine sched_all (rs := [21]) (by kernel_rfl) (by simp) hS (by simp) (fun i hi' => ?_)
          simp only [List.mem_cons, List.not_mem_nil, or_false] at hi'
          subst hi'
          refine okOp_call (drop_get rfl) rfl (f := 13) (args := #[.int .i64 tx, .int .i64 ty]) (by go_simp) (fa.out tx ty X3) ?_
          rintro e X4 ⟨rfl, b⟩
          refine ⟨_, rfl, ?_⟩
          simp only [Act.put, List.setIfInBounds_toArray, List.set_cons_zero, List.set_cons_succ]
          replace hS := hS.trans (b.mono hS.size)
          have hz4 := b.size
          replace hA1 := hA1.below b hA1.lt
          replace hA2 := hA2.below b hA2.lt
          clear b
          refine sched_all (rs := [24]) (by kernel_rfl) (by simp) hS (by simp) (fun i hi' => ?_)
          simp only [List.mem_cons, List.not_mem_nil, or_false] at hi'
          subst hi'
          refine okOp_row (drop_get rfl) rfl rfl (g := X1.heap.size) (cells := #[.int .i64 fx, .int .i64 fy]) rfl rfl hA1 (by kernel_rfl) rfl (by simp [Value.oneCell']) ?_
          simp only [Act.put, List.setIfInBounds_toArray, List.set_cons_zero, List.set_cons_succ]
          replace hA2 := Has.keep (cells := #[.int .i64 fx, .int .i64 fy]) (C := X1.heap.size) hA2 (by omega)
          replace hS := Below.setRow hS (C := X1.heap.size) (by omega) #[.int .i64 fx, .int .i64 fy]
          replace hA1 := Has.put (cells := #[.int .i64 fx, .int .i64 fy]) hA1
          generalize X4.setRow X1.heap.size #[.int .i64 fx, .int .i64 fy] = X5 at *
          refine sched_done (by kernel_rfl) hS ?_
          simp only [List.drop_succ_cons, List.drop_zero]
          refine wpListIn_row rfl rfl (g := X2.heap.size) (cells := #[.int .i64 tx, .int .i64 ty]) rfl rfl hA2 (by kernel_rfl) rfl (by simp [Value.oneCell']) ?_
          have hP2 := Has.put (cells := #[.int .i64 tx, .int .i64 ty]) hA2
          have hP1 := Has.keep (cells := #[.int .i64 tx, .int .i64 ty]) (C := X2.heap.size) hA1 (by omega)
          have hT := Below.setRow hS (C := X2.heap.size) (by omega) #[.int .i64 tx, .int .i64 ty]
          generalize X5.setRow X2.heap.size #[.int .i64 tx, .int .i64 ty] = X6 at *
          gi_wp2
          go_meet
          exact ⟨_, _, rfl, rfl, by omega, by omega, by omega, hP1, hP2, hT⟩
      · skip
        refine okOp_run (drop_get rfl) rfl (v := .pointer (some ⟨X1.heap.size, 0, none⟩)) (w' := X1.alloc (.cells #[.int .i64 0, .int .i64 0] 38)) (by go_simp) ?_
        simp only [Act.put, List.setIfInBounds_toArray, List.set_cons_zero, List.set_cons_succ]
        have hA2 := Has.new X1 #[.int .i64 0, .int .i64 0] 38
        replace hS := hS.alloc (by omega) (.cells #[.int .i64 0, .int .i64 0] 38)
        have hz2 : X1.heap.size < (X1.alloc (.cells #[.int .i64 0, .int .i64 0] 38)).heap.size := by simp
        generalize X1.alloc (.cells #[.int .i64 0, .int .i64 0] 38) = X2 at *
        refine sched_all (rs := [21, 22]) (by kernel_rfl) (by simp) hS (by simp) (fun i hi' => ?_)
        simp only [List.mem_cons, List.not_mem_nil, or_false] at hi'
        rcases hi' with rfl | rfl
        · skip
          refine okOp_call (drop_get rfl) rfl (f := 13) (args := #[.int .i64 tx, .int .i64 ty]) (by go_simp) (fa.out tx ty X2) ?_
          rintro e X3 ⟨rfl, b⟩
          refine ⟨_, rfl, ?_⟩
          simp only [Act.put, List.setIfInBounds_toArray, List.set_cons_zero, List.set_cons_succ]
          replace hS := hS.trans (b.mono hS.size)
          have hz3 := b.size
          replace hA2 := hA2.below b hA2.lt
          clear b
          refine sched_all (rs := [22]) (by kernel_rfl) (by simp) hS (by simp) (fun i hi' => ?_)
          simp only [List.mem_cons, List.not_mem_nil, or_false] at hi'
          subst hi'
          refine okOp_run (drop_get rfl) rfl (v := .pointer (some ⟨X3.heap.size, 0, none⟩)) (w' := X3.alloc (.cells #[.int .i64 0, .int .i64 0] 38)) (by go_simp) ?_
          simp only [Act.put, List.setIfInBounds_toArray, List.set_cons_zero, List.set_cons_succ]
          have hA1 := Has.new X3 #[.int .i64 0, .int .i64 0] 38
          replace hA2 := hA2.below ((Below.refl X3.heap.size X3).alloc (Nat.le_refl _) (.cells #[.int .i64 0, .int .i64 0] 38)) hA2.lt
          replace hS := hS.alloc (by omega) (.cells #[.int .i64 0, .int .i64 0] 38)
          have hz4 : X3.heap.size < (X3.alloc (.cells #[.int .i64 0, .int .i64 0] 38)).heap.size := by simp
          generalize X3.alloc (.cells #[.int .i64 0, .int .i64 0] 38) = X4 at *
          refine sched_all (rs := [24]) (by kernel_rfl) (by simp) hS (by simp) (fun i hi' => ?_)
          simp only [List.mem_cons, List.not_mem_nil, or_false] at hi'
          subst hi'
          refine okOp_row (drop_get rfl) rfl rfl (g := X3.heap.size) (cells := #[.int .i64 fx, .int .i64 fy]) rfl rfl hA1 (by kernel_rfl) rfl (by simp [Value.oneCell']) ?_
          simp only [Act.put, List.setIfInBounds_toArray, List.set_cons_zero, List.set_cons_succ]
          replace hA2 := Has.keep (cells := #[.int .i64 fx, .int .i64 fy]) (C := X3.heap.size) hA2 (by omega)
          replace hS := Below.setRow hS (C := X3.heap.size) (by omega) #[.int .i64 fx, .int .i64 fy]
          replace hA1 := Has.put (cells := #[.int .i64 fx, .int .i64 fy]) hA1
          generalize X4.setRow X3.heap.size #[.int .i64 fx, .int .i64 fy] = X5 at *
          refine sched_done (by kernel_rfl) hS ?_
          simp only [List.drop_succ_cons, List.drop_zero]
          refine wpListIn_row rfl rfl (g := X1.heap.size) (cells := #[.int .i64 tx, .int .i64 ty]) rfl rfl hA2 (by kernel_rfl) rfl (by simp [Value.oneCell']) ?_
          have hP2 := Has.put (cells := #[.int .i64 tx, .int .i64 ty]) hA2
          have hP1 := Has.keep (cells := #[.int .i64 tx, .int .i64 ty]) (C := X1.heap.size) hA1 (by omega)
          have hT := Below.setRow hS (C := X1.heap.size) (by omega) #[.int .i64 tx, .int .i64 ty]
          generalize X5.setRow X1.heap.size #[.int .i64 tx, .int .i64 ty] = X6 at *
          gi_wp2
          go_meet
          exact ⟨_, _, rfl, rfl, by omega, by omega, by omega, hP1, hP2, hT⟩
        · skip
          refine okOp_run (drop_get rfl) rfl (v := .pointer (some ⟨X2.heap.size, 0, none⟩)) (w' := X2.alloc (.cells #[.int .i64 0, .int .i64 0] 38)) (by go_simp) ?_
          simp only [Act.put, List.setIfInBounds_toArray, List.set_cons_zero, List.set_cons_succ]
          have hA1 := Has.new X2 #[.int .i64 0, .int .i64 0] 38
          replace hA2 := hA2.below ((Below.refl X2.heap.size X2).alloc (Nat.le_refl _) (.cells #[.int .i64 0, .int .i64 0] 38)) hA2.lt
          replace hS := hS.alloc (by omega) (.cells #[.int .i64 0, .int .i64 0] 38)
          have hz3 : X2.heap.size < (X2.alloc (.cells #[.int .i64 0, .int .i64 0] 38)).heap.size := by simp
          generalize X2.alloc (.cells #[.int .i64 0, .int .i64 0] 38) = X3 at *
          refine sched_all (rs := [21]) (by kernel_rfl) (by simp) hS (by simp) (fun i hi' => ?_)
          simp only [List.mem_cons, List.not_mem_nil, or_false] at hi'
          subst hi'
          refine okOp_call (drop_get rfl) rfl (f := 13) (args := #[.int .i64 tx, .int .i64 ty]) (by go_simp) (fa.out tx ty X3) ?_
          rintro e X4 ⟨rfl, b⟩
          refine ⟨_, rfl, ?_⟩
          simp only [Act.put, List.setIfInBounds_toArray, List.set_cons_zero, List.set_cons_succ]
          replace hS := hS.trans (b.mono hS.size)
          have hz4 := b.size
          replace hA1 := hA1.below b hA1.lt
          replace hA2 := hA2.below b hA2.lt
          clear b
          refine sched_all (rs := [24]) (by kernel_rfl) (by simp) hS (by simp) (fun i hi' => ?_)
          simp only [List.mem_cons, List.not_mem_nil, or_false] at hi'
          subst hi'
          refine okOp_row (drop_get rfl) rfl rfl (g := X2.heap.size) (cells := #[.int .i64 fx, .int .i64 fy]) rfl rfl hA1 (by kernel_rfl) rfl (by simp [Value.oneCell']) ?_
          simp only [Act.put, List.setIfInBounds_toArray, List.set_cons_zero, List.set_cons_succ]
          replace hA2 := Has.keep (cells := #[.int .i64 fx, .int .i64 fy]) (C := X2.heap.size) hA2 (by omega)
          replace hS := Below.setRow hS (C := X2.heap.size) (by omega) #[.int .i64 fx, .int .i64 fy]
          replace hA1 := Has.put (cells := #[.int .i64 fx, .int .i64 fy]) hA1
          generalize X4.setRow X2.heap.size #[.int .i64 fx, .int .i64 fy] = X5 at *
          refine sched_done (by kernel_rfl) hS ?_
          simp only [List.drop_succ_cons, List.drop_zero]
          refine wpListIn_row rfl rfl (g := X1.heap.size) (cells := #[.int .i64 tx, .int .i64 ty]) rfl rfl hA2 (by kernel_rfl) rfl (by simp [Value.oneCell']) ?_
          have hP2 := Has.put (cells := #[.int .i64 tx, .int .i64 ty]) hA2
          have hP1 := Has.keep (cells := #[.int .i64 tx, .int .i64 ty]) (C := X1.heap.size) hA1 (by omega)
          have hT := Below.setRow hS (C := X1.heap.size) (by omega) #[.int .i64 tx, .int .i64 ty]
          generalize X5.setRow X1.heap.size #[.int .i64 tx, .int .i64 ty] = X6 at *
          gi_wp2
          go_meet
          exact ⟨_, _, rfl, rfl, by omega, by omega, by omega, hP1, hP2, hT⟩
    · skip
      refine okOp_run (drop_get rfl) rfl (v := .pointer (some ⟨X0.heap.size, 0, none⟩)) (w' := X0.alloc (.cells #[.int .i64 0, .int .i64 0] 38)) (by go_simp) ?_
      simp only [Act.put, List.setIfInBounds_toArray, List.set_cons_zero, List.set_cons_succ]
      have hA1 := Has.new X0 #[.int .i64 0, .int .i64 0] 38
      replace hS := hS.alloc (by omega) (.cells #[.int .i64 0, .int .i64 0] 38)
      have hz1 : X0.heap.size < (X0.alloc (.cells #[.int .i64 0, .int .i64 0] 38)).heap.size := by simp
      generalize X0.alloc (.cells #[.int .i64 0, .int .i64 0] 38) = X1 at *
      refine sched_all (rs := [10, 23]) (by kernel_rfl) (by simp) hS (by simp) (fun i hi' => ?_)
      simp only [List.mem_cons, List.not_mem_nil, or_false] at hi'
      rcases hi' with rfl | rfl
      · skip
        refine okOp_call (drop_get rfl) rfl (f := 13) (args := #[.int .i64 fx, .int .i64 fy]) (by go_simp) (fa.out fx fy X1) ?_
        rintro e X2 ⟨rfl, b⟩
        refine ⟨_, rfl, ?_⟩
        simp only [Act.put, List.setIfInBounds_toArray, List.set_cons_zero, List.set_cons_succ]
        replace hS := hS.trans (b.mono hS.size)
        have hz2 := b.size
        replace hA1 := hA1.below b hA1.lt
        clear b
        refine sched_all (rs := [21, 23]) (by kernel_rfl) (by simp) hS (by simp) (fun i hi' => ?_)
        simp only [List.mem_cons, List.not_mem_nil, or_false] at hi'
        rcases hi' with rfl | rfl
        · skip
          refine okOp_call (drop_get rfl) rfl (f := 13) (args := #[.int .i64 tx, .int .i64 ty]) (by go_simp) (fa.out tx ty X2) ?_
          rintro e X3 ⟨rfl, b⟩
          refine ⟨_, rfl, ?_⟩
          simp only [Act.put, List.setIfInBounds_toArray, List.set_cons_zero, List.set_cons_succ]
          replace hS := hS.trans (b.mono hS.size)
          have hz3 := b.size
          replace hA1 := hA1.below b hA1.lt
          clear b
          refine sched_all (rs := [23]) (by kernel_rfl) (by simp) hS (by simp) (fun i hi' => ?_)
          simp only [List.mem_cons, List.not_mem_nil, or_false] at hi'
          subst hi'
          refine okOp_run (drop_get rfl) rfl (v := .pointer (some ⟨X3.heap.size, 0, none⟩)) (w' := X3.alloc (.cells #[.int .i64 0, .int .i64 0] 38)) (by go_simp) ?_
          simp only [Act.put, List.setIfInBounds_toArray, List.set_cons_zero, List.set_cons_succ]
          have hA2 := Has.new X3 #[.int .i64 0, .int .i64 0] 38
          replace hA1 := hA1.below ((Below.refl X3.heap.size X3).alloc (Nat.le_refl _) (.cells #[.int .i64 0, .int .i64 0] 38)) hA1.lt
          replace hS := hS.alloc (by omega) (.cells #[.int .i64 0, .int .i64 0] 38)
          have hz4 : X3.heap.size < (X3.alloc (.cells #[.int .i64 0, .int .i64 0] 38)).heap.size := by simp
          generalize X3.alloc (.cells #[.int .i64 0, .int .i64 0] 38) = X4 at *
          refine sched_all (rs := [24]) (by kernel_rfl) (by simp) hS (by simp) (fun i hi' => ?_)
          simp only [List.mem_cons, List.not_mem_nil, or_false] at hi'
          subst hi'
          refine okOp_row (drop_get rfl) rfl rfl (g := X0.heap.size) (cells := #[.int .i64 fx, .int .i64 fy]) rfl rfl hA1 (by kernel_rfl) rfl (by simp [Value.oneCell']) ?_
          simp only [Act.put, List.setIfInBounds_toArray, List.set_cons_zero, List.set_cons_succ]
          replace hA2 := Has.keep (cells := #[.int .i64 fx, .int .i64 fy]) (C := X0.heap.size) hA2 (by omega)
          replace hS := Below.setRow hS (C := X0.heap.size) (by omega) #[.int .i64 fx, .int .i64 fy]
          replace hA1 := Has.put (cells := #[.int .i64 fx, .int .i64 fy]) hA1
          generalize X4.setRow X0.heap.size #[.int .i64 fx, .int .i64 fy] = X5 at *
          refine sched_done (by kernel_rfl) hS ?_
          simp only [List.drop_succ_cons, List.drop_zero]
          refine wpListIn_row rfl rfl (g := X3.heap.size) (cells := #[.int .i64 tx, .int .i64 ty]) rfl rfl hA2 (by kernel_rfl) rfl (by simp [Value.oneCell']) ?_
          have hP2 := Has.put (cells := #[.int .i64 tx, .int .i64 ty]) hA2
          have hP1 := Has.keep (cells := #[.int .i64 tx, .int .i64 ty]) (C := X3.heap.size) hA1 (by omega)
          have hT := Below.setRow hS (C := X3.heap.size) (by omega) #[.int .i64 tx, .int .i64 ty]
          generalize X5.setRow X3.heap.size #[.int .i64 tx, .int .i64 ty] = X6 at *
          gi_wp2
          go_meet
          exact ⟨_, _, rfl, rfl, by omega, by omega, by omega, hP1, hP2, hT⟩
        · skip
          refine okOp_run (drop_get rfl) rfl (v := .pointer (some ⟨X2.heap.size, 0, none⟩)) (w' := X2.alloc (.cells #[.int .i64 0, .int .i64 0] 38)) (by go_simp) ?_
          simp only [Act.put, List.setIfInBounds_toArray, List.set_cons_zero, List.set_cons_succ]
          have hA2 := Has.new X2 #[.int .i64 0, .int .i64 0] 38
          replace hA1 := hA1.below ((Below.refl X2.heap.size X2).alloc (Nat.le_refl _) (.cells #[.int .i64 0, .int .i64 0] 38)) hA1.lt
          replace hS := hS.alloc (by omega) (.cells #[.int .i64 0, .int .i64 0] 38)
          have hz3 : X2.heap.size < (X2.alloc (.cells #[.int .i64 0, .int .i64 0] 38)).heap.size := by simp
          generalize X2.alloc (.cells #[.int .i64 0, .int .i64 0] 38) = X3 at *
          refine sched_all (rs := [21]) (by kernel_rfl) (by simp) hS (by simp) (fun i hi' => ?_)
          simp only [List.mem_cons, List.not_mem_nil, or_false] at hi'
          subst hi'
          refine okOp_call (drop_get rfl) rfl (f := 13) (args := #[.int .i64 tx, .int .i64 ty]) (by go_simp) (fa.out tx ty X3) ?_
          rintro e X4 ⟨rfl, b⟩
          refine ⟨_, rfl, ?_⟩
          simp only [Act.put, List.setIfInBounds_toArray, List.set_cons_zero, List.set_cons_succ]
          replace hS := hS.trans (b.mono hS.size)
          have hz4 := b.size
          replace hA1 := hA1.below b hA1.lt
          replace hA2 := hA2.below b hA2.lt
          clear b
          refine sched_all (rs := [24]) (by kernel_rfl) (by simp) hS (by simp) (fun i hi' => ?_)
          simp only [List.mem_cons, List.not_mem_nil, or_false] at hi'
          subst hi'
          refine okOp_row (drop_get rfl) rfl rfl (g := X0.heap.size) (cells := #[.int .i64 fx, .int .i64 fy]) rfl rfl hA1 (by kernel_rfl) rfl (by simp [Value.oneCell']) ?_
          simp only [Act.put, List.setIfInBounds_toArray, List.set_cons_zero, List.set_cons_succ]
          replace hA2 := Has.keep (cells := #[.int .i64 fx, .int .i64 fy]) (C := X0.heap.size) hA2 (by omega)
          replace hS := Below.setRow hS (C := X0.heap.size) (by omega) #[.int .i64 fx, .int .i64 fy]
          replace hA1 := Has.put (cells := #[.int .i64 fx, .int .i64 fy]) hA1
          generalize X4.setRow X0.heap.size #[.int .i64 fx, .int .i64 fy] = X5 at *
          refine sched_done (by kernel_rfl) hS ?_
          simp only [List.drop_succ_cons, List.drop_zero]
          refine wpListIn_row rfl rfl (g := X2.heap.size) (cells := #[.int .i64 tx, .int .i64 ty]) rfl rfl hA2 (by kernel_rfl) rfl (by simp [Value.oneCell']) ?_
          have hP2 := Has.put (cells := #[.int .i64 tx, .int .i64 ty]) hA2
          have hP1 := Has.keep (cells := #[.int .i64 tx, .int .i64 ty]) (C := X2.heap.size) hA1 (by omega)
          have hT := Below.setRow hS (C := X2.heap.size) (by omega) #[.int .i64 tx, .int .i64 ty]
          generalize X5.setRow X2.heap.size #[.int .i64 tx, .int .i64 ty] = X6 at *
          gi_wp2
          go_meet
          exact ⟨_, _, rfl, rfl, by omega, by omega, by omega, hP1, hP2, hT⟩
      · skip
        refine okOp_run (drop_get rfl) rfl (v := .pointer (some ⟨X1.heap.size, 0, none⟩)) (w' := X1.alloc (.cells #[.int .i64 0, .int .i64 0] 38)) (by go_simp) ?_
        simp only [Act.put, List.setIfInBounds_toArray, List.set_cons_zero, List.set_cons_succ]
        have hA2 := Has.new X1 #[.int .i64 0, .int .i64 0] 38
        replace hA1 := hA1.below ((Below.refl X1.heap.size X1).alloc (Nat.le_refl _) (.cells #[.int .i64 0, .int .i64 0] 38)) hA1.lt
        replace hS := hS.alloc (by omega) (.cells #[.int .i64 0, .int .i64 0] 38)
        have hz2 : X1.heap.size < (X1.alloc (.cells #[.int .i64 0, .int .i64 0] 38)).heap.size := by simp
        generalize X1.alloc (.cells #[.int .i64 0, .int .i64 0] 38) = X2 at *
        refine sched_all (rs := [10]) (by kernel_rfl) (by simp) hS (by simp) (fun i hi' => ?_)
        simp only [List.mem_cons, List.not_mem_nil, or_false] at hi'
        subst hi'
        refine okOp_call (drop_get rfl) rfl (f := 13) (args := #[.int .i64 fx, .int .i64 fy]) (by go_simp) (fa.out fx fy X2) ?_
        rintro e X3 ⟨rfl, b⟩
        refine ⟨_, rfl, ?_⟩
        simp only [Act.put, List.setIfInBounds_toArray, List.set_cons_zero, List.set_cons_succ]
        replace hS := hS.trans (b.mono hS.size)
        have hz3 := b.size
        replace hA1 := hA1.below b hA1.lt
        replace hA2 := hA2.below b hA2.lt
        clear b
        refine sched_all (rs := [21]) (by kernel_rfl) (by simp) hS (by simp) (fun i hi' => ?_)
        simp only [List.mem_cons, List.not_mem_nil, or_false] at hi'
        subst hi'
        refine okOp_call (drop_get rfl) rfl (f := 13) (args := #[.int .i64 tx, .int .i64 ty]) (by go_simp) (fa.out tx ty X3) ?_
        rintro e X4 ⟨rfl, b⟩
        refine ⟨_, rfl, ?_⟩
        simp only [Act.put, List.setIfInBounds_toArray, List.set_cons_zero, List.set_cons_succ]
        replace hS := hS.trans (b.mono hS.size)
        have hz4 := b.size
        replace hA1 := hA1.below b hA1.lt
        replace hA2 := hA2.below b hA2.lt
        clear b
        refine sched_all (rs := [24]) (by kernel_rfl) (by simp) hS (by simp) (fun i hi' => ?_)
        simp only [List.mem_cons, List.not_mem_nil, or_false] at hi'
        subst hi'
        refine okOp_row (drop_get rfl) rfl rfl (g := X0.heap.size) (cells := #[.int .i64 fx, .int .i64 fy]) rfl rfl hA1 (by kernel_rfl) rfl (by simp [Value.oneCell']) ?_
        simp only [Act.put, List.setIfInBounds_toArray, List.set_cons_zero, List.set_cons_succ]
        replace hA2 := Has.keep (cells := #[.int .i64 fx, .int .i64 fy]) (C := X0.heap.size) hA2 (by omega)
        replace hS := Below.setRow hS (C := X0.heap.size) (by omega) #[.int .i64 fx, .int .i64 fy]
        replace hA1 := Has.put (cells := #[.int .i64 fx, .int .i64 fy]) hA1
        generalize X4.setRow X0.heap.size #[.int .i64 fx, .int .i64 fy] = X5 at *
        refine sched_done (by kernel_rfl) hS ?_
        simp only [List.drop_succ_cons, List.drop_zero]
        refine wpListIn_row rfl rfl (g := X1.heap.size) (cells := #[.int .i64 tx, .int .i64 ty]) rfl rfl hA2 (by kernel_rfl) rfl (by simp [Value.oneCell']) ?_
        have hP2 := Has.put (cells := #[.int .i64 tx, .int .i64 ty]) hA2
        have hP1 := Has.keep (cells := #[.int .i64 tx, .int .i64 ty]) (C := X1.heap.size) hA1 (by omega)
        have hT := Below.setRow hS (C := X1.heap.size) (by omega) #[.int .i64 tx, .int .i64 ty]
        generalize X5.setRow X1.heap.size #[.int .i64 tx, .int .i64 ty] = X6 at *
        gi_wp2
        go_meet
        exact ⟨_, _, rfl, rfl, by omega, by omega, by omega, hP1, hP2, hT⟩
    · skip
      refine okOp_run (drop_get rfl) rfl (v := .pointer (some ⟨X0.heap.size, 0, none⟩)) (w' := X0.alloc (.cells #[.int .i64 0, .int .i64 0] 38)) (by go_simp) ?_
      simp only [Act.put, List.setIfInBounds_toArray, List.set_cons_zero, List.set_cons_succ]
      have hA2 := Has.new X0 #[.int .i64 0, .int .i64 0] 38
      replace hS := hS.alloc (by omega) (.cells #[.int .i64 0, .int .i64 0] 38)
      have hz1 : X0.heap.size < (X0.alloc (.cells #[.int .i64 0, .int .i64 0] 38)).heap.size := by simp
      generalize X0.alloc (.cells #[.int .i64 0, .int .i64 0] 38) = X1 at *
      refine sched_all (rs := [10, 22]) (by kernel_rfl) (by simp) hS (by simp) (fun i hi' => ?_)
      simp only [List.mem_cons, List.not_mem_nil, or_false] at hi'
      rcases hi' with rfl | rfl
      · skip
        refine okOp_call (drop_get rfl) rfl (f := 13) (args := #[.int .i64 fx, .int .i64 fy]) (by go_simp) (fa.out fx fy X1) ?_
        rintro e X2 ⟨rfl, b⟩
        refine ⟨_, rfl, ?_⟩
        simp only [Act.put, List.setIfInBounds_toArray, List.set_cons_zero, List.set_cons_succ]
        replace hS := hS.trans (b.mono hS.size)
        have hz2 := b.size
        replace hA2 := hA2.below b hA2.lt
        clear b
        refine sched_all (rs := [21, 22]) (by kernel_rfl) (by simp) hS (by simp) (fun i hi' => ?_)
        simp only [List.mem_cons, List.not_mem_nil, or_false] at hi'
        rcases hi' with rfl | rfl
        · skip
          refine okOp_call (drop_get rfl) rfl (f := 13) (args := #[.int .i64 tx, .int .i64 ty]) (by go_simp) (fa.out tx ty X2) ?_
          rintro e X3 ⟨rfl, b⟩
          refine ⟨_, rfl, ?_⟩
          simp only [Act.put, List.setIfInBounds_toArray, List.set_cons_zero, List.set_cons_succ]
          replace hS := hS.trans (b.mono hS.size)
          have hz3 := b.size
          replace hA2 := hA2.below b hA2.lt
          clear b
          refine sched_all (rs := [22]) (by kernel_rfl) (by simp) hS (by simp) (fun i hi' => ?_)
          simp only [List.mem_cons, List.not_mem_nil, or_false] at hi'
          subst hi'
          refine okOp_run (drop_get rfl) rfl (v := .pointer (some ⟨X3.heap.size, 0, none⟩)) (w' := X3.alloc (.cells #[.int .i64 0, .int .i64 0] 38)) (by go_simp) ?_
          simp only [Act.put, List.setIfInBounds_toArray, List.set_cons_zero, List.set_cons_succ]
          have hA1 := Has.new X3 #[.int .i64 0, .int .i64 0] 38
          replace hA2 := hA2.below ((Below.refl X3.heap.size X3).alloc (Nat.le_refl _) (.cells #[.int .i64 0, .int .i64 0] 38)) hA2.lt
          replace hS := hS.alloc (by omega) (.cells #[.int .i64 0, .int .i64 0] 38)
          have hz4 : X3.heap.size < (X3.alloc (.cells #[.int .i64 0, .int .i64 0] 38)).heap.size := by simp
          generalize X3.alloc (.cells #[.int .i64 0, .int .i64 0] 38) = X4 at *
          refine sched_all (rs := [24]) (by kernel_rfl) (by simp) hS (by simp) (fun i hi' => ?_)
          simp only [List.mem_cons, List.not_mem_nil, or_false] at hi'
          subst hi'
          refine okOp_row (drop_get rfl) rfl rfl (g := X3.heap.size) (cells := #[.int .i64 fx, .int .i64 fy]) rfl rfl hA1 (by kernel_rfl) rfl (by simp [Value.oneCell']) ?_
          simp only [Act.put, List.setIfInBounds_toArray, List.set_cons_zero, List.set_cons_succ]
          replace hA2 := Has.keep (cells := #[.int .i64 fx, .int .i64 fy]) (C := X3.heap.size) hA2 (by omega)
          replace hS := Below.setRow hS (C := X3.heap.size) (by omega) #[.int .i64 fx, .int .i64 fy]
          replace hA1 := Has.put (cells := #[.int .i64 fx, .int .i64 fy]) hA1
          generalize X4.setRow X3.heap.size #[.int .i64 fx, .int .i64 fy] = X5 at *
          refine sched_done (by kernel_rfl) hS ?_
          simp only [List.drop_succ_cons, List.drop_zero]
          refine wpListIn_row rfl rfl (g := X0.heap.size) (cells := #[.int .i64 tx, .int .i64 ty]) rfl rfl hA2 (by kernel_rfl) rfl (by simp [Value.oneCell']) ?_
          have hP2 := Has.put (cells := #[.int .i64 tx, .int .i64 ty]) hA2
          have hP1 := Has.keep (cells := #[.int .i64 tx, .int .i64 ty]) (C := X0.heap.size) hA1 (by omega)
          have hT := Below.setRow hS (C := X0.heap.size) (by omega) #[.int .i64 tx, .int .i64 ty]
          generalize X5.setRow X0.heap.size #[.int .i64 tx, .int .i64 ty] = X6 at *
          gi_wp2
          go_meet
          exact ⟨_, _, rfl, rfl, by omega, by omega, by omega, hP1, hP2, hT⟩
        · skip
          refine okOp_run (drop_get rfl) rfl (v := .pointer (some ⟨X2.heap.size, 0, none⟩)) (w' := X2.alloc (.cells #[.int .i64 0, .int .i64 0] 38)) (by go_simp) ?_
          simp only [Act.put, List.setIfInBounds_toArray, List.set_cons_zero, List.set_cons_succ]
          have hA1 := Has.new X2 #[.int .i64 0, .int .i64 0] 38
          replace hA2 := hA2.below ((Below.refl X2.heap.size X2).alloc (Nat.le_refl _) (.cells #[.int .i64 0, .int .i64 0] 38)) hA2.lt
          replace hS := hS.alloc (by omega) (.cells #[.int .i64 0, .int .i64 0] 38)
          have hz3 : X2.heap.size < (X2.alloc (.cells #[.int .i64 0, .int .i64 0] 38)).heap.size := by simp
          generalize X2.alloc (.cells #[.int .i64 0, .int .i64 0] 38) = X3 at *
          refine sched_all (rs := [21]) (by kernel_rfl) (by simp) hS (by simp) (fun i hi' => ?_)
          simp only [List.mem_cons, List.not_mem_nil, or_false] at hi'
          subst hi'
          refine okOp_call (drop_get rfl) rfl (f := 13) (args := #[.int .i64 tx, .int .i64 ty]) (by go_simp) (fa.out tx ty X3) ?_
          rintro e X4 ⟨rfl, b⟩
          refine ⟨_, rfl, ?_⟩
          simp only [Act.put, List.setIfInBounds_toArray, List.set_cons_zero, List.set_cons_succ]
          replace hS := hS.trans (b.mono hS.size)
          have hz4 := b.size
          replace hA1 := hA1.below b hA1.lt
          replace hA2 := hA2.below b hA2.lt
          clear b
          refine sched_all (rs := [24]) (by kernel_rfl) (by simp) hS (by simp) (fun i hi' => ?_)
          simp only [List.mem_cons, List.not_mem_nil, or_false] at hi'
          subst hi'
          refine okOp_row (drop_get rfl) rfl rfl (g := X2.heap.size) (cells := #[.int .i64 fx, .int .i64 fy]) rfl rfl hA1 (by kernel_rfl) rfl (by simp [Value.oneCell']) ?_
          simp only [Act.put, List.setIfInBounds_toArray, List.set_cons_zero, List.set_cons_succ]
          replace hA2 := Has.keep (cells := #[.int .i64 fx, .int .i64 fy]) (C := X2.heap.size) hA2 (by omega)
          replace hS := Below.setRow hS (C := X2.heap.size) (by omega) #[.int .i64 fx, .int .i64 fy]
          replace hA1 := Has.put (cells := #[.int .i64 fx, .int .i64 fy]) hA1
          generalize X4.setRow X2.heap.size #[.int .i64 fx, .int .i64 fy] = X5 at *
          refine sched_done (by kernel_rfl) hS ?_
          simp only [List.drop_succ_cons, List.drop_zero]
          refine wpListIn_row rfl rfl (g := X0.heap.size) (cells := #[.int .i64 tx, .int .i64 ty]) rfl rfl hA2 (by kernel_rfl) rfl (by simp [Value.oneCell']) ?_
          have hP2 := Has.put (cells := #[.int .i64 tx, .int .i64 ty]) hA2
          have hP1 := Has.keep (cells := #[.int .i64 tx, .int .i64 ty]) (C := X0.heap.size) hA1 (by omega)
          have hT := Below.setRow hS (C := X0.heap.size) (by omega) #[.int .i64 tx, .int .i64 ty]
          generalize X5.setRow X0.heap.size #[.int .i64 tx, .int .i64 ty] = X6 at *
          gi_wp2
          go_meet
          exact ⟨_, _, rfl, rfl, by omega, by omega, by omega, hP1, hP2, hT⟩
      · skip
        refine okOp_run (drop_get rfl) rfl (v := .pointer (some ⟨X1.heap.size, 0, none⟩)) (w' := X1.alloc (.cells #[.int .i64 0, .int .i64 0] 38)) (by go_simp) ?_
        simp only [Act.put, List.setIfInBounds_toArray, List.set_cons_zero, List.set_cons_succ]
        have hA1 := Has.new X1 #[.int .i64 0, .int .i64 0] 38
        replace hA2 := hA2.below ((Below.refl X1.heap.size X1).alloc (Nat.le_refl _) (.cells #[.int .i64 0, .int .i64 0] 38)) hA2.lt
        replace hS := hS.alloc (by omega) (.cells #[.int .i64 0, .int .i64 0] 38)
        have hz2 : X1.heap.size < (X1.alloc (.cells #[.int .i64 0, .int .i64 0] 38)).heap.size := by simp
        generalize X1.alloc (.cells #[.int .i64 0, .int .i64 0] 38) = X2 at *
        refine sched_all (rs := [10]) (by kernel_rfl) (by simp) hS (by simp) (fun i hi' => ?_)
        simp only [List.mem_cons, List.not_mem_nil, or_false] at hi'
        subst hi'
        refine okOp_call (drop_get rfl) rfl (f := 13) (args := #[.int .i64 fx, .int .i64 fy]) (by go_simp) (fa.out fx fy X2) ?_
        rintro e X3 ⟨rfl, b⟩
        refine ⟨_, rfl, ?_⟩
        simp only [Act.put, List.setIfInBounds_toArray, List.set_cons_zero, List.set_cons_succ]
        replace hS := hS.trans (b.mono hS.size)
        have hz3 := b.size
        replace hA1 := hA1.below b hA1.lt
        replace hA2 := hA2.below b hA2.lt
        clear b
        refine sched_all (rs := [21]) (by kernel_rfl) (by simp) hS (by simp) (fun i hi' => ?_)
        simp only [List.mem_cons, List.not_mem_nil, or_false] at hi'
        subst hi'
        refine okOp_call (drop_get rfl) rfl (f := 13) (args := #[.int .i64 tx, .int .i64 ty]) (by go_simp) (fa.out tx ty X3) ?_
        rintro e X4 ⟨rfl, b⟩
        refine ⟨_, rfl, ?_⟩
        simp only [Act.put, List.setIfInBounds_toArray, List.set_cons_zero, List.set_cons_succ]
        replace hS := hS.trans (b.mono hS.size)
        have hz4 := b.size
        replace hA1 := hA1.below b hA1.lt
        replace hA2 := hA2.below b hA2.lt
        clear b
        refine sched_all (rs := [24]) (by kernel_rfl) (by simp) hS (by simp) (fun i hi' => ?_)
        simp only [List.mem_cons, List.not_mem_nil, or_false] at hi'
        subst hi'
        refine okOp_row (drop_get rfl) rfl rfl (g := X1.heap.size) (cells := #[.int .i64 fx, .int .i64 fy]) rfl rfl hA1 (by kernel_rfl) rfl (by simp [Value.oneCell']) ?_
        simp only [Act.put, List.setIfInBounds_toArray, List.set_cons_zero, List.set_cons_succ]
        replace hA2 := Has.keep (cells := #[.int .i64 fx, .int .i64 fy]) (C := X1.heap.size) hA2 (by omega)
        replace hS := Below.setRow hS (C := X1.heap.size) (by omega) #[.int .i64 fx, .int .i64 fy]
        replace hA1 := Has.put (cells := #[.int .i64 fx, .int .i64 fy]) hA1
        generalize X4.setRow X1.heap.size #[.int .i64 fx, .int .i64 fy] = X5 at *
        refine sched_done (by kernel_rfl) hS ?_
        simp only [List.drop_succ_cons, List.drop_zero]
        refine wpListIn_row rfl rfl (g := X0.heap.size) (cells := #[.int .i64 tx, .int .i64 ty]) rfl rfl hA2 (by kernel_rfl) rfl (by simp [Value.oneCell']) ?_
        have hP2 := Has.put (cells := #[.int .i64 tx, .int .i64 ty]) hA2
        have hP1 := Has.keep (cells := #[.int .i64 tx, .int .i64 ty]) (C := X0.heap.size) hA1 (by omega)
        have hT := Below.setRow hS (C := X0.heap.size) (by omega) #[.int .i64 tx, .int .i64 ty]
        generalize X5.setRow X0.heap.size #[.int .i64 tx, .int .i64 ty] = X6 at *
        gi_wp2
        go_meet
        exact ⟨_, _, rfl, rfl, by omega, by omega, by omega, hP1, hP2, hT⟩
  case rest =>
    obtain ⟨gx, gy, rfl, rfl, hxy, hbx, hby, HX0, HY0, hC⟩ := hcut
    have Bwc := Lib.hid (B6.out.trans (hC.mono B6.out.size))
    replace PA := Lib.hid (PA.out.below hC PA.out.lt)
    replace PB := Lib.hid (PB.out.below hC PB.out.lt)
    replace PV := Lib.hid (PV.out.below hC PV.out.lt)
    replace PZ := Lib.hid (PZ.out.below hC PZ.out.lt)
    replace P1 := Lib.hid ((P1.out.below hC).mono hC.size)
    have BX := Lib.hid HX0
    have BY := Lib.hid HY0
    clear hC HX0 HY0
    clear x0 x1 y0 y1 x2 x3 y2 y3
    have x0 := PA.out.cell (i := 0) rfl; have x1 := PA.out.cell (i := 1) rfl
    have y0 := PB.out.cell (i := 0) rfl; have y1 := PB.out.cell (i := 1) rfl
    have x2 := PV.out.cell (i := 0) rfl; have x3 := PV.out.cell (i := 1) rfl
    have y2 := PZ.out.cell (i := 0) rfl; have y3 := PZ.out.cell (i := 1) rfl
    clear PA PB PV PZ x0 x1 y0 y1 x2 x3 y2 y3
    have t0 := BX.out.cell (i := 0) rfl
    have t1 := BX.out.cell (i := 1) rfl
    have t2 := BY.out.cell (i := 0) rfl
    have t3 := BY.out.cell (i := 1) rfl
    have l0 := BX.out.lt
    have l1 := BY.out.lt
    go_wp2
    (refine wp_region_low (by kernel_rfl) (by kernel_rfl) ?_; (iterate 24 (apply quiet_want; (case hw => rfl); (case hval => (intro w1 hw1; have hcx := Low.cells hw1; simp only [Oper.quietAt]; go_simp; first | done | (first | fail) | rfl | exact ⟨rfl, rfl⟩)); simp only [Act.put, List.setIfInBounds_toArray, List.set_cons_zero, List.set_cons_succ])); refine wpQuiet_nil ?_; intro w2 hw2)
    have B9 := Lib.hid (Bwc.out.trans (hw2.out.mono Bwc.out.size))
    replace P1 := Lib.hid ((P1.out.below hw2.out).mono hw2.out.size)
    clear hw2 t0 t1 t2 t3 l0 l1 BX BY
    by_cases hX0 : XX.tmod (n : Int) = 0
    case neg =>
      generalize hrx : XX.tmod (n : Int) = rx at *
      have z9 : IntKind.i64.wrap rx = rx := IntWalk.i64_in _ (by omega)
      have dx : (rx != 0) = true := by simpa using hX0
      clear bX bY
      go_wp2
      go_ret
      exact ⟨rfl, B9.out⟩
    have zz : IntKind.i64.wrap 0 = 0 := IntWalk.i64_in _ (by omega)
    by_cases hY0 : YY.tmod (n : Int) = 0
    case neg =>
      generalize hry : YY.tmod (n : Int) = ry at *
      have z9 : IntKind.i64.wrap ry = ry := IntWalk.i64_in _ (by omega)
      have dx : (ry != 0) = true := by simpa using hY0
      clear bX bY
      go_wp2
      go_ret
      exact ⟨rfl, B9.out⟩
    have e1 := Int.mul_tdiv_add_tmod XX (n : Int)
    have e2 := Int.mul_tdiv_add_tmod YY (n : Int)
    rw [hX0, Int.add_zero] at e1
    rw [hY0, Int.add_zero] at e2
    obtain ⟨⟨h1, h2⟩, h3⟩ := HN.out _ _ e1 e2
    have h3 := place_iff.1 h3
    simp only at h3
    have fh := fun v w1 h => has_any v cl ⟨XX.tdiv (n : Int), YY.tdiv (n : Int)⟩ w1 h
    rw [h1, h2] at fh
    simp only at fh
    obtain ⟨qx, hqx⟩ : ∃ q, q = XX.tdiv (n : Int) := ⟨_, rfl⟩
    obtain ⟨qy, hqy⟩ : ∃ q, q = YY.tdiv (n : Int) := ⟨_, rfl⟩
    have z9 : IntKind.i64.wrap (XX.tdiv (n : Int)) = qx := by rw [hqx]; exact IntWalk.i64_in _ (by omega)
    have z10 : IntKind.i64.wrap (YY.tdiv (n : Int)) = qy := by rw [hqy]; exact IntWalk.i64_in _ (by omega)
    rw [← hqx, ← hqy] at fh
    replace fh := Lib.hid fh
    clear h1 h2 h3 e1 e2 hqx hqy HN bX bY
    go_wp2
    (refine wp_region_low (by kernel_rfl) (by kernel_rfl) ?_; (iterate 14 (apply quiet_want; (case hw => rfl); (case hval => (intro w1 hw1; have hcx := Low.cells hw1; simp only [Oper.quietAt]; go_simp; first | done | (first | (go_at_call 13; exact Low.calls hw1 (fa.out _ _ _)) | (go_at_call 14; exact Low.calls hw1 (fh.out _ _ ((P1.out.below hw1.out).mono hw1.out.size)))) | rfl | exact ⟨rfl, rfl⟩)); simp only [Act.put, List.setIfInBounds_toArray, List.set_cons_zero, List.set_cons_succ])); refine wpQuiet_nil ?_; intro w2 hw2)
    have B10 := Lib.hid (B9.out.trans (hw2.out.mono B9.out.size))
    clear hw2
    go_wp2
    go_ret
    exact ⟨rfl, B10.out⟩

set_option maxRecDepth 100000 in
theorem lifted (os : Os) (started : os.Started) (H : Type) (enc : TypeId × Value → H) :
    ReturnsInHanded {} Try.checked os 4 .any (Rows.spreadStraightSpec.pre6 enc Try.prog Try.f4 Rows.spreadStraightRow.domain false) (Rows.spreadStraightSpec.post enc Try.prog Try.f4 false true false false) := by
  refine returnsInHanded_of_change_sized (C := Try.checked) own started (by kernel_rfl) Try.func4
    (ChangeSpec.witness6 (enc := enc) (C := Try.checked) false ⟨#[], #[.agg #[.int .i64 0, .int .i64 0], .agg #[.int .i64 0, .int .i64 0], .agg #[.int .i64 0, .int .i64 0], .agg #[.int .i64 0, .int .i64 0], .int .i64 0, .int .i64 0, .int .u8 0, .int .u8 0], []⟩ 8 (by kernel_rfl) (by kernel_rfl) (by kernel_rfl) (by kernel_rfl)) ?_
  intro W base args ds gs before hval0 hW hcnd hsz0 _
  have hval : ∀ (j : Nat) t v, Try.f4.params[j]? = some t → args[j]? = some v → Value.okWide Try.prog W .any base t v := hval0
  have hW' := hW
  obtain ⟨p, q, hA0, hV, rfl, hfz, hnd⟩ := hW
  have hA : DataW.TrodAll enc Try.prog W 0 (fun _ => true) true Try.f4.params.toList args.toList ds p := hA0
  have hsz : (DataW.weightsEach Try.prog (Try.f4.params.toList ++ Rows.spreadStraightSpec.plain.varTypes Try.prog) (ds ++ gs)).all (· ≤ reachBytes) = true := hsz0
  rw [Try.params4] at hA hval hsz
  obtain ⟨v0, vs0, d0, ds0, p0, q0, hargs, rfl, rfl, h0, r0⟩ := trodAll_cons hA
  obtain ⟨v1, vs1, d1, ds1, p1, q1, rfl, rfl, rfl, h1, r1⟩ := trodAll_cons r0
  obtain ⟨v2, vs2, d2, ds2, p2, q2, rfl, rfl, rfl, h2, r2⟩ := trodAll_cons r1
  obtain ⟨v3, vs3, d3, ds3, p3, q3, rfl, rfl, rfl, h3, r3⟩ := trodAll_cons r2
  obtain ⟨v4, vs4, d4, ds4, p4, q4, rfl, rfl, rfl, h4, r4⟩ := trodAll_cons r3
  obtain ⟨v5, vs5, d5, ds5, p5, q5, rfl, rfl, rfl, h5, r5⟩ := trodAll_cons r4
  obtain ⟨v6, vs6, d6, ds6, p6, q6, rfl, rfl, rfl, h6, r6⟩ := trodAll_cons r5
  obtain ⟨v7, vs7, d7, ds7, p7, q7, rfl, rfl, rfl, h7, r7⟩ := trodAll_cons r6
  obtain ⟨rfl, rfl, rfl⟩ := trodAll_nil r7
  obtain rfl : args = #[v0, v1, v2, v3, v4, v5, v6, v7] := by cases args; simp_all
  obtain ⟨rfl, rfl⟩ := trodVars_none hV
  have k0 := h0
  have lt0 : ∀ x ∈ p0, x.block < W.heap.size := by obtain ⟨m, hm⟩ := k0; exact DataW.trod_lt m _ _ _ hm
  obtain ⟨a0, b0, rfl⟩ := open_point (hval 0 38 v0 rfl rfl) h0
  have k1 := h1
  have lt1 : ∀ x ∈ p1, x.block < W.heap.size := by obtain ⟨m, hm⟩ := k1; exact DataW.trod_lt m _ _ _ hm
  obtain ⟨a1, b1, rfl⟩ := open_point (hval 1 38 v1 rfl rfl) h1
  have k2 := h2
  have lt2 : ∀ x ∈ p2, x.block < W.heap.size := by obtain ⟨m, hm⟩ := k2; exact DataW.trod_lt m _ _ _ hm
  obtain ⟨a2, b2, rfl⟩ := open_point (hval 2 38 v2 rfl rfl) h2
  have k3 := h3
  have lt3 : ∀ x ∈ p3, x.block < W.heap.size := by obtain ⟨m, hm⟩ := k3; exact DataW.trod_lt m _ _ _ hm
  obtain ⟨a3, b3, rfl⟩ := open_point (hval 3 38 v3 rfl rfl) h3
  obtain ⟨a4, rfl, rfl, rfl, w4⟩ := open_int Try.underlying3 (hval 4 3 v4 rfl rfl) h4
  obtain ⟨a5, rfl, rfl, rfl, w5⟩ := open_int Try.underlying3 (hval 5 3 v5 rfl rfl) h5
  obtain ⟨a6, rfl, rfl, rfl, w6⟩ := open_int Try.underlying5 (hval 6 5 v6 rfl rfl) h6
  obtain ⟨a7, rfl, rfl, rfl, w7⟩ := open_int Try.underlying5 (hval 7 5 v7 rfl rfl) h7
  clear hA0 hval0
  refine (walk W a0 b0 a1 b1 a2 b2 a3 b3 a4 a5 a6 a7 w4 w5 w6 w7).mono fun e W' ⟨he, bel⟩ => ?_
  subst he
  exact ⟨_, rfl, _, _, _, [], _, [], hW', trodAll_mk1 (shut_bool Try.underlying4 _), (trodAll_cons_mk (Below.trod laidOut (by kernel_rfl) (of_decide_eq_true (by kernel_rfl)) k0 bel lt0) (trodAll_cons_mk (Below.trod laidOut (by kernel_rfl) (of_decide_eq_true (by kernel_rfl)) k1 bel lt1) (trodAll_cons_mk (Below.trod laidOut (by kernel_rfl) (of_decide_eq_true (by kernel_rfl)) k2 bel lt2) (trodAll_cons_mk (Below.trod laidOut (by kernel_rfl) (of_decide_eq_true (by kernel_rfl)) k3 bel lt3) (trodAll_cons_mk (shut_int Try.underlying3 w4) (trodAll_cons_mk (shut_int Try.underlying3 w5) (trodAll_cons_mk (shut_int Try.underlying5 w6) (trodAll_cons_mk (shut_int Try.underlying5 w7) trodAll_mk0)))))))), rfl, bel.frame _, fun h => by cases h⟩

theorem over : Rows.spreadStraightRow.holds Try.pinned (OpenSpec.ofChange Rows.spreadStraightSpec) :=
  OpenClaim.holds_of_wide 4 Try.f4 rfl rfl rfl rfl rfl rfl rfl ⟨rfl, rfl, rfl, rfl, rfl⟩ rfl rfl rfl rfl rfl (by kernel_rfl) Try.func4 (by kernel_rfl)
    (of_decide_eq_true (by kernel_rfl)) (by unfold Func.isWrapper; first | (rw [if_pos (by decide +kernel)]; kernel_rfl) | (rw [if_neg (by decide +kernel)]; exact ⟨rfl, rfl⟩))
    (fun os started H enc _ => lifted os started H enc)

/-- the statement -/
theorem proved : Rows.SpreadStraightSaid := over
#print axioms proved
end Go.Proofs.Ytoekcefhphcjjaa.spreadStraight
