/- For all integers n, m, a, c and b: where Scale of package exact gives no error, a greater dividend has no lesser quotient, and the lower result is not above the upper one; what is not negative, scaled by a greater part, is not less. No condition. -/
import Derived.Test.YtmdipicdmphfbaaLawMore
import Derived.ProofKit
import Derived.OpenShut
import Derived.ChangeOld
namespace Go.Proofs.Ytmdipicdmphfbaa.exactOrder
open Go.ChangeShapes Go.WideShapes Go.ChangeAt Go.RowKit
set_option linter.unusedVariables false
theorem own : ownKnob Try.prog.godebug = none := by kernel_rfl
theorem laidOut : laidOutB Try.prog = true := by kernel_rfl

def Mono (n a b m c : Int) : Prop := scaleE n a b = 0 → scaleE m c b = 0 → scaleL n a b ≤ scaleL m c b ∧ scaleH n a b ≤ scaleH m c b ∧ scaleL n a b ≤ scaleH n a b
theorem mono1 (n m a b : Int) (h : n ≤ m) : Mono n a b m a := fun h1 h2 => by
  have s1 := scale_ok h1
  exact scale_mono s1 (scale_ok h2) (Int.mul_le_mul_of_nonneg_right h s1.a1)
theorem mono2 (n a c b : Int) (h : a ≤ c) : 0 ≤ n → Mono n a b n c := fun hn h1 h2 =>
  scale_mono (scale_ok h1) (scale_ok h2) (Int.mul_le_mul_of_nonneg_left h hn)

theorem w00AA (n m a c b : Int) (w : World) (h1 : n < m) (h2 : a < c) (e1 : scaleE n a b = 0) (e2 : scaleE m a b = 0) (e4 : scaleE n c b = 0) (p1 : decide (scaleL n a b ≤ scaleL m a b) = true) (p2 : decide (scaleH n a b ≤ scaleH m a b) = true) (p3 : decide (scaleL n a b ≤ scaleH n a b) = true) (hn : decide (n < 0) = false) (q1 : decide (scaleL n a b ≤ scaleL n c b) = true) (q2 : decide (scaleH n a b ≤ scaleH n c b) = true) :
    Calls Try.prog 6 #[.int .i64 n, .int .i64 m, .int .i64 a, .int .i64 c, .int .i64 b] w fun e w' => e = .returned (.bool true) ∧ Below w.heap.size w w' := by
  go_enter Try.func6, Try.ntmps6
  go_wp2_with (first | (go_at_call 10; refine (head_any _).mono ?_; rintro e w0 ⟨rfl, hb0⟩; have hz0 := hb0.size; try simp at hz0) | (go_at_call 15; refine (scale_any _ _ _ _).mono ?_; rintro e w3 ⟨rfl, hb3⟩; have hz3 := hb3.size; try simp at hz3))
  go_ret
  exact ⟨rfl, by repeat (first | exact Below.refl _ _ | assumption | apply Below.drew | refine Below.setCell ?_ (by first | omega | (simp; done) | (simp; omega)) _ | refine Below.alloc ?_ (by first | omega | (simp; done) | (simp; omega)) _ | refine Below.call (by assumption) ?_ (by first | omega | (simp; done) | (simp; omega)))⟩

theorem w00AD (n m a c b : Int) (w : World) (h1 : n < m) (h2 : a < c) (e1 : scaleE n a b = 0) (e2 : scaleE m a b = 0) (e4 : scaleE n c b = 0) (p1 : decide (scaleL n a b ≤ scaleL m a b) = true) (p2 : decide (scaleH n a b ≤ scaleH m a b) = true) (p3 : decide (scaleL n a b ≤ scaleH n a b) = true) (hn : decide (n < 0) = true) :
    Calls Try.prog 6 #[.int .i64 n, .int .i64 m, .int .i64 a, .int .i64 c, .int .i64 b] w fun e w' => e = .returned (.bool true) ∧ Below w.heap.size w w' := by
  go_enter Try.func6, Try.ntmps6
  go_wp2_with (first | (go_at_call 10; refine (head_any _).mono ?_; rintro e w0 ⟨rfl, hb0⟩; have hz0 := hb0.size; try simp at hz0) | (go_at_call 15; refine (scale_any _ _ _ _).mono ?_; rintro e w3 ⟨rfl, hb3⟩; have hz3 := hb3.size; try simp at hz3))
  go_ret
  exact ⟨rfl, by repeat (first | exact Below.refl _ _ | assumption | apply Below.drew | refine Below.setCell ?_ (by first | omega | (simp; done) | (simp; omega)) _ | refine Below.alloc ?_ (by first | omega | (simp; done) | (simp; omega)) _ | refine Below.call (by assumption) ?_ (by first | omega | (simp; done) | (simp; omega)))⟩

theorem w00AB (n m a c b : Int) (w : World) (h1 : n < m) (h2 : a < c) (e1 : scaleE n a b = 0) (e2 : scaleE m a b = 0) (e4 : (scaleE n c b == 0) = false) (e4' : (scaleE n c b != 0) = true) (p1 : decide (scaleL n a b ≤ scaleL m a b) = true) (p2 : decide (scaleH n a b ≤ scaleH m a b) = true) (p3 : decide (scaleL n a b ≤ scaleH n a b) = true) :
    Calls Try.prog 6 #[.int .i64 n, .int .i64 m, .int .i64 a, .int .i64 c, .int .i64 b] w fun e w' => e = .returned (.bool true) ∧ Below w.heap.size w w' := by
  go_enter Try.func6, Try.ntmps6
  go_wp2_with (first | (go_at_call 10; refine (head_any _).mono ?_; rintro e w0 ⟨rfl, hb0⟩; have hz0 := hb0.size; try simp at hz0) | (go_at_call 15; refine (scale_any _ _ _ _).mono ?_; rintro e w3 ⟨rfl, hb3⟩; have hz3 := hb3.size; try simp at hz3))
  go_ret
  exact ⟨rfl, by repeat (first | exact Below.refl _ _ | assumption | apply Below.drew | refine Below.setCell ?_ (by first | omega | (simp; done) | (simp; omega)) _ | refine Below.alloc ?_ (by first | omega | (simp; done) | (simp; omega)) _ | refine Below.call (by assumption) ?_ (by first | omega | (simp; done) | (simp; omega)))⟩

theorem w00BA (n m a c b : Int) (w : World) (h1 : n < m) (h2 : a < c) (e1 : scaleE n a b = 0) (e2 : (scaleE m a b == 0) = false) (e2' : (scaleE m a b != 0) = true) (e4 : scaleE n c b = 0) (hn : decide (n < 0) = false) (q1 : decide (scaleL n a b ≤ scaleL n c b) = true) (q2 : decide (scaleH n a b ≤ scaleH n c b) = true) :
    Calls Try.prog 6 #[.int .i64 n, .int .i64 m, .int .i64 a, .int .i64 c, .int .i64 b] w fun e w' => e = .returned (.bool true) ∧ Below w.heap.size w w' := by
  go_enter Try.func6, Try.ntmps6
  go_wp2_with (first | (go_at_call 10; refine (head_any _).mono ?_; rintro e w0 ⟨rfl, hb0⟩; have hz0 := hb0.size; try simp at hz0) | (go_at_call 15; refine (scale_any _ _ _ _).mono ?_; rintro e w3 ⟨rfl, hb3⟩; have hz3 := hb3.size; try simp at hz3))
  go_ret
  exact ⟨rfl, by repeat (first | exact Below.refl _ _ | assumption | apply Below.drew | refine Below.setCell ?_ (by first | omega | (simp; done) | (simp; omega)) _ | refine Below.alloc ?_ (by first | omega | (simp; done) | (simp; omega)) _ | refine Below.call (by assumption) ?_ (by first | omega | (simp; done) | (simp; omega)))⟩

theorem w00BD (n m a c b : Int) (w : World) (h1 : n < m) (h2 : a < c) (e1 : scaleE n a b = 0) (e2 : (scaleE m a b == 0) = false) (e2' : (scaleE m a b != 0) = true) (e4 : scaleE n c b = 0) (hn : decide (n < 0) = true) :
    Calls Try.prog 6 #[.int .i64 n, .int .i64 m, .int .i64 a, .int .i64 c, .int .i64 b] w fun e w' => e = .returned (.bool true) ∧ Below w.heap.size w w' := by
  go_enter Try.func6, Try.ntmps6
  go_wp2_with (first | (go_at_call 10; refine (head_any _).mono ?_; rintro e w0 ⟨rfl, hb0⟩; have hz0 := hb0.size; try simp at hz0) | (go_at_call 15; refine (scale_any _ _ _ _).mono ?_; rintro e w3 ⟨rfl, hb3⟩; have hz3 := hb3.size; try simp at hz3))
  go_ret
  exact ⟨rfl, by repeat (first | exact Below.refl _ _ | assumption | apply Below.drew | refine Below.setCell ?_ (by first | omega | (simp; done) | (simp; omega)) _ | refine Below.alloc ?_ (by first | omega | (simp; done) | (simp; omega)) _ | refine Below.call (by assumption) ?_ (by first | omega | (simp; done) | (simp; omega)))⟩

theorem w00BB (n m a c b : Int) (w : World) (h1 : n < m) (h2 : a < c) (e1 : scaleE n a b = 0) (e2 : (scaleE m a b == 0) = false) (e2' : (scaleE m a b != 0) = true) (e4 : (scaleE n c b == 0) = false) (e4' : (scaleE n c b != 0) = true) :
    Calls Try.prog 6 #[.int .i64 n, .int .i64 m, .int .i64 a, .int .i64 c, .int .i64 b] w fun e w' => e = .returned (.bool true) ∧ Below w.heap.size w w' := by
  go_enter Try.func6, Try.ntmps6
  go_wp2_with (first | (go_at_call 10; refine (head_any _).mono ?_; rintro e w0 ⟨rfl, hb0⟩; have hz0 := hb0.size; try simp at hz0) | (go_at_call 15; refine (scale_any _ _ _ _).mono ?_; rintro e w3 ⟨rfl, hb3⟩; have hz3 := hb3.size; try simp at hz3))
  go_ret
  exact ⟨rfl, by repeat (first | exact Below.refl _ _ | assumption | apply Below.drew | refine Below.setCell ?_ (by first | omega | (simp; done) | (simp; omega)) _ | refine Below.alloc ?_ (by first | omega | (simp; done) | (simp; omega)) _ | refine Below.call (by assumption) ?_ (by first | omega | (simp; done) | (simp; omega)))⟩

theorem w00CC (n m a c b : Int) (w : World) (h1 : n < m) (h2 : a < c) (e1 : (scaleE n a b == 0) = false) (e1' : (scaleE n a b != 0) = true) :
    Calls Try.prog 6 #[.int .i64 n, .int .i64 m, .int .i64 a, .int .i64 c, .int .i64 b] w fun e w' => e = .returned (.bool true) ∧ Below w.heap.size w w' := by
  go_enter Try.func6, Try.ntmps6
  go_wp2_with (first | (go_at_call 10; refine (head_any _).mono ?_; rintro e w0 ⟨rfl, hb0⟩; have hz0 := hb0.size; try simp at hz0) | (go_at_call 15; refine (scale_any _ _ _ _).mono ?_; rintro e w3 ⟨rfl, hb3⟩; have hz3 := hb3.size; try simp at hz3))
  go_ret
  exact ⟨rfl, by repeat (first | exact Below.refl _ _ | assumption | apply Below.drew | refine Below.setCell ?_ (by first | omega | (simp; done) | (simp; omega)) _ | refine Below.alloc ?_ (by first | omega | (simp; done) | (simp; omega)) _ | refine Below.call (by assumption) ?_ (by first | omega | (simp; done) | (simp; omega)))⟩

theorem walk00 (n m a c b : Int) (w : World) (h1 : n < m) (h2 : a < c) :
    Calls Try.prog 6 #[.int .i64 n, .int .i64 m, .int .i64 a, .int .i64 c, .int .i64 b] w fun e w' => e = .returned (.bool true) ∧ Below w.heap.size w w' := by
  by_cases e3 : scaleE n a b = 0
  · by_cases e4 : scaleE n c b = 0
    · by_cases hn : 0 ≤ n
      ·
        by_cases e1 : scaleE n a b = 0
        · by_cases e2 : scaleE m a b = 0
          ·
            have p := mono1 n m a b (by omega) e1 e2
            have q := mono2 n a c b (by omega) hn e3 e4
            exact w00AA n m a c b w h1 h2 e1 e2 e4 (by simp; omega) (by simp; omega) (by simp; omega) (by simp; omega) (by simp; omega) (by simp; omega)
          ·
            have q := mono2 n a c b (by omega) hn e3 e4
            exact w00BA n m a c b w h1 h2 e1 (ne_forms e2).1 (ne_forms e2).2 e4 (by simp; omega) (by simp; omega) (by simp; omega)
        ·
          first | exact absurd (by assumption) e1 | exact absurd (by assumption) e2 | exact absurd (by assumption) e3 | exact absurd (by assumption) e4
      ·
        by_cases e1 : scaleE n a b = 0
        · by_cases e2 : scaleE m a b = 0
          ·
            have p := mono1 n m a b (by omega) e1 e2
            exact w00AD n m a c b w h1 h2 e1 e2 e4 (by simp; omega) (by simp; omega) (by simp; omega) (by simp; omega)
          ·
            exact w00BD n m a c b w h1 h2 e1 (ne_forms e2).1 (ne_forms e2).2 e4 (by simp; omega)
        ·
          first | exact absurd (by assumption) e1 | exact absurd (by assumption) e2 | exact absurd (by assumption) e3 | exact absurd (by assumption) e4
    ·
      by_cases e1 : scaleE n a b = 0
      · by_cases e2 : scaleE m a b = 0
        ·
          have p := mono1 n m a b (by omega) e1 e2
          exact w00AB n m a c b w h1 h2 e1 e2 (ne_forms e4).1 (ne_forms e4).2 (by simp; omega) (by simp; omega) (by simp; omega)
        ·
          exact w00BB n m a c b w h1 h2 e1 (ne_forms e2).1 (ne_forms e2).2 (ne_forms e4).1 (ne_forms e4).2
      ·
        first | exact absurd (by assumption) e1 | exact absurd (by assumption) e2 | exact absurd (by assumption) e3 | exact absurd (by assumption) e4
  ·
    by_cases e1 : scaleE n a b = 0
    · by_cases e2 : scaleE m a b = 0
      ·
        first | exact absurd (by assumption) e1 | exact absurd (by assumption) e2 | exact absurd (by assumption) e3 | exact absurd (by assumption) e4
      ·
        first | exact absurd (by assumption) e1 | exact absurd (by assumption) e2 | exact absurd (by assumption) e3 | exact absurd (by assumption) e4
    ·
      exact w00CC n m a c b w h1 h2 (ne_forms e1).1 (ne_forms e1).2

theorem w01AA (n m a c b : Int) (w : World) (h1 : n < m) (h2 : c < a) (e1 : scaleE n a b = 0) (e2 : scaleE m a b = 0) (e3 : scaleE n c b = 0) (p1 : decide (scaleL n a b ≤ scaleL m a b) = true) (p2 : decide (scaleH n a b ≤ scaleH m a b) = true) (p3 : decide (scaleL n a b ≤ scaleH n a b) = true) (hn : decide (n < 0) = false) (q1 : decide (scaleL n c b ≤ scaleL n a b) = true) (q2 : decide (scaleH n c b ≤ scaleH n a b) = true) :
    Calls Try.prog 6 #[.int .i64 n, .int .i64 m, .int .i64 a, .int .i64 c, .int .i64 b] w fun e w' => e = .returned (.bool true) ∧ Below w.heap.size w w' := by
  go_enter Try.func6, Try.ntmps6
  go_wp2_with (first | (go_at_call 10; refine (head_any _).mono ?_; rintro e w0 ⟨rfl, hb0⟩; have hz0 := hb0.size; try simp at hz0) | (go_at_call 15; refine (scale_any _ _ _ _).mono ?_; rintro e w3 ⟨rfl, hb3⟩; have hz3 := hb3.size; try simp at hz3))
  go_ret
  exact ⟨rfl, by repeat (first | exact Below.refl _ _ | assumption | apply Below.drew | refine Below.setCell ?_ (by first | omega | (simp; done) | (simp; omega)) _ | refine Below.alloc ?_ (by first | omega | (simp; done) | (simp; omega)) _ | refine Below.call (by assumption) ?_ (by first | omega | (simp; done) | (simp; omega)))⟩

theorem w01AD (n m a c b : Int) (w : World) (h1 : n < m) (h2 : c < a) (e1 : scaleE n a b = 0) (e2 : scaleE m a b = 0) (e3 : scaleE n c b = 0) (p1 : decide (scaleL n a b ≤ scaleL m a b) = true) (p2 : decide (scaleH n a b ≤ scaleH m a b) = true) (p3 : decide (scaleL n a b ≤ scaleH n a b) = true) (hn : decide (n < 0) = true) :
    Calls Try.prog 6 #[.int .i64 n, .int .i64 m, .int .i64 a, .int .i64 c, .int .i64 b] w fun e w' => e = .returned (.bool true) ∧ Below w.heap.size w w' := by
  go_enter Try.func6, Try.ntmps6
  go_wp2_with (first | (go_at_call 10; refine (head_any _).mono ?_; rintro e w0 ⟨rfl, hb0⟩; have hz0 := hb0.size; try simp at hz0) | (go_at_call 15; refine (scale_any _ _ _ _).mono ?_; rintro e w3 ⟨rfl, hb3⟩; have hz3 := hb3.size; try simp at hz3))
  go_ret
  exact ⟨rfl, by repeat (first | exact Below.refl _ _ | assumption | apply Below.drew | refine Below.setCell ?_ (by first | omega | (simp; done) | (simp; omega)) _ | refine Below.alloc ?_ (by first | omega | (simp; done) | (simp; omega)) _ | refine Below.call (by assumption) ?_ (by first | omega | (simp; done) | (simp; omega)))⟩

theorem w01AC (n m a c b : Int) (w : World) (h1 : n < m) (h2 : c < a) (e1 : scaleE n a b = 0) (e2 : scaleE m a b = 0) (e3 : (scaleE n c b == 0) = false) (e3' : (scaleE n c b != 0) = true) (p1 : decide (scaleL n a b ≤ scaleL m a b) = true) (p2 : decide (scaleH n a b ≤ scaleH m a b) = true) (p3 : decide (scaleL n a b ≤ scaleH n a b) = true) :
    Calls Try.prog 6 #[.int .i64 n, .int .i64 m, .int .i64 a, .int .i64 c, .int .i64 b] w fun e w' => e = .returned (.bool true) ∧ Below w.heap.size w w' := by
  go_enter Try.func6, Try.ntmps6
  go_wp2_with (first | (go_at_call 10; refine (head_any _).mono ?_; rintro e w0 ⟨rfl, hb0⟩; have hz0 := hb0.size; try simp at hz0) | (go_at_call 15; refine (scale_any _ _ _ _).mono ?_; rintro e w3 ⟨rfl, hb3⟩; have hz3 := hb3.size; try simp at hz3))
  go_ret
  exact ⟨rfl, by repeat (first | exact Below.refl _ _ | assumption | apply Below.drew | refine Below.setCell ?_ (by first | omega | (simp; done) | (simp; omega)) _ | refine Below.alloc ?_ (by first | omega | (simp; done) | (simp; omega)) _ | refine Below.call (by assumption) ?_ (by first | omega | (simp; done) | (simp; omega)))⟩

theorem w01BA (n m a c b : Int) (w : World) (h1 : n < m) (h2 : c < a) (e1 : scaleE n a b = 0) (e2 : (scaleE m a b == 0) = false) (e2' : (scaleE m a b != 0) = true) (e3 : scaleE n c b = 0) (hn : decide (n < 0) = false) (q1 : decide (scaleL n c b ≤ scaleL n a b) = true) (q2 : decide (scaleH n c b ≤ scaleH n a b) = true) :
    Calls Try.prog 6 #[.int .i64 n, .int .i64 m, .int .i64 a, .int .i64 c, .int .i64 b] w fun e w' => e = .returned (.bool true) ∧ Below w.heap.size w w' := by
  go_enter Try.func6, Try.ntmps6
  go_wp2_with (first | (go_at_call 10; refine (head_any _).mono ?_; rintro e w0 ⟨rfl, hb0⟩; have hz0 := hb0.size; try simp at hz0) | (go_at_call 15; refine (scale_any _ _ _ _).mono ?_; rintro e w3 ⟨rfl, hb3⟩; have hz3 := hb3.size; try simp at hz3))
  go_ret
  exact ⟨rfl, by repeat (first | exact Below.refl _ _ | assumption | apply Below.drew | refine Below.setCell ?_ (by first | omega | (simp; done) | (simp; omega)) _ | refine Below.alloc ?_ (by first | omega | (simp; done) | (simp; omega)) _ | refine Below.call (by assumption) ?_ (by first | omega | (simp; done) | (simp; omega)))⟩

theorem w01BD (n m a c b : Int) (w : World) (h1 : n < m) (h2 : c < a) (e1 : scaleE n a b = 0) (e2 : (scaleE m a b == 0) = false) (e2' : (scaleE m a b != 0) = true) (e3 : scaleE n c b = 0) (hn : decide (n < 0) = true) :
    Calls Try.prog 6 #[.int .i64 n, .int .i64 m, .int .i64 a, .int .i64 c, .int .i64 b] w fun e w' => e = .returned (.bool true) ∧ Below w.heap.size w w' := by
  go_enter Try.func6, Try.ntmps6
  go_wp2_with (first | (go_at_call 10; refine (head_any _).mono ?_; rintro e w0 ⟨rfl, hb0⟩; have hz0 := hb0.size; try simp at hz0) | (go_at_call 15; refine (scale_any _ _ _ _).mono ?_; rintro e w3 ⟨rfl, hb3⟩; have hz3 := hb3.size; try simp at hz3))
  go_ret
  exact ⟨rfl, by repeat (first | exact Below.refl _ _ | assumption | apply Below.drew | refine Below.setCell ?_ (by first | omega | (simp; done) | (simp; omega)) _ | refine Below.alloc ?_ (by first | omega | (simp; done) | (simp; omega)) _ | refine Below.call (by assumption) ?_ (by first | omega | (simp; done) | (simp; omega)))⟩

theorem w01BC (n m a c b : Int) (w : World) (h1 : n < m) (h2 : c < a) (e1 : scaleE n a b = 0) (e2 : (scaleE m a b == 0) = false) (e2' : (scaleE m a b != 0) = true) (e3 : (scaleE n c b == 0) = false) (e3' : (scaleE n c b != 0) = true) :
    Calls Try.prog 6 #[.int .i64 n, .int .i64 m, .int .i64 a, .int .i64 c, .int .i64 b] w fun e w' => e = .returned (.bool true) ∧ Below w.heap.size w w' := by
  go_enter Try.func6, Try.ntmps6
  go_wp2_with (first | (go_at_call 10; refine (head_any _).mono ?_; rintro e w0 ⟨rfl, hb0⟩; have hz0 := hb0.size; try simp at hz0) | (go_at_call 15; refine (scale_any _ _ _ _).mono ?_; rintro e w3 ⟨rfl, hb3⟩; have hz3 := hb3.size; try simp at hz3))
  go_ret
  exact ⟨rfl, by repeat (first | exact Below.refl _ _ | assumption | apply Below.drew | refine Below.setCell ?_ (by first | omega | (simp; done) | (simp; omega)) _ | refine Below.alloc ?_ (by first | omega | (simp; done) | (simp; omega)) _ | refine Below.call (by assumption) ?_ (by first | omega | (simp; done) | (simp; omega)))⟩

theorem w01CB (n m a c b : Int) (w : World) (h1 : n < m) (h2 : c < a) (e1 : (scaleE n a b == 0) = false) (e1' : (scaleE n a b != 0) = true) (e3 : scaleE n c b = 0) :
    Calls Try.prog 6 #[.int .i64 n, .int .i64 m, .int .i64 a, .int .i64 c, .int .i64 b] w fun e w' => e = .returned (.bool true) ∧ Below w.heap.size w w' := by
  go_enter Try.func6, Try.ntmps6
  go_wp2_with (first | (go_at_call 10; refine (head_any _).mono ?_; rintro e w0 ⟨rfl, hb0⟩; have hz0 := hb0.size; try simp at hz0) | (go_at_call 15; refine (scale_any _ _ _ _).mono ?_; rintro e w3 ⟨rfl, hb3⟩; have hz3 := hb3.size; try simp at hz3))
  go_ret
  exact ⟨rfl, by repeat (first | exact Below.refl _ _ | assumption | apply Below.drew | refine Below.setCell ?_ (by first | omega | (simp; done) | (simp; omega)) _ | refine Below.alloc ?_ (by first | omega | (simp; done) | (simp; omega)) _ | refine Below.call (by assumption) ?_ (by first | omega | (simp; done) | (simp; omega)))⟩

theorem w01CC (n m a c b : Int) (w : World) (h1 : n < m) (h2 : c < a) (e1 : (scaleE n a b == 0) = false) (e1' : (scaleE n a b != 0) = true) (e3 : (scaleE n c b == 0) = false) (e3' : (scaleE n c b != 0) = true) :
    Calls Try.prog 6 #[.int .i64 n, .int .i64 m, .int .i64 a, .int .i64 c, .int .i64 b] w fun e w' => e = .returned (.bool true) ∧ Below w.heap.size w w' := by
  go_enter Try.func6, Try.ntmps6
  go_wp2_with (first | (go_at_call 10; refine (head_any _).mono ?_; rintro e w0 ⟨rfl, hb0⟩; have hz0 := hb0.size; try simp at hz0) | (go_at_call 15; refine (scale_any _ _ _ _).mono ?_; rintro e w3 ⟨rfl, hb3⟩; have hz3 := hb3.size; try simp at hz3))
  go_ret
  exact ⟨rfl, by repeat (first | exact Below.refl _ _ | assumption | apply Below.drew | refine Below.setCell ?_ (by first | omega | (simp; done) | (simp; omega)) _ | refine Below.alloc ?_ (by first | omega | (simp; done) | (simp; omega)) _ | refine Below.call (by assumption) ?_ (by first | omega | (simp; done) | (simp; omega)))⟩

theorem walk01 (n m a c b : Int) (w : World) (h1 : n < m) (h2 : c < a) :
    Calls Try.prog 6 #[.int .i64 n, .int .i64 m, .int .i64 a, .int .i64 c, .int .i64 b] w fun e w' => e = .returned (.bool true) ∧ Below w.heap.size w w' := by
  by_cases e3 : scaleE n c b = 0
  · by_cases e4 : scaleE n a b = 0
    · by_cases hn : 0 ≤ n
      ·
        by_cases e1 : scaleE n a b = 0
        · by_cases e2 : scaleE m a b = 0
          ·
            have p := mono1 n m a b (by omega) e1 e2
            have q := mono2 n c a b (by omega) hn e3 e4
            exact w01AA n m a c b w h1 h2 e1 e2 e3 (by simp; omega) (by simp; omega) (by simp; omega) (by simp; omega) (by simp; omega) (by simp; omega)
          ·
            have q := mono2 n c a b (by omega) hn e3 e4
            exact w01BA n m a c b w h1 h2 e1 (ne_forms e2).1 (ne_forms e2).2 e3 (by simp; omega) (by simp; omega) (by simp; omega)
        ·
          first | exact absurd (by assumption) e1 | exact absurd (by assumption) e2 | exact absurd (by assumption) e3 | exact absurd (by assumption) e4
      ·
        by_cases e1 : scaleE n a b = 0
        · by_cases e2 : scaleE m a b = 0
          ·
            have p := mono1 n m a b (by omega) e1 e2
            exact w01AD n m a c b w h1 h2 e1 e2 e3 (by simp; omega) (by simp; omega) (by simp; omega) (by simp; omega)
          ·
            exact w01BD n m a c b w h1 h2 e1 (ne_forms e2).1 (ne_forms e2).2 e3 (by simp; omega)
        ·
          first | exact absurd (by assumption) e1 | exact absurd (by assumption) e2 | exact absurd (by assumption) e3 | exact absurd (by assumption) e4
    ·
      by_cases e1 : scaleE n a b = 0
      · by_cases e2 : scaleE m a b = 0
        ·
          first | exact absurd (by assumption) e1 | exact absurd (by assumption) e2 | exact absurd (by assumption) e3 | exact absurd (by assumption) e4
        ·
          first | exact absurd (by assumption) e1 | exact absurd (by assumption) e2 | exact absurd (by assumption) e3 | exact absurd (by assumption) e4
      ·
        exact w01CB n m a c b w h1 h2 (ne_forms e1).1 (ne_forms e1).2 e3
  ·
    by_cases e1 : scaleE n a b = 0
    · by_cases e2 : scaleE m a b = 0
      ·
        have p := mono1 n m a b (by omega) e1 e2
        exact w01AC n m a c b w h1 h2 e1 e2 (ne_forms e3).1 (ne_forms e3).2 (by simp; omega) (by simp; omega) (by simp; omega)
      ·
        exact w01BC n m a c b w h1 h2 e1 (ne_forms e2).1 (ne_forms e2).2 (ne_forms e3).1 (ne_forms e3).2
    ·
      exact w01CC n m a c b w h1 h2 (ne_forms e1).1 (ne_forms e1).2 (ne_forms e3).1 (ne_forms e3).2

theorem w02AA (n m a b : Int) (w : World) (h1 : n < m) (e1 : scaleE n a b = 0) (e2 : scaleE m a b = 0) (p1 : decide (scaleL n a b ≤ scaleL m a b) = true) (p2 : decide (scaleH n a b ≤ scaleH m a b) = true) (p3 : decide (scaleL n a b ≤ scaleH n a b) = true) (hn : decide (n < 0) = false) :
    Calls Try.prog 6 #[.int .i64 n, .int .i64 m, .int .i64 a, .int .i64 a, .int .i64 b] w fun e w' => e = .returned (.bool true) ∧ Below w.heap.size w w' := by
  go_enter Try.func6, Try.ntmps6
  go_wp2_with (first | (go_at_call 10; refine (head_any _).mono ?_; rintro e w0 ⟨rfl, hb0⟩; have hz0 := hb0.size; try simp at hz0) | (go_at_call 15; refine (scale_any _ _ _ _).mono ?_; rintro e w3 ⟨rfl, hb3⟩; have hz3 := hb3.size; try simp at hz3))
  go_ret
  exact ⟨rfl, by repeat (first | exact Below.refl _ _ | assumption | apply Below.drew | refine Below.setCell ?_ (by first | omega | (simp; done) | (simp; omega)) _ | refine Below.alloc ?_ (by first | omega | (simp; done) | (simp; omega)) _ | refine Below.call (by assumption) ?_ (by first | omega | (simp; done) | (simp; omega)))⟩

theorem w02AD (n m a b : Int) (w : World) (h1 : n < m) (e1 : scaleE n a b = 0) (e2 : scaleE m a b = 0) (p1 : decide (scaleL n a b ≤ scaleL m a b) = true) (p2 : decide (scaleH n a b ≤ scaleH m a b) = true) (p3 : decide (scaleL n a b ≤ scaleH n a b) = true) (hn : decide (n < 0) = true) :
    Calls Try.prog 6 #[.int .i64 n, .int .i64 m, .int .i64 a, .int .i64 a, .int .i64 b] w fun e w' => e = .returned (.bool true) ∧ Below w.heap.size w w' := by
  go_enter Try.func6, Try.ntmps6
  go_wp2_with (first | (go_at_call 10; refine (head_any _).mono ?_; rintro e w0 ⟨rfl, hb0⟩; have hz0 := hb0.size; try simp at hz0) | (go_at_call 15; refine (scale_any _ _ _ _).mono ?_; rintro e w3 ⟨rfl, hb3⟩; have hz3 := hb3.size; try simp at hz3))
  go_ret
  exact ⟨rfl, by repeat (first | exact Below.refl _ _ | assumption | apply Below.drew | refine Below.setCell ?_ (by first | omega | (simp; done) | (simp; omega)) _ | refine Below.alloc ?_ (by first | omega | (simp; done) | (simp; omega)) _ | refine Below.call (by assumption) ?_ (by first | omega | (simp; done) | (simp; omega)))⟩

theorem w02BA (n m a b : Int) (w : World) (h1 : n < m) (e1 : scaleE n a b = 0) (e2 : (scaleE m a b == 0) = false) (e2' : (scaleE m a b != 0) = true) (hn : decide (n < 0) = false) :
    Calls Try.prog 6 #[.int .i64 n, .int .i64 m, .int .i64 a, .int .i64 a, .int .i64 b] w fun e w' => e = .returned (.bool true) ∧ Below w.heap.size w w' := by
  go_enter Try.func6, Try.ntmps6
  go_wp2_with (first | (go_at_call 10; refine (head_any _).mono ?_; rintro e w0 ⟨rfl, hb0⟩; have hz0 := hb0.size; try simp at hz0) | (go_at_call 15; refine (scale_any _ _ _ _).mono ?_; rintro e w3 ⟨rfl, hb3⟩; have hz3 := hb3.size; try simp at hz3))
  go_ret
  exact ⟨rfl, by repeat (first | exact Below.refl _ _ | assumption | apply Below.drew | refine Below.setCell ?_ (by first | omega | (simp; done) | (simp; omega)) _ | refine Below.alloc ?_ (by first | omega | (simp; done) | (simp; omega)) _ | refine Below.call (by assumption) ?_ (by first | omega | (simp; done) | (simp; omega)))⟩

theorem w02BD (n m a b : Int) (w : World) (h1 : n < m) (e1 : scaleE n a b = 0) (e2 : (scaleE m a b == 0) = false) (e2' : (scaleE m a b != 0) = true) (hn : decide (n < 0) = true) :
    Calls Try.prog 6 #[.int .i64 n, .int .i64 m, .int .i64 a, .int .i64 a, .int .i64 b] w fun e w' => e = .returned (.bool true) ∧ Below w.heap.size w w' := by
  go_enter Try.func6, Try.ntmps6
  go_wp2_with (first | (go_at_call 10; refine (head_any _).mono ?_; rintro e w0 ⟨rfl, hb0⟩; have hz0 := hb0.size; try simp at hz0) | (go_at_call 15; refine (scale_any _ _ _ _).mono ?_; rintro e w3 ⟨rfl, hb3⟩; have hz3 := hb3.size; try simp at hz3))
  go_ret
  exact ⟨rfl, by repeat (first | exact Below.refl _ _ | assumption | apply Below.drew | refine Below.setCell ?_ (by first | omega | (simp; done) | (simp; omega)) _ | refine Below.alloc ?_ (by first | omega | (simp; done) | (simp; omega)) _ | refine Below.call (by assumption) ?_ (by first | omega | (simp; done) | (simp; omega)))⟩

theorem w02CC (n m a b : Int) (w : World) (h1 : n < m) (e1 : (scaleE n a b == 0) = false) (e1' : (scaleE n a b != 0) = true) :
    Calls Try.prog 6 #[.int .i64 n, .int .i64 m, .int .i64 a, .int .i64 a, .int .i64 b] w fun e w' => e = .returned (.bool true) ∧ Below w.heap.size w w' := by
  go_enter Try.func6, Try.ntmps6
  go_wp2_with (first | (go_at_call 10; refine (head_any _).mono ?_; rintro e w0 ⟨rfl, hb0⟩; have hz0 := hb0.size; try simp at hz0) | (go_at_call 15; refine (scale_any _ _ _ _).mono ?_; rintro e w3 ⟨rfl, hb3⟩; have hz3 := hb3.size; try simp at hz3))
  go_ret
  exact ⟨rfl, by repeat (first | exact Below.refl _ _ | assumption | apply Below.drew | refine Below.setCell ?_ (by first | omega | (simp; done) | (simp; omega)) _ | refine Below.alloc ?_ (by first | omega | (simp; done) | (simp; omega)) _ | refine Below.call (by assumption) ?_ (by first | omega | (simp; done) | (simp; omega)))⟩

theorem walk02 (n m a b : Int) (w : World) (h1 : n < m) :
    Calls Try.prog 6 #[.int .i64 n, .int .i64 m, .int .i64 a, .int .i64 a, .int .i64 b] w fun e w' => e = .returned (.bool true) ∧ Below w.heap.size w w' := by
  by_cases e3 : scaleE n a b = 0
  · by_cases e4 : scaleE n a b = 0
    · by_cases hn : 0 ≤ n
      ·
        by_cases e1 : scaleE n a b = 0
        · by_cases e2 : scaleE m a b = 0
          ·
            have p := mono1 n m a b (by omega) e1 e2
            have q := mono2 n a a b (by omega) hn e3 e4
            exact w02AA n m a b w h1 e1 e2 (by simp; omega) (by simp; omega) (by simp; omega) (by simp; omega)
          ·
            have q := mono2 n a a b (by omega) hn e3 e4
            exact w02BA n m a b w h1 e1 (ne_forms e2).1 (ne_forms e2).2 (by simp; omega)
        ·
          first | exact absurd (by assumption) e1 | exact absurd (by assumption) e2 | exact absurd (by assumption) e3 | exact absurd (by assumption) e4
      ·
        by_cases e1 : scaleE n a b = 0
        · by_cases e2 : scaleE m a b = 0
          ·
            have p := mono1 n m a b (by omega) e1 e2
            exact w02AD n m a b w h1 e1 e2 (by simp; omega) (by simp; omega) (by simp; omega) (by simp; omega)
          ·
            exact w02BD n m a b w h1 e1 (ne_forms e2).1 (ne_forms e2).2 (by simp; omega)
        ·
          first | exact absurd (by assumption) e1 | exact absurd (by assumption) e2 | exact absurd (by assumption) e3 | exact absurd (by assumption) e4
    ·
      by_cases e1 : scaleE n a b = 0
      · by_cases e2 : scaleE m a b = 0
        ·
          first | exact absurd (by assumption) e1 | exact absurd (by assumption) e2 | exact absurd (by assumption) e3 | exact absurd (by assumption) e4
        ·
          first | exact absurd (by assumption) e1 | exact absurd (by assumption) e2 | exact absurd (by assumption) e3 | exact absurd (by assumption) e4
      ·
        first | exact absurd (by assumption) e1 | exact absurd (by assumption) e2 | exact absurd (by assumption) e3 | exact absurd (by assumption) e4
  ·
    by_cases e1 : scaleE n a b = 0
    · by_cases e2 : scaleE m a b = 0
      ·
        first | exact absurd (by assumption) e1 | exact absurd (by assumption) e2 | exact absurd (by assumption) e3 | exact absurd (by assumption) e4
      ·
        first | exact absurd (by assumption) e1 | exact absurd (by assumption) e2 | exact absurd (by assumption) e3 | exact absurd (by assumption) e4
    ·
      exact w02CC n m a b w h1 (ne_forms e1).1 (ne_forms e1).2

theorem w10AA (n m a c b : Int) (w : World) (h1 : m < n) (h2 : a < c) (e1 : scaleE m a b = 0) (e2 : scaleE n a b = 0) (e4 : scaleE n c b = 0) (p1 : decide (scaleL m a b ≤ scaleL n a b) = true) (p2 : decide (scaleH m a b ≤ scaleH n a b) = true) (p3 : decide (scaleL m a b ≤ scaleH m a b) = true) (hn : decide (n < 0) = false) (q1 : decide (scaleL n a b ≤ scaleL n c b) = true) (q2 : decide (scaleH n a b ≤ scaleH n c b) = true) :
    Calls Try.prog 6 #[.int .i64 n, .int .i64 m, .int .i64 a, .int .i64 c, .int .i64 b] w fun e w' => e = .returned (.bool true) ∧ Below w.heap.size w w' := by
  go_enter Try.func6, Try.ntmps6
  go_wp2_with (first | (go_at_call 10; refine (head_any _).mono ?_; rintro e w0 ⟨rfl, hb0⟩; have hz0 := hb0.size; try simp at hz0) | (go_at_call 15; refine (scale_any _ _ _ _).mono ?_; rintro e w3 ⟨rfl, hb3⟩; have hz3 := hb3.size; try simp at hz3))
  go_ret
  exact ⟨rfl, by repeat (first | exact Below.refl _ _ | assumption | apply Below.drew | refine Below.setCell ?_ (by first | omega | (simp; done) | (simp; omega)) _ | refine Below.alloc ?_ (by first | omega | (simp; done) | (simp; omega)) _ | refine Below.call (by assumption) ?_ (by first | omega | (simp; done) | (simp; omega)))⟩

theorem w10AD (n m a c b : Int) (w : World) (h1 : m < n) (h2 : a < c) (e1 : scaleE m a b = 0) (e2 : scaleE n a b = 0) (e4 : scaleE n c b = 0) (p1 : decide (scaleL m a b ≤ scaleL n a b) = true) (p2 : decide (scaleH m a b ≤ scaleH n a b) = true) (p3 : decide (scaleL m a b ≤ scaleH m a b) = true) (hn : decide (n < 0) = true) :
    Calls Try.prog 6 #[.int .i64 n, .int .i64 m, .int .i64 a, .int .i64 c, .int .i64 b] w fun e w' => e = .returned (.bool true) ∧ Below w.heap.size w w' := by
  go_enter Try.func6, Try.ntmps6
  go_wp2_with (first | (go_at_call 10; refine (head_any _).mono ?_; rintro e w0 ⟨rfl, hb0⟩; have hz0 := hb0.size; try simp at hz0) | (go_at_call 15; refine (scale_any _ _ _ _).mono ?_; rintro e w3 ⟨rfl, hb3⟩; have hz3 := hb3.size; try simp at hz3))
  go_ret
  exact ⟨rfl, by repeat (first | exact Below.refl _ _ | assumption | apply Below.drew | refine Below.setCell ?_ (by first | omega | (simp; done) | (simp; omega)) _ | refine Below.alloc ?_ (by first | omega | (simp; done) | (simp; omega)) _ | refine Below.call (by assumption) ?_ (by first | omega | (simp; done) | (simp; omega)))⟩

theorem w10AB (n m a c b : Int) (w : World) (h1 : m < n) (h2 : a < c) (e1 : scaleE m a b = 0) (e2 : scaleE n a b = 0) (e4 : (scaleE n c b == 0) = false) (e4' : (scaleE n c b != 0) = true) (p1 : decide (scaleL m a b ≤ scaleL n a b) = true) (p2 : decide (scaleH m a b ≤ scaleH n a b) = true) (p3 : decide (scaleL m a b ≤ scaleH m a b) = true) :
    Calls Try.prog 6 #[.int .i64 n, .int .i64 m, .int .i64 a, .int .i64 c, .int .i64 b] w fun e w' => e = .returned (.bool true) ∧ Below w.heap.size w w' := by
  go_enter Try.func6, Try.ntmps6
  go_wp2_with (first | (go_at_call 10; refine (head_any _).mono ?_; rintro e w0 ⟨rfl, hb0⟩; have hz0 := hb0.size; try simp at hz0) | (go_at_call 15; refine (scale_any _ _ _ _).mono ?_; rintro e w3 ⟨rfl, hb3⟩; have hz3 := hb3.size; try simp at hz3))
  go_ret
  exact ⟨rfl, by repeat (first | exact Below.refl _ _ | assumption | apply Below.drew | refine Below.setCell ?_ (by first | omega | (simp; done) | (simp; omega)) _ | refine Below.alloc ?_ (by first | omega | (simp; done) | (simp; omega)) _ | refine Below.call (by assumption) ?_ (by first | omega | (simp; done) | (simp; omega)))⟩

theorem w10BC (n m a c b : Int) (w : World) (h1 : m < n) (h2 : a < c) (e1 : scaleE m a b = 0) (e2 : (scaleE n a b == 0) = false) (e2' : (scaleE n a b != 0) = true) :
    Calls Try.prog 6 #[.int .i64 n, .int .i64 m, .int .i64 a, .int .i64 c, .int .i64 b] w fun e w' => e = .returned (.bool true) ∧ Below w.heap.size w w' := by
  go_enter Try.func6, Try.ntmps6
  go_wp2_with (first | (go_at_call 10; refine (head_any _).mono ?_; rintro e w0 ⟨rfl, hb0⟩; have hz0 := hb0.size; try simp at hz0) | (go_at_call 15; refine (scale_any _ _ _ _).mono ?_; rintro e w3 ⟨rfl, hb3⟩; have hz3 := hb3.size; try simp at hz3))
  go_ret
  exact ⟨rfl, by repeat (first | exact Below.refl _ _ | assumption | apply Below.drew | refine Below.setCell ?_ (by first | omega | (simp; done) | (simp; omega)) _ | refine Below.alloc ?_ (by first | omega | (simp; done) | (simp; omega)) _ | refine Below.call (by assumption) ?_ (by first | omega | (simp; done) | (simp; omega)))⟩

theorem w10CA (n m a c b : Int) (w : World) (h1 : m < n) (h2 : a < c) (e1 : (scaleE m a b == 0) = false) (e1' : (scaleE m a b != 0) = true) (e3 : scaleE n a b = 0) (e4 : scaleE n c b = 0) (hn : decide (n < 0) = false) (q1 : decide (scaleL n a b ≤ scaleL n c b) = true) (q2 : decide (scaleH n a b ≤ scaleH n c b) = true) :
    Calls Try.prog 6 #[.int .i64 n, .int .i64 m, .int .i64 a, .int .i64 c, .int .i64 b] w fun e w' => e = .returned (.bool true) ∧ Below w.heap.size w w' := by
  go_enter Try.func6, Try.ntmps6
  go_wp2_with (first | (go_at_call 10; refine (head_any _).mono ?_; rintro e w0 ⟨rfl, hb0⟩; have hz0 := hb0.size; try simp at hz0) | (go_at_call 15; refine (scale_any _ _ _ _).mono ?_; rintro e w3 ⟨rfl, hb3⟩; have hz3 := hb3.size; try simp at hz3))
  go_ret
  exact ⟨rfl, by repeat (first | exact Below.refl _ _ | assumption | apply Below.drew | refine Below.setCell ?_ (by first | omega | (simp; done) | (simp; omega)) _ | refine Below.alloc ?_ (by first | omega | (simp; done) | (simp; omega)) _ | refine Below.call (by assumption) ?_ (by first | omega | (simp; done) | (simp; omega)))⟩

theorem w10CD (n m a c b : Int) (w : World) (h1 : m < n) (h2 : a < c) (e1 : (scaleE m a b == 0) = false) (e1' : (scaleE m a b != 0) = true) (e3 : scaleE n a b = 0) (e4 : scaleE n c b = 0) (hn : decide (n < 0) = true) :
    Calls Try.prog 6 #[.int .i64 n, .int .i64 m, .int .i64 a, .int .i64 c, .int .i64 b] w fun e w' => e = .returned (.bool true) ∧ Below w.heap.size w w' := by
  go_enter Try.func6, Try.ntmps6
  go_wp2_with (first | (go_at_call 10; refine (head_any _).mono ?_; rintro e w0 ⟨rfl, hb0⟩; have hz0 := hb0.size; try simp at hz0) | (go_at_call 15; refine (scale_any _ _ _ _).mono ?_; rintro e w3 ⟨rfl, hb3⟩; have hz3 := hb3.size; try simp at hz3))
  go_ret
  exact ⟨rfl, by repeat (first | exact Below.refl _ _ | assumption | apply Below.drew | refine Below.setCell ?_ (by first | omega | (simp; done) | (simp; omega)) _ | refine Below.alloc ?_ (by first | omega | (simp; done) | (simp; omega)) _ | refine Below.call (by assumption) ?_ (by first | omega | (simp; done) | (simp; omega)))⟩

theorem w10CB (n m a c b : Int) (w : World) (h1 : m < n) (h2 : a < c) (e1 : (scaleE m a b == 0) = false) (e1' : (scaleE m a b != 0) = true) (e3 : scaleE n a b = 0) (e4 : (scaleE n c b == 0) = false) (e4' : (scaleE n c b != 0) = true) :
    Calls Try.prog 6 #[.int .i64 n, .int .i64 m, .int .i64 a, .int .i64 c, .int .i64 b] w fun e w' => e = .returned (.bool true) ∧ Below w.heap.size w w' := by
  go_enter Try.func6, Try.ntmps6
  go_wp2_with (first | (go_at_call 10; refine (head_any _).mono ?_; rintro e w0 ⟨rfl, hb0⟩; have hz0 := hb0.size; try simp at hz0) | (go_at_call 15; refine (scale_any _ _ _ _).mono ?_; rintro e w3 ⟨rfl, hb3⟩; have hz3 := hb3.size; try simp at hz3))
  go_ret
  exact ⟨rfl, by repeat (first | exact Below.refl _ _ | assumption | apply Below.drew | refine Below.setCell ?_ (by first | omega | (simp; done) | (simp; omega)) _ | refine Below.alloc ?_ (by first | omega | (simp; done) | (simp; omega)) _ | refine Below.call (by assumption) ?_ (by first | omega | (simp; done) | (simp; omega)))⟩

theorem w10CC (n m a c b : Int) (w : World) (h1 : m < n) (h2 : a < c) (e1 : (scaleE m a b == 0) = false) (e1' : (scaleE m a b != 0) = true) (e3 : (scaleE n a b == 0) = false) (e3' : (scaleE n a b != 0) = true) :
    Calls Try.prog 6 #[.int .i64 n, .int .i64 m, .int .i64 a, .int .i64 c, .int .i64 b] w fun e w' => e = .returned (.bool true) ∧ Below w.heap.size w w' := by
  go_enter Try.func6, Try.ntmps6
  go_wp2_with (first | (go_at_call 10; refine (head_any _).mono ?_; rintro e w0 ⟨rfl, hb0⟩; have hz0 := hb0.size; try simp at hz0) | (go_at_call 15; refine (scale_any _ _ _ _).mono ?_; rintro e w3 ⟨rfl, hb3⟩; have hz3 := hb3.size; try simp at hz3))
  go_ret
  exact ⟨rfl, by repeat (first | exact Below.refl _ _ | assumption | apply Below.drew | refine Below.setCell ?_ (by first | omega | (simp; done) | (simp; omega)) _ | refine Below.alloc ?_ (by first | omega | (simp; done) | (simp; omega)) _ | refine Below.call (by assumption) ?_ (by first | omega | (simp; done) | (simp; omega)))⟩

theorem walk10 (n m a c b : Int) (w : World) (h1 : m < n) (h2 : a < c) :
    Calls Try.prog 6 #[.int .i64 n, .int .i64 m, .int .i64 a, .int .i64 c, .int .i64 b] w fun e w' => e = .returned (.bool true) ∧ Below w.heap.size w w' := by
  by_cases e3 : scaleE n a b = 0
  · by_cases e4 : scaleE n c b = 0
    · by_cases hn : 0 ≤ n
      ·
        by_cases e1 : scaleE m a b = 0
        · by_cases e2 : scaleE n a b = 0
          ·
            have p := mono1 m n a b (by omega) e1 e2
            have q := mono2 n a c b (by omega) hn e3 e4
            exact w10AA n m a c b w h1 h2 e1 e2 e4 (by simp; omega) (by simp; omega) (by simp; omega) (by simp; omega) (by simp; omega) (by simp; omega)
          ·
            first | exact absurd (by assumption) e1 | exact absurd (by assumption) e2 | exact absurd (by assumption) e3 | exact absurd (by assumption) e4
        ·
          have q := mono2 n a c b (by omega) hn e3 e4
          exact w10CA n m a c b w h1 h2 (ne_forms e1).1 (ne_forms e1).2 e3 e4 (by simp; omega) (by simp; omega) (by simp; omega)
      ·
        by_cases e1 : scaleE m a b = 0
        · by_cases e2 : scaleE n a b = 0
          ·
            have p := mono1 m n a b (by omega) e1 e2
            exact w10AD n m a c b w h1 h2 e1 e2 e4 (by simp; omega) (by simp; omega) (by simp; omega) (by simp; omega)
          ·
            first | exact absurd (by assumption) e1 | exact absurd (by assumption) e2 | exact absurd (by assumption) e3 | exact absurd (by assumption) e4
        ·
          exact w10CD n m a c b w h1 h2 (ne_forms e1).1 (ne_forms e1).2 e3 e4 (by simp; omega)
    ·
      by_cases e1 : scaleE m a b = 0
      · by_cases e2 : scaleE n a b = 0
        ·
          have p := mono1 m n a b (by omega) e1 e2
          exact w10AB n m a c b w h1 h2 e1 e2 (ne_forms e4).1 (ne_forms e4).2 (by simp; omega) (by simp; omega) (by simp; omega)
        ·
          first | exact absurd (by assumption) e1 | exact absurd (by assumption) e2 | exact absurd (by assumption) e3 | exact absurd (by assumption) e4
      ·
        exact w10CB n m a c b w h1 h2 (ne_forms e1).1 (ne_forms e1).2 e3 (ne_forms e4).1 (ne_forms e4).2
  ·
    by_cases e1 : scaleE m a b = 0
    · by_cases e2 : scaleE n a b = 0
      ·
        first | exact absurd (by assumption) e1 | exact absurd (by assumption) e2 | exact absurd (by assumption) e3 | exact absurd (by assumption) e4
      ·
        exact w10BC n m a c b w h1 h2 e1 (ne_forms e2).1 (ne_forms e2).2
    ·
      exact w10CC n m a c b w h1 h2 (ne_forms e1).1 (ne_forms e1).2 (ne_forms e3).1 (ne_forms e3).2

theorem w11AA (n m a c b : Int) (w : World) (h1 : m < n) (h2 : c < a) (e1 : scaleE m a b = 0) (e2 : scaleE n a b = 0) (e3 : scaleE n c b = 0) (p1 : decide (scaleL m a b ≤ scaleL n a b) = true) (p2 : decide (scaleH m a b ≤ scaleH n a b) = true) (p3 : decide (scaleL m a b ≤ scaleH m a b) = true) (hn : decide (n < 0) = false) (q1 : decide (scaleL n c b ≤ scaleL n a b) = true) (q2 : decide (scaleH n c b ≤ scaleH n a b) = true) :
    Calls Try.prog 6 #[.int .i64 n, .int .i64 m, .int .i64 a, .int .i64 c, .int .i64 b] w fun e w' => e = .returned (.bool true) ∧ Below w.heap.size w w' := by
  go_enter Try.func6, Try.ntmps6
  go_wp2_with (first | (go_at_call 10; refine (head_any _).mono ?_; rintro e w0 ⟨rfl, hb0⟩; have hz0 := hb0.size; try simp at hz0) | (go_at_call 15; refine (scale_any _ _ _ _).mono ?_; rintro e w3 ⟨rfl, hb3⟩; have hz3 := hb3.size; try simp at hz3))
  go_ret
  exact ⟨rfl, by repeat (first | exact Below.refl _ _ | assumption | apply Below.drew | refine Below.setCell ?_ (by first | omega | (simp; done) | (simp; omega)) _ | refine Below.alloc ?_ (by first | omega | (simp; done) | (simp; omega)) _ | refine Below.call (by assumption) ?_ (by first | omega | (simp; done) | (simp; omega)))⟩

theorem w11AD (n m a c b : Int) (w : World) (h1 : m < n) (h2 : c < a) (e1 : scaleE m a b = 0) (e2 : scaleE n a b = 0) (e3 : scaleE n c b = 0) (p1 : decide (scaleL m a b ≤ scaleL n a b) = true) (p2 : decide (scaleH m a b ≤ scaleH n a b) = true) (p3 : decide (scaleL m a b ≤ scaleH m a b) = true) (hn : decide (n < 0) = true) :
    Calls Try.prog 6 #[.int .i64 n, .int .i64 m, .int .i64 a, .int .i64 c, .int .i64 b] w fun e w' => e = .returned (.bool true) ∧ Below w.heap.size w w' := by
  go_enter Try.func6, Try.ntmps6
  go_wp2_with (first | (go_at_call 10; refine (head_any _).mono ?_; rintro e w0 ⟨rfl, hb0⟩; have hz0 := hb0.size; try simp at hz0) | (go_at_call 15; refine (scale_any _ _ _ _).mono ?_; rintro e w3 ⟨rfl, hb3⟩; have hz3 := hb3.size; try simp at hz3))
  go_ret
  exact ⟨rfl, by repeat (first | exact Below.refl _ _ | assumption | apply Below.drew | refine Below.setCell ?_ (by first | omega | (simp; done) | (simp; omega)) _ | refine Below.alloc ?_ (by first | omega | (simp; done) | (simp; omega)) _ | refine Below.call (by assumption) ?_ (by first | omega | (simp; done) | (simp; omega)))⟩

theorem w11AC (n m a c b : Int) (w : World) (h1 : m < n) (h2 : c < a) (e1 : scaleE m a b = 0) (e2 : scaleE n a b = 0) (e3 : (scaleE n c b == 0) = false) (e3' : (scaleE n c b != 0) = true) (p1 : decide (scaleL m a b ≤ scaleL n a b) = true) (p2 : decide (scaleH m a b ≤ scaleH n a b) = true) (p3 : decide (scaleL m a b ≤ scaleH m a b) = true) :
    Calls Try.prog 6 #[.int .i64 n, .int .i64 m, .int .i64 a, .int .i64 c, .int .i64 b] w fun e w' => e = .returned (.bool true) ∧ Below w.heap.size w w' := by
  go_enter Try.func6, Try.ntmps6
  go_wp2_with (first | (go_at_call 10; refine (head_any _).mono ?_; rintro e w0 ⟨rfl, hb0⟩; have hz0 := hb0.size; try simp at hz0) | (go_at_call 15; refine (scale_any _ _ _ _).mono ?_; rintro e w3 ⟨rfl, hb3⟩; have hz3 := hb3.size; try simp at hz3))
  go_ret
  exact ⟨rfl, by repeat (first | exact Below.refl _ _ | assumption | apply Below.drew | refine Below.setCell ?_ (by first | omega | (simp; done) | (simp; omega)) _ | refine Below.alloc ?_ (by first | omega | (simp; done) | (simp; omega)) _ | refine Below.call (by assumption) ?_ (by first | omega | (simp; done) | (simp; omega)))⟩

theorem w11BB (n m a c b : Int) (w : World) (h1 : m < n) (h2 : c < a) (e1 : scaleE m a b = 0) (e2 : (scaleE n a b == 0) = false) (e2' : (scaleE n a b != 0) = true) (e3 : scaleE n c b = 0) :
    Calls Try.prog 6 #[.int .i64 n, .int .i64 m, .int .i64 a, .int .i64 c, .int .i64 b] w fun e w' => e = .returned (.bool true) ∧ Below w.heap.size w w' := by
  go_enter Try.func6, Try.ntmps6
  go_wp2_with (first | (go_at_call 10; refine (head_any _).mono ?_; rintro e w0 ⟨rfl, hb0⟩; have hz0 := hb0.size; try simp at hz0) | (go_at_call 15; refine (scale_any _ _ _ _).mono ?_; rintro e w3 ⟨rfl, hb3⟩; have hz3 := hb3.size; try simp at hz3))
  go_ret
  exact ⟨rfl, by repeat (first | exact Below.refl _ _ | assumption | apply Below.drew | refine Below.setCell ?_ (by first | omega | (simp; done) | (simp; omega)) _ | refine Below.alloc ?_ (by first | omega | (simp; done) | (simp; omega)) _ | refine Below.call (by assumption) ?_ (by first | omega | (simp; done) | (simp; omega)))⟩

theorem w11BC (n m a c b : Int) (w : World) (h1 : m < n) (h2 : c < a) (e1 : scaleE m a b = 0) (e2 : (scaleE n a b == 0) = false) (e2' : (scaleE n a b != 0) = true) (e3 : (scaleE n c b == 0) = false) (e3' : (scaleE n c b != 0) = true) :
    Calls Try.prog 6 #[.int .i64 n, .int .i64 m, .int .i64 a, .int .i64 c, .int .i64 b] w fun e w' => e = .returned (.bool true) ∧ Below w.heap.size w w' := by
  go_enter Try.func6, Try.ntmps6
  go_wp2_with (first | (go_at_call 10; refine (head_any _).mono ?_; rintro e w0 ⟨rfl, hb0⟩; have hz0 := hb0.size; try simp at hz0) | (go_at_call 15; refine (scale_any _ _ _ _).mono ?_; rintro e w3 ⟨rfl, hb3⟩; have hz3 := hb3.size; try simp at hz3))
  go_ret
  exact ⟨rfl, by repeat (first | exact Below.refl _ _ | assumption | apply Below.drew | refine Below.setCell ?_ (by first | omega | (simp; done) | (simp; omega)) _ | refine Below.alloc ?_ (by first | omega | (simp; done) | (simp; omega)) _ | refine Below.call (by assumption) ?_ (by first | omega | (simp; done) | (simp; omega)))⟩

theorem w11CA (n m a c b : Int) (w : World) (h1 : m < n) (h2 : c < a) (e1 : (scaleE m a b == 0) = false) (e1' : (scaleE m a b != 0) = true) (e3 : scaleE n c b = 0) (e4 : scaleE n a b = 0) (hn : decide (n < 0) = false) (q1 : decide (scaleL n c b ≤ scaleL n a b) = true) (q2 : decide (scaleH n c b ≤ scaleH n a b) = true) :
    Calls Try.prog 6 #[.int .i64 n, .int .i64 m, .int .i64 a, .int .i64 c, .int .i64 b] w fun e w' => e = .returned (.bool true) ∧ Below w.heap.size w w' := by
  go_enter Try.func6, Try.ntmps6
  go_wp2_with (first | (go_at_call 10; refine (head_any _).mono ?_; rintro e w0 ⟨rfl, hb0⟩; have hz0 := hb0.size; try simp at hz0) | (go_at_call 15; refine (scale_any _ _ _ _).mono ?_; rintro e w3 ⟨rfl, hb3⟩; have hz3 := hb3.size; try simp at hz3))
  go_ret
  exact ⟨rfl, by repeat (first | exact Below.refl _ _ | assumption | apply Below.drew | refine Below.setCell ?_ (by first | omega | (simp; done) | (simp; omega)) _ | refine Below.alloc ?_ (by first | omega | (simp; done) | (simp; omega)) _ | refine Below.call (by assumption) ?_ (by first | omega | (simp; done) | (simp; omega)))⟩

theorem w11CD (n m a c b : Int) (w : World) (h1 : m < n) (h2 : c < a) (e1 : (scaleE m a b == 0) = false) (e1' : (scaleE m a b != 0) = true) (e3 : scaleE n c b = 0) (e4 : scaleE n a b = 0) (hn : decide (n < 0) = true) :
    Calls Try.prog 6 #[.int .i64 n, .int .i64 m, .int .i64 a, .int .i64 c, .int .i64 b] w fun e w' => e = .returned (.bool true) ∧ Below w.heap.size w w' := by
  go_enter Try.func6, Try.ntmps6
  go_wp2_with (first | (go_at_call 10; refine (head_any _).mono ?_; rintro e w0 ⟨rfl, hb0⟩; have hz0 := hb0.size; try simp at hz0) | (go_at_call 15; refine (scale_any _ _ _ _).mono ?_; rintro e w3 ⟨rfl, hb3⟩; have hz3 := hb3.size; try simp at hz3))
  go_ret
  exact ⟨rfl, by repeat (first | exact Below.refl _ _ | assumption | apply Below.drew | refine Below.setCell ?_ (by first | omega | (simp; done) | (simp; omega)) _ | refine Below.alloc ?_ (by first | omega | (simp; done) | (simp; omega)) _ | refine Below.call (by assumption) ?_ (by first | omega | (simp; done) | (simp; omega)))⟩

theorem w11CB (n m a c b : Int) (w : World) (h1 : m < n) (h2 : c < a) (e1 : (scaleE m a b == 0) = false) (e1' : (scaleE m a b != 0) = true) (e3 : scaleE n c b = 0) (e4 : (scaleE n a b == 0) = false) (e4' : (scaleE n a b != 0) = true) :
    Calls Try.prog 6 #[.int .i64 n, .int .i64 m, .int .i64 a, .int .i64 c, .int .i64 b] w fun e w' => e = .returned (.bool true) ∧ Below w.heap.size w w' := by
  go_enter Try.func6, Try.ntmps6
  go_wp2_with (first | (go_at_call 10; refine (head_any _).mono ?_; rintro e w0 ⟨rfl, hb0⟩; have hz0 := hb0.size; try simp at hz0) | (go_at_call 15; refine (scale_any _ _ _ _).mono ?_; rintro e w3 ⟨rfl, hb3⟩; have hz3 := hb3.size; try simp at hz3))
  go_ret
  exact ⟨rfl, by repeat (first | exact Below.refl _ _ | assumption | apply Below.drew | refine Below.setCell ?_ (by first | omega | (simp; done) | (simp; omega)) _ | refine Below.alloc ?_ (by first | omega | (simp; done) | (simp; omega)) _ | refine Below.call (by assumption) ?_ (by first | omega | (simp; done) | (simp; omega)))⟩

theorem w11CC (n m a c b : Int) (w : World) (h1 : m < n) (h2 : c < a) (e1 : (scaleE m a b == 0) = false) (e1' : (scaleE m a b != 0) = true) (e3 : (scaleE n c b == 0) = false) (e3' : (scaleE n c b != 0) = true) :
    Calls Try.prog 6 #[.int .i64 n, .int .i64 m, .int .i64 a, .int .i64 c, .int .i64 b] w fun e w' => e = .returned (.bool true) ∧ Below w.heap.size w w' := by
  go_enter Try.func6, Try.ntmps6
  go_wp2_with (first | (go_at_call 10; refine (head_any _).mono ?_; rintro e w0 ⟨rfl, hb0⟩; have hz0 := hb0.size; try simp at hz0) | (go_at_call 15; refine (scale_any _ _ _ _).mono ?_; rintro e w3 ⟨rfl, hb3⟩; have hz3 := hb3.size; try simp at hz3))
  go_ret
  exact ⟨rfl, by repeat (first | exact Below.refl _ _ | assumption | apply Below.drew | refine Below.setCell ?_ (by first | omega | (simp; done) | (simp; omega)) _ | refine Below.alloc ?_ (by first | omega | (simp; done) | (simp; omega)) _ | refine Below.call (by assumption) ?_ (by first | omega | (simp; done) | (simp; omega)))⟩

theorem walk11 (n m a c b : Int) (w : World) (h1 : m < n) (h2 : c < a) :
    Calls Try.prog 6 #[.int .i64 n, .int .i64 m, .int .i64 a, .int .i64 c, .int .i64 b] w fun e w' => e = .returned (.bool true) ∧ Below w.heap.size w w' := by
  by_cases e3 : scaleE n c b = 0
  · by_cases e4 : scaleE n a b = 0
    · by_cases hn : 0 ≤ n
      ·
        by_cases e1 : scaleE m a b = 0
        · by_cases e2 : scaleE n a b = 0
          ·
            have p := mono1 m n a b (by omega) e1 e2
            have q := mono2 n c a b (by omega) hn e3 e4
            exact w11AA n m a c b w h1 h2 e1 e2 e3 (by simp; omega) (by simp; omega) (by simp; omega) (by simp; omega) (by simp; omega) (by simp; omega)
          ·
            first | exact absurd (by assumption) e1 | exact absurd (by assumption) e2 | exact absurd (by assumption) e3 | exact absurd (by assumption) e4
        ·
          have q := mono2 n c a b (by omega) hn e3 e4
          exact w11CA n m a c b w h1 h2 (ne_forms e1).1 (ne_forms e1).2 e3 e4 (by simp; omega) (by simp; omega) (by simp; omega)
      ·
        by_cases e1 : scaleE m a b = 0
        · by_cases e2 : scaleE n a b = 0
          ·
            have p := mono1 m n a b (by omega) e1 e2
            exact w11AD n m a c b w h1 h2 e1 e2 e3 (by simp; omega) (by simp; omega) (by simp; omega) (by simp; omega)
          ·
            first | exact absurd (by assumption) e1 | exact absurd (by assumption) e2 | exact absurd (by assumption) e3 | exact absurd (by assumption) e4
        ·
          exact w11CD n m a c b w h1 h2 (ne_forms e1).1 (ne_forms e1).2 e3 e4 (by simp; omega)
    ·
      by_cases e1 : scaleE m a b = 0
      · by_cases e2 : scaleE n a b = 0
        ·
          first | exact absurd (by assumption) e1 | exact absurd (by assumption) e2 | exact absurd (by assumption) e3 | exact absurd (by assumption) e4
        ·
          exact w11BB n m a c b w h1 h2 e1 (ne_forms e2).1 (ne_forms e2).2 e3
      ·
        exact w11CB n m a c b w h1 h2 (ne_forms e1).1 (ne_forms e1).2 e3 (ne_forms e4).1 (ne_forms e4).2
  ·
    by_cases e1 : scaleE m a b = 0
    · by_cases e2 : scaleE n a b = 0
      ·
        have p := mono1 m n a b (by omega) e1 e2
        exact w11AC n m a c b w h1 h2 e1 e2 (ne_forms e3).1 (ne_forms e3).2 (by simp; omega) (by simp; omega) (by simp; omega)
      ·
        exact w11BC n m a c b w h1 h2 e1 (ne_forms e2).1 (ne_forms e2).2 (ne_forms e3).1 (ne_forms e3).2
    ·
      exact w11CC n m a c b w h1 h2 (ne_forms e1).1 (ne_forms e1).2 (ne_forms e3).1 (ne_forms e3).2

theorem w12AA (n m a b : Int) (w : World) (h1 : m < n) (e1 : scaleE m a b = 0) (e2 : scaleE n a b = 0) (p1 : decide (scaleL m a b ≤ scaleL n a b) = true) (p2 : decide (scaleH m a b ≤ scaleH n a b) = true) (p3 : decide (scaleL m a b ≤ scaleH m a b) = true) (hn : decide (n < 0) = false) :
    Calls Try.prog 6 #[.int .i64 n, .int .i64 m, .int .i64 a, .int .i64 a, .int .i64 b] w fun e w' => e = .returned (.bool true) ∧ Below w.heap.size w w' := by
  go_enter Try.func6, Try.ntmps6
  go_wp2_with (first | (go_at_call 10; refine (head_any _).mono ?_; rintro e w0 ⟨rfl, hb0⟩; have hz0 := hb0.size; try simp at hz0) | (go_at_call 15; refine (scale_any _ _ _ _).mono ?_; rintro e w3 ⟨rfl, hb3⟩; have hz3 := hb3.size; try simp at hz3))
  go_ret
  exact ⟨rfl, by repeat (first | exact Below.refl _ _ | assumption | apply Below.drew | refine Below.setCell ?_ (by first | omega | (simp; done) | (simp; omega)) _ | refine Below.alloc ?_ (by first | omega | (simp; done) | (simp; omega)) _ | refine Below.call (by assumption) ?_ (by first | omega | (simp; done) | (simp; omega)))⟩

theorem w12AD (n m a b : Int) (w : World) (h1 : m < n) (e1 : scaleE m a b = 0) (e2 : scaleE n a b = 0) (p1 : decide (scaleL m a b ≤ scaleL n a b) = true) (p2 : decide (scaleH m a b ≤ scaleH n a b) = true) (p3 : decide (scaleL m a b ≤ scaleH m a b) = true) (hn : decide (n < 0) = true) :
    Calls Try.prog 6 #[.int .i64 n, .int .i64 m, .int .i64 a, .int .i64 a, .int .i64 b] w fun e w' => e = .returned (.bool true) ∧ Below w.heap.size w w' := by
  go_enter Try.func6, Try.ntmps6
  go_wp2_with (first | (go_at_call 10; refine (head_any _).mono ?_; rintro e w0 ⟨rfl, hb0⟩; have hz0 := hb0.size; try simp at hz0) | (go_at_call 15; refine (scale_any _ _ _ _).mono ?_; rintro e w3 ⟨rfl, hb3⟩; have hz3 := hb3.size; try simp at hz3))
  go_ret
  exact ⟨rfl, by repeat (first | exact Below.refl _ _ | assumption | apply Below.drew | refine Below.setCell ?_ (by first | omega | (simp; done) | (simp; omega)) _ | refine Below.alloc ?_ (by first | omega | (simp; done) | (simp; omega)) _ | refine Below.call (by assumption) ?_ (by first | omega | (simp; done) | (simp; omega)))⟩

theorem w12BC (n m a b : Int) (w : World) (h1 : m < n) (e1 : scaleE m a b = 0) (e2 : (scaleE n a b == 0) = false) (e2' : (scaleE n a b != 0) = true) :
    Calls Try.prog 6 #[.int .i64 n, .int .i64 m, .int .i64 a, .int .i64 a, .int .i64 b] w fun e w' => e = .returned (.bool true) ∧ Below w.heap.size w w' := by
  go_enter Try.func6, Try.ntmps6
  go_wp2_with (first | (go_at_call 10; refine (head_any _).mono ?_; rintro e w0 ⟨rfl, hb0⟩; have hz0 := hb0.size; try simp at hz0) | (go_at_call 15; refine (scale_any _ _ _ _).mono ?_; rintro e w3 ⟨rfl, hb3⟩; have hz3 := hb3.size; try simp at hz3))
  go_ret
  exact ⟨rfl, by repeat (first | exact Below.refl _ _ | assumption | apply Below.drew | refine Below.setCell ?_ (by first | omega | (simp; done) | (simp; omega)) _ | refine Below.alloc ?_ (by first | omega | (simp; done) | (simp; omega)) _ | refine Below.call (by assumption) ?_ (by first | omega | (simp; done) | (simp; omega)))⟩

theorem w12CA (n m a b : Int) (w : World) (h1 : m < n) (e1 : (scaleE m a b == 0) = false) (e1' : (scaleE m a b != 0) = true) (e3 : scaleE n a b = 0) (hn : decide (n < 0) = false) :
    Calls Try.prog 6 #[.int .i64 n, .int .i64 m, .int .i64 a, .int .i64 a, .int .i64 b] w fun e w' => e = .returned (.bool true) ∧ Below w.heap.size w w' := by
  go_enter Try.func6, Try.ntmps6
  go_wp2_with (first | (go_at_call 10; refine (head_any _).mono ?_; rintro e w0 ⟨rfl, hb0⟩; have hz0 := hb0.size; try simp at hz0) | (go_at_call 15; refine (scale_any _ _ _ _).mono ?_; rintro e w3 ⟨rfl, hb3⟩; have hz3 := hb3.size; try simp at hz3))
  go_ret
  exact ⟨rfl, by repeat (first | exact Below.refl _ _ | assumption | apply Below.drew | refine Below.setCell ?_ (by first | omega | (simp; done) | (simp; omega)) _ | refine Below.alloc ?_ (by first | omega | (simp; done) | (simp; omega)) _ | refine Below.call (by assumption) ?_ (by first | omega | (simp; done) | (simp; omega)))⟩

theorem w12CD (n m a b : Int) (w : World) (h1 : m < n) (e1 : (scaleE m a b == 0) = false) (e1' : (scaleE m a b != 0) = true) (e3 : scaleE n a b = 0) (hn : decide (n < 0) = true) :
    Calls Try.prog 6 #[.int .i64 n, .int .i64 m, .int .i64 a, .int .i64 a, .int .i64 b] w fun e w' => e = .returned (.bool true) ∧ Below w.heap.size w w' := by
  go_enter Try.func6, Try.ntmps6
  go_wp2_with (first | (go_at_call 10; refine (head_any _).mono ?_; rintro e w0 ⟨rfl, hb0⟩; have hz0 := hb0.size; try simp at hz0) | (go_at_call 15; refine (scale_any _ _ _ _).mono ?_; rintro e w3 ⟨rfl, hb3⟩; have hz3 := hb3.size; try simp at hz3))
  go_ret
  exact ⟨rfl, by repeat (first | exact Below.refl _ _ | assumption | apply Below.drew | refine Below.setCell ?_ (by first | omega | (simp; done) | (simp; omega)) _ | refine Below.alloc ?_ (by first | omega | (simp; done) | (simp; omega)) _ | refine Below.call (by assumption) ?_ (by first | omega | (simp; done) | (simp; omega)))⟩

theorem w12CC (n m a b : Int) (w : World) (h1 : m < n) (e1 : (scaleE m a b == 0) = false) (e1' : (scaleE m a b != 0) = true) (e3 : (scaleE n a b == 0) = false) (e3' : (scaleE n a b != 0) = true) :
    Calls Try.prog 6 #[.int .i64 n, .int .i64 m, .int .i64 a, .int .i64 a, .int .i64 b] w fun e w' => e = .returned (.bool true) ∧ Below w.heap.size w w' := by
  go_enter Try.func6, Try.ntmps6
  go_wp2_with (first | (go_at_call 10; refine (head_any _).mono ?_; rintro e w0 ⟨rfl, hb0⟩; have hz0 := hb0.size; try simp at hz0) | (go_at_call 15; refine (scale_any _ _ _ _).mono ?_; rintro e w3 ⟨rfl, hb3⟩; have hz3 := hb3.size; try simp at hz3))
  go_ret
  exact ⟨rfl, by repeat (first | exact Below.refl _ _ | assumption | apply Below.drew | refine Below.setCell ?_ (by first | omega | (simp; done) | (simp; omega)) _ | refine Below.alloc ?_ (by first | omega | (simp; done) | (simp; omega)) _ | refine Below.call (by assumption) ?_ (by first | omega | (simp; done) | (simp; omega)))⟩

theorem walk12 (n m a b : Int) (w : World) (h1 : m < n) :
    Calls Try.prog 6 #[.int .i64 n, .int .i64 m, .int .i64 a, .int .i64 a, .int .i64 b] w fun e w' => e = .returned (.bool true) ∧ Below w.heap.size w w' := by
  by_cases e3 : scaleE n a b = 0
  · by_cases e4 : scaleE n a b = 0
    · by_cases hn : 0 ≤ n
      ·
        by_cases e1 : scaleE m a b = 0
        · by_cases e2 : scaleE n a b = 0
          ·
            have p := mono1 m n a b (by omega) e1 e2
            have q := mono2 n a a b (by omega) hn e3 e4
            exact w12AA n m a b w h1 e1 e2 (by simp; omega) (by simp; omega) (by simp; omega) (by simp; omega)
          ·
            first | exact absurd (by assumption) e1 | exact absurd (by assumption) e2 | exact absurd (by assumption) e3 | exact absurd (by assumption) e4
        ·
          have q := mono2 n a a b (by omega) hn e3 e4
          exact w12CA n m a b w h1 (ne_forms e1).1 (ne_forms e1).2 e3 (by simp; omega)
      ·
        by_cases e1 : scaleE m a b = 0
        · by_cases e2 : scaleE n a b = 0
          ·
            have p := mono1 m n a b (by omega) e1 e2
            exact w12AD n m a b w h1 e1 e2 (by simp; omega) (by simp; omega) (by simp; omega) (by simp; omega)
          ·
            first | exact absurd (by assumption) e1 | exact absurd (by assumption) e2 | exact absurd (by assumption) e3 | exact absurd (by assumption) e4
        ·
          exact w12CD n m a b w h1 (ne_forms e1).1 (ne_forms e1).2 e3 (by simp; omega)
    ·
      by_cases e1 : scaleE m a b = 0
      · by_cases e2 : scaleE n a b = 0
        ·
          first | exact absurd (by assumption) e1 | exact absurd (by assumption) e2 | exact absurd (by assumption) e3 | exact absurd (by assumption) e4
        ·
          first | exact absurd (by assumption) e1 | exact absurd (by assumption) e2 | exact absurd (by assumption) e3 | exact absurd (by assumption) e4
      ·
        first | exact absurd (by assumption) e1 | exact absurd (by assumption) e2 | exact absurd (by assumption) e3 | exact absurd (by assumption) e4
  ·
    by_cases e1 : scaleE m a b = 0
    · by_cases e2 : scaleE n a b = 0
      ·
        first | exact absurd (by assumption) e1 | exact absurd (by assumption) e2 | exact absurd (by assumption) e3 | exact absurd (by assumption) e4
      ·
        exact w12BC n m a b w h1 e1 (ne_forms e2).1 (ne_forms e2).2
    ·
      exact w12CC n m a b w h1 (ne_forms e1).1 (ne_forms e1).2 (ne_forms e3).1 (ne_forms e3).2

theorem w20AA (n a c b : Int) (w : World) (h2 : a < c) (e1 : scaleE n a b = 0) (e4 : scaleE n c b = 0) (p3 : decide (scaleL n a b ≤ scaleH n a b) = true) (hn : decide (n < 0) = false) (q1 : decide (scaleL n a b ≤ scaleL n c b) = true) (q2 : decide (scaleH n a b ≤ scaleH n c b) = true) :
    Calls Try.prog 6 #[.int .i64 n, .int .i64 n, .int .i64 a, .int .i64 c, .int .i64 b] w fun e w' => e = .returned (.bool true) ∧ Below w.heap.size w w' := by
  go_enter Try.func6, Try.ntmps6
  go_wp2_with (first | (go_at_call 10; refine (head_any _).mono ?_; rintro e w0 ⟨rfl, hb0⟩; have hz0 := hb0.size; try simp at hz0) | (go_at_call 15; refine (scale_any _ _ _ _).mono ?_; rintro e w3 ⟨rfl, hb3⟩; have hz3 := hb3.size; try simp at hz3))
  go_ret
  exact ⟨rfl, by repeat (first | exact Below.refl _ _ | assumption | apply Below.drew | refine Below.setCell ?_ (by first | omega | (simp; done) | (simp; omega)) _ | refine Below.alloc ?_ (by first | omega | (simp; done) | (simp; omega)) _ | refine Below.call (by assumption) ?_ (by first | omega | (simp; done) | (simp; omega)))⟩

theorem w20AD (n a c b : Int) (w : World) (h2 : a < c) (e1 : scaleE n a b = 0) (e4 : scaleE n c b = 0) (p3 : decide (scaleL n a b ≤ scaleH n a b) = true) (hn : decide (n < 0) = true) :
    Calls Try.prog 6 #[.int .i64 n, .int .i64 n, .int .i64 a, .int .i64 c, .int .i64 b] w fun e w' => e = .returned (.bool true) ∧ Below w.heap.size w w' := by
  go_enter Try.func6, Try.ntmps6
  go_wp2_with (first | (go_at_call 10; refine (head_any _).mono ?_; rintro e w0 ⟨rfl, hb0⟩; have hz0 := hb0.size; try simp at hz0) | (go_at_call 15; refine (scale_any _ _ _ _).mono ?_; rintro e w3 ⟨rfl, hb3⟩; have hz3 := hb3.size; try simp at hz3))
  go_ret
  exact ⟨rfl, by repeat (first | exact Below.refl _ _ | assumption | apply Below.drew | refine Below.setCell ?_ (by first | omega | (simp; done) | (simp; omega)) _ | refine Below.alloc ?_ (by first | omega | (simp; done) | (simp; omega)) _ | refine Below.call (by assumption) ?_ (by first | omega | (simp; done) | (simp; omega)))⟩

theorem w20AB (n a c b : Int) (w : World) (h2 : a < c) (e1 : scaleE n a b = 0) (e4 : (scaleE n c b == 0) = false) (e4' : (scaleE n c b != 0) = true) (p3 : decide (scaleL n a b ≤ scaleH n a b) = true) :
    Calls Try.prog 6 #[.int .i64 n, .int .i64 n, .int .i64 a, .int .i64 c, .int .i64 b] w fun e w' => e = .returned (.bool true) ∧ Below w.heap.size w w' := by
  go_enter Try.func6, Try.ntmps6
  go_wp2_with (first | (go_at_call 10; refine (head_any _).mono ?_; rintro e w0 ⟨rfl, hb0⟩; have hz0 := hb0.size; try simp at hz0) | (go_at_call 15; refine (scale_any _ _ _ _).mono ?_; rintro e w3 ⟨rfl, hb3⟩; have hz3 := hb3.size; try simp at hz3))
  go_ret
  exact ⟨rfl, by repeat (first | exact Below.refl _ _ | assumption | apply Below.drew | refine Below.setCell ?_ (by first | omega | (simp; done) | (simp; omega)) _ | refine Below.alloc ?_ (by first | omega | (simp; done) | (simp; omega)) _ | refine Below.call (by assumption) ?_ (by first | omega | (simp; done) | (simp; omega)))⟩

theorem w20CC (n a c b : Int) (w : World) (h2 : a < c) (e1 : (scaleE n a b == 0) = false) (e1' : (scaleE n a b != 0) = true) :
    Calls Try.prog 6 #[.int .i64 n, .int .i64 n, .int .i64 a, .int .i64 c, .int .i64 b] w fun e w' => e = .returned (.bool true) ∧ Below w.heap.size w w' := by
  go_enter Try.func6, Try.ntmps6
  go_wp2_with (first | (go_at_call 10; refine (head_any _).mono ?_; rintro e w0 ⟨rfl, hb0⟩; have hz0 := hb0.size; try simp at hz0) | (go_at_call 15; refine (scale_any _ _ _ _).mono ?_; rintro e w3 ⟨rfl, hb3⟩; have hz3 := hb3.size; try simp at hz3))
  go_ret
  exact ⟨rfl, by repeat (first | exact Below.refl _ _ | assumption | apply Below.drew | refine Below.setCell ?_ (by first | omega | (simp; done) | (simp; omega)) _ | refine Below.alloc ?_ (by first | omega | (simp; done) | (simp; omega)) _ | refine Below.call (by assumption) ?_ (by first | omega | (simp; done) | (simp; omega)))⟩

theorem walk20 (n a c b : Int) (w : World) (h2 : a < c) :
    Calls Try.prog 6 #[.int .i64 n, .int .i64 n, .int .i64 a, .int .i64 c, .int .i64 b] w fun e w' => e = .returned (.bool true) ∧ Below w.heap.size w w' := by
  by_cases e3 : scaleE n a b = 0
  · by_cases e4 : scaleE n c b = 0
    · by_cases hn : 0 ≤ n
      ·
        by_cases e1 : scaleE n a b = 0
        · by_cases e2 : scaleE n a b = 0
          ·
            have p := mono1 n n a b (by omega) e1 e2
            have q := mono2 n a c b (by omega) hn e3 e4
            exact w20AA n a c b w h2 e1 e4 (by simp; omega) (by simp; omega) (by simp; omega) (by simp; omega)
          ·
            first | exact absurd (by assumption) e1 | exact absurd (by assumption) e2 | exact absurd (by assumption) e3 | exact absurd (by assumption) e4
        ·
          first | exact absurd (by assumption) e1 | exact absurd (by assumption) e2 | exact absurd (by assumption) e3 | exact absurd (by assumption) e4
      ·
        by_cases e1 : scaleE n a b = 0
        · by_cases e2 : scaleE n a b = 0
          ·
            have p := mono1 n n a b (by omega) e1 e2
            exact w20AD n a c b w h2 e1 e4 (by simp; omega) (by simp; omega)
          ·
            first | exact absurd (by assumption) e1 | exact absurd (by assumption) e2 | exact absurd (by assumption) e3 | exact absurd (by assumption) e4
        ·
          first | exact absurd (by assumption) e1 | exact absurd (by assumption) e2 | exact absurd (by assumption) e3 | exact absurd (by assumption) e4
    ·
      by_cases e1 : scaleE n a b = 0
      · by_cases e2 : scaleE n a b = 0
        ·
          have p := mono1 n n a b (by omega) e1 e2
          exact w20AB n a c b w h2 e1 (ne_forms e4).1 (ne_forms e4).2 (by simp; omega)
        ·
          first | exact absurd (by assumption) e1 | exact absurd (by assumption) e2 | exact absurd (by assumption) e3 | exact absurd (by assumption) e4
      ·
        first | exact absurd (by assumption) e1 | exact absurd (by assumption) e2 | exact absurd (by assumption) e3 | exact absurd (by assumption) e4
  ·
    by_cases e1 : scaleE n a b = 0
    · by_cases e2 : scaleE n a b = 0
      ·
        first | exact absurd (by assumption) e1 | exact absurd (by assumption) e2 | exact absurd (by assumption) e3 | exact absurd (by assumption) e4
      ·
        first | exact absurd (by assumption) e1 | exact absurd (by assumption) e2 | exact absurd (by assumption) e3 | exact absurd (by assumption) e4
    ·
      exact w20CC n a c b w h2 (ne_forms e1).1 (ne_forms e1).2

theorem w21AA (n a c b : Int) (w : World) (h2 : c < a) (e1 : scaleE n a b = 0) (e3 : scaleE n c b = 0) (p3 : decide (scaleL n a b ≤ scaleH n a b) = true) (hn : decide (n < 0) = false) (q1 : decide (scaleL n c b ≤ scaleL n a b) = true) (q2 : decide (scaleH n c b ≤ scaleH n a b) = true) :
    Calls Try.prog 6 #[.int .i64 n, .int .i64 n, .int .i64 a, .int .i64 c, .int .i64 b] w fun e w' => e = .returned (.bool true) ∧ Below w.heap.size w w' := by
  go_enter Try.func6, Try.ntmps6
  go_wp2_with (first | (go_at_call 10; refine (head_any _).mono ?_; rintro e w0 ⟨rfl, hb0⟩; have hz0 := hb0.size; try simp at hz0) | (go_at_call 15; refine (scale_any _ _ _ _).mono ?_; rintro e w3 ⟨rfl, hb3⟩; have hz3 := hb3.size; try simp at hz3))
  go_ret
  exact ⟨rfl, by repeat (first | exact Below.refl _ _ | assumption | apply Below.drew | refine Below.setCell ?_ (by first | omega | (simp; done) | (simp; omega)) _ | refine Below.alloc ?_ (by first | omega | (simp; done) | (simp; omega)) _ | refine Below.call (by assumption) ?_ (by first | omega | (simp; done) | (simp; omega)))⟩

theorem w21AD (n a c b : Int) (w : World) (h2 : c < a) (e1 : scaleE n a b = 0) (e3 : scaleE n c b = 0) (p3 : decide (scaleL n a b ≤ scaleH n a b) = true) (hn : decide (n < 0) = true) :
    Calls Try.prog 6 #[.int .i64 n, .int .i64 n, .int .i64 a, .int .i64 c, .int .i64 b] w fun e w' => e = .returned (.bool true) ∧ Below w.heap.size w w' := by
  go_enter Try.func6, Try.ntmps6
  go_wp2_with (first | (go_at_call 10; refine (head_any _).mono ?_; rintro e w0 ⟨rfl, hb0⟩; have hz0 := hb0.size; try simp at hz0) | (go_at_call 15; refine (scale_any _ _ _ _).mono ?_; rintro e w3 ⟨rfl, hb3⟩; have hz3 := hb3.size; try simp at hz3))
  go_ret
  exact ⟨rfl, by repeat (first | exact Below.refl _ _ | assumption | apply Below.drew | refine Below.setCell ?_ (by first | omega | (simp; done) | (simp; omega)) _ | refine Below.alloc ?_ (by first | omega | (simp; done) | (simp; omega)) _ | refine Below.call (by assumption) ?_ (by first | omega | (simp; done) | (simp; omega)))⟩

theorem w21AC (n a c b : Int) (w : World) (h2 : c < a) (e1 : scaleE n a b = 0) (e3 : (scaleE n c b == 0) = false) (e3' : (scaleE n c b != 0) = true) (p3 : decide (scaleL n a b ≤ scaleH n a b) = true) :
    Calls Try.prog 6 #[.int .i64 n, .int .i64 n, .int .i64 a, .int .i64 c, .int .i64 b] w fun e w' => e = .returned (.bool true) ∧ Below w.heap.size w w' := by
  go_enter Try.func6, Try.ntmps6
  go_wp2_with (first | (go_at_call 10; refine (head_any _).mono ?_; rintro e w0 ⟨rfl, hb0⟩; have hz0 := hb0.size; try simp at hz0) | (go_at_call 15; refine (scale_any _ _ _ _).mono ?_; rintro e w3 ⟨rfl, hb3⟩; have hz3 := hb3.size; try simp at hz3))
  go_ret
  exact ⟨rfl, by repeat (first | exact Below.refl _ _ | assumption | apply Below.drew | refine Below.setCell ?_ (by first | omega | (simp; done) | (simp; omega)) _ | refine Below.alloc ?_ (by first | omega | (simp; done) | (simp; omega)) _ | refine Below.call (by assumption) ?_ (by first | omega | (simp; done) | (simp; omega)))⟩

theorem w21CB (n a c b : Int) (w : World) (h2 : c < a) (e1 : (scaleE n a b == 0) = false) (e1' : (scaleE n a b != 0) = true) (e3 : scaleE n c b = 0) :
    Calls Try.prog 6 #[.int .i64 n, .int .i64 n, .int .i64 a, .int .i64 c, .int .i64 b] w fun e w' => e = .returned (.bool true) ∧ Below w.heap.size w w' := by
  go_enter Try.func6, Try.ntmps6
  go_wp2_with (first | (go_at_call 10; refine (head_any _).mono ?_; rintro e w0 ⟨rfl, hb0⟩; have hz0 := hb0.size; try simp at hz0) | (go_at_call 15; refine (scale_any _ _ _ _).mono ?_; rintro e w3 ⟨rfl, hb3⟩; have hz3 := hb3.size; try simp at hz3))
  go_ret
  exact ⟨rfl, by repeat (first | exact Below.refl _ _ | assumption | apply Below.drew | refine Below.setCell ?_ (by first | omega | (simp; done) | (simp; omega)) _ | refine Below.alloc ?_ (by first | omega | (simp; done) | (simp; omega)) _ | refine Below.call (by assumption) ?_ (by first | omega | (simp; done) | (simp; omega)))⟩

theorem w21CC (n a c b : Int) (w : World) (h2 : c < a) (e1 : (scaleE n a b == 0) = false) (e1' : (scaleE n a b != 0) = true) (e3 : (scaleE n c b == 0) = false) (e3' : (scaleE n c b != 0) = true) :
    Calls Try.prog 6 #[.int .i64 n, .int .i64 n, .int .i64 a, .int .i64 c, .int .i64 b] w fun e w' => e = .returned (.bool true) ∧ Below w.heap.size w w' := by
  go_enter Try.func6, Try.ntmps6
  go_wp2_with (first | (go_at_call 10; refine (head_any _).mono ?_; rintro e w0 ⟨rfl, hb0⟩; have hz0 := hb0.size; try simp at hz0) | (go_at_call 15; refine (scale_any _ _ _ _).mono ?_; rintro e w3 ⟨rfl, hb3⟩; have hz3 := hb3.size; try simp at hz3))
  go_ret
  exact ⟨rfl, by repeat (first | exact Below.refl _ _ | assumption | apply Below.drew | refine Below.setCell ?_ (by first | omega | (simp; done) | (simp; omega)) _ | refine Below.alloc ?_ (by first | omega | (simp; done) | (simp; omega)) _ | refine Below.call (by assumption) ?_ (by first | omega | (simp; done) | (simp; omega)))⟩

theorem walk21 (n a c b : Int) (w : World) (h2 : c < a) :
    Calls Try.prog 6 #[.int .i64 n, .int .i64 n, .int .i64 a, .int .i64 c, .int .i64 b] w fun e w' => e = .returned (.bool true) ∧ Below w.heap.size w w' := by
  by_cases e3 : scaleE n c b = 0
  · by_cases e4 : scaleE n a b = 0
    · by_cases hn : 0 ≤ n
      ·
        by_cases e1 : scaleE n a b = 0
        · by_cases e2 : scaleE n a b = 0
          ·
            have p := mono1 n n a b (by omega) e1 e2
            have q := mono2 n c a b (by omega) hn e3 e4
            exact w21AA n a c b w h2 e1 e3 (by simp; omega) (by simp; omega) (by simp; omega) (by simp; omega)
          ·
            first | exact absurd (by assumption) e1 | exact absurd (by assumption) e2 | exact absurd (by assumption) e3 | exact absurd (by assumption) e4
        ·
          first | exact absurd (by assumption) e1 | exact absurd (by assumption) e2 | exact absurd (by assumption) e3 | exact absurd (by assumption) e4
      ·
        by_cases e1 : scaleE n a b = 0
        · by_cases e2 : scaleE n a b = 0
          ·
            have p := mono1 n n a b (by omega) e1 e2
            exact w21AD n a c b w h2 e1 e3 (by simp; omega) (by simp; omega)
          ·
            first | exact absurd (by assumption) e1 | exact absurd (by assumption) e2 | exact absurd (by assumption) e3 | exact absurd (by assumption) e4
        ·
          first | exact absurd (by assumption) e1 | exact absurd (by assumption) e2 | exact absurd (by assumption) e3 | exact absurd (by assumption) e4
    ·
      by_cases e1 : scaleE n a b = 0
      · by_cases e2 : scaleE n a b = 0
        ·
          first | exact absurd (by assumption) e1 | exact absurd (by assumption) e2 | exact absurd (by assumption) e3 | exact absurd (by assumption) e4
        ·
          first | exact absurd (by assumption) e1 | exact absurd (by assumption) e2 | exact absurd (by assumption) e3 | exact absurd (by assumption) e4
      ·
        exact w21CB n a c b w h2 (ne_forms e1).1 (ne_forms e1).2 e3
  ·
    by_cases e1 : scaleE n a b = 0
    · by_cases e2 : scaleE n a b = 0
      ·
        have p := mono1 n n a b (by omega) e1 e2
        exact w21AC n a c b w h2 e1 (ne_forms e3).1 (ne_forms e3).2 (by simp; omega)
      ·
        first | exact absurd (by assumption) e1 | exact absurd (by assumption) e2 | exact absurd (by assumption) e3 | exact absurd (by assumption) e4
    ·
      exact w21CC n a c b w h2 (ne_forms e1).1 (ne_forms e1).2 (ne_forms e3).1 (ne_forms e3).2

theorem w22AA (n a b : Int) (w : World)  (e1 : scaleE n a b = 0) (p3 : decide (scaleL n a b ≤ scaleH n a b) = true) (hn : decide (n < 0) = false) :
    Calls Try.prog 6 #[.int .i64 n, .int .i64 n, .int .i64 a, .int .i64 a, .int .i64 b] w fun e w' => e = .returned (.bool true) ∧ Below w.heap.size w w' := by
  go_enter Try.func6, Try.ntmps6
  go_wp2_with (first | (go_at_call 10; refine (head_any _).mono ?_; rintro e w0 ⟨rfl, hb0⟩; have hz0 := hb0.size; try simp at hz0) | (go_at_call 15; refine (scale_any _ _ _ _).mono ?_; rintro e w3 ⟨rfl, hb3⟩; have hz3 := hb3.size; try simp at hz3))
  go_ret
  exact ⟨rfl, by repeat (first | exact Below.refl _ _ | assumption | apply Below.drew | refine Below.setCell ?_ (by first | omega | (simp; done) | (simp; omega)) _ | refine Below.alloc ?_ (by first | omega | (simp; done) | (simp; omega)) _ | refine Below.call (by assumption) ?_ (by first | omega | (simp; done) | (simp; omega)))⟩

theorem w22AD (n a b : Int) (w : World)  (e1 : scaleE n a b = 0) (p3 : decide (scaleL n a b ≤ scaleH n a b) = true) (hn : decide (n < 0) = true) :
    Calls Try.prog 6 #[.int .i64 n, .int .i64 n, .int .i64 a, .int .i64 a, .int .i64 b] w fun e w' => e = .returned (.bool true) ∧ Below w.heap.size w w' := by
  go_enter Try.func6, Try.ntmps6
  go_wp2_with (first | (go_at_call 10; refine (head_any _).mono ?_; rintro e w0 ⟨rfl, hb0⟩; have hz0 := hb0.size; try simp at hz0) | (go_at_call 15; refine (scale_any _ _ _ _).mono ?_; rintro e w3 ⟨rfl, hb3⟩; have hz3 := hb3.size; try simp at hz3))
  go_ret
  exact ⟨rfl, by repeat (first | exact Below.refl _ _ | assumption | apply Below.drew | refine Below.setCell ?_ (by first | omega | (simp; done) | (simp; omega)) _ | refine Below.alloc ?_ (by first | omega | (simp; done) | (simp; omega)) _ | refine Below.call (by assumption) ?_ (by first | omega | (simp; done) | (simp; omega)))⟩

theorem w22CC (n a b : Int) (w : World)  (e1 : (scaleE n a b == 0) = false) (e1' : (scaleE n a b != 0) = true) :
    Calls Try.prog 6 #[.int .i64 n, .int .i64 n, .int .i64 a, .int .i64 a, .int .i64 b] w fun e w' => e = .returned (.bool true) ∧ Below w.heap.size w w' := by
  go_enter Try.func6, Try.ntmps6
  go_wp2_with (first | (go_at_call 10; refine (head_any _).mono ?_; rintro e w0 ⟨rfl, hb0⟩; have hz0 := hb0.size; try simp at hz0) | (go_at_call 15; refine (scale_any _ _ _ _).mono ?_; rintro e w3 ⟨rfl, hb3⟩; have hz3 := hb3.size; try simp at hz3))
  go_ret
  exact ⟨rfl, by repeat (first | exact Below.refl _ _ | assumption | apply Below.drew | refine Below.setCell ?_ (by first | omega | (simp; done) | (simp; omega)) _ | refine Below.alloc ?_ (by first | omega | (simp; done) | (simp; omega)) _ | refine Below.call (by assumption) ?_ (by first | omega | (simp; done) | (simp; omega)))⟩

theorem walk22 (n a b : Int) (w : World)  :
    Calls Try.prog 6 #[.int .i64 n, .int .i64 n, .int .i64 a, .int .i64 a, .int .i64 b] w fun e w' => e = .returned (.bool true) ∧ Below w.heap.size w w' := by
  by_cases e3 : scaleE n a b = 0
  · by_cases e4 : scaleE n a b = 0
    · by_cases hn : 0 ≤ n
      ·
        by_cases e1 : scaleE n a b = 0
        · by_cases e2 : scaleE n a b = 0
          ·
            have p := mono1 n n a b (by omega) e1 e2
            have q := mono2 n a a b (by omega) hn e3 e4
            exact w22AA n a b w  e1 (by simp; omega) (by simp; omega)
          ·
            first | exact absurd (by assumption) e1 | exact absurd (by assumption) e2 | exact absurd (by assumption) e3 | exact absurd (by assumption) e4
        ·
          first | exact absurd (by assumption) e1 | exact absurd (by assumption) e2 | exact absurd (by assumption) e3 | exact absurd (by assumption) e4
      ·
        by_cases e1 : scaleE n a b = 0
        · by_cases e2 : scaleE n a b = 0
          ·
            have p := mono1 n n a b (by omega) e1 e2
            exact w22AD n a b w  e1 (by simp; omega) (by simp; omega)
          ·
            first | exact absurd (by assumption) e1 | exact absurd (by assumption) e2 | exact absurd (by assumption) e3 | exact absurd (by assumption) e4
        ·
          first | exact absurd (by assumption) e1 | exact absurd (by assumption) e2 | exact absurd (by assumption) e3 | exact absurd (by assumption) e4
    ·
      by_cases e1 : scaleE n a b = 0
      · by_cases e2 : scaleE n a b = 0
        ·
          first | exact absurd (by assumption) e1 | exact absurd (by assumption) e2 | exact absurd (by assumption) e3 | exact absurd (by assumption) e4
        ·
          first | exact absurd (by assumption) e1 | exact absurd (by assumption) e2 | exact absurd (by assumption) e3 | exact absurd (by assumption) e4
      ·
        first | exact absurd (by assumption) e1 | exact absurd (by assumption) e2 | exact absurd (by assumption) e3 | exact absurd (by assumption) e4
  ·
    by_cases e1 : scaleE n a b = 0
    · by_cases e2 : scaleE n a b = 0
      ·
        first | exact absurd (by assumption) e1 | exact absurd (by assumption) e2 | exact absurd (by assumption) e3 | exact absurd (by assumption) e4
      ·
        first | exact absurd (by assumption) e1 | exact absurd (by assumption) e2 | exact absurd (by assumption) e3 | exact absurd (by assumption) e4
    ·
      exact w22CC n a b w  (ne_forms e1).1 (ne_forms e1).2

theorem walk (n m a c b : Int) (_ : (Lit.int .i64 n).wf = true) (_ : (Lit.int .i64 m).wf = true) (_ : (Lit.int .i64 a).wf = true) (_ : (Lit.int .i64 c).wf = true) (_ : (Lit.int .i64 b).wf = true) (w : World) :
    Calls Try.prog 6 #[.int .i64 n, .int .i64 m, .int .i64 a, .int .i64 c, .int .i64 b] w fun e w' => e = .returned (.bool true) ∧ Below w.heap.size w w' := by
  rcases Int.lt_trichotomy n m with h1 | rfl | h1 <;> rcases Int.lt_trichotomy a c with h2 | rfl | h2
  · exact walk00 n m a c b w h1 h2
  · exact walk02 n m a b w h1
  · exact walk01 n m a c b w h1 h2
  · exact walk20 n a c b w h2
  · exact walk22 n a b w
  · exact walk21 n a c b w h2
  · exact walk10 n m a c b w h1 h2
  · exact walk12 n m a b w h1
  · exact walk11 n m a c b w h1 h2

set_option maxRecDepth 100000 in
theorem lifted (os : Os) (started : os.Started) (H : Type) (enc : TypeId × Value → H) :
    ReturnsInHanded {} Try.checked os 6 .any (Rows.exactOrderSpec.pre6 enc Try.prog Try.f6 Rows.exactOrderRow.domain false) (Rows.exactOrderSpec.post enc Try.prog Try.f6 false true false false) := by
  refine returnsInHanded_of_change (C := Try.checked) own started (by kernel_rfl) Try.func6
    (ChangeSpec.witness6 (enc := enc) (C := Try.checked) false ⟨#[], #[.int .i64 0, .int .i64 0, .int .i64 0, .int .i64 0, .int .i64 0], []⟩ 8 (by kernel_rfl) (by kernel_rfl) (by kernel_rfl) (by kernel_rfl)) ?_
  intro W base args ds gs before hval0 hW hcnd _
  have hval : ∀ (j : Nat) t v, Try.f6.params[j]? = some t → args[j]? = some v → Value.okWide Try.prog W .any base t v := hval0
  have hW' := hW
  obtain ⟨p, q, hA0, hV, rfl, hfz, hnd⟩ := hW
  have hA : DataW.TrodAll enc Try.prog W 0 (fun _ => true) true Try.f6.params.toList args.toList ds p := hA0
  rw [Try.params6] at hA hval
  obtain ⟨v0, vs0, d0, ds0, p0, q0, hargs, rfl, rfl, h0, r0⟩ := trodAll_cons hA
  obtain ⟨v1, vs1, d1, ds1, p1, q1, rfl, rfl, rfl, h1, r1⟩ := trodAll_cons r0
  obtain ⟨v2, vs2, d2, ds2, p2, q2, rfl, rfl, rfl, h2, r2⟩ := trodAll_cons r1
  obtain ⟨v3, vs3, d3, ds3, p3, q3, rfl, rfl, rfl, h3, r3⟩ := trodAll_cons r2
  obtain ⟨v4, vs4, d4, ds4, p4, q4, rfl, rfl, rfl, h4, r4⟩ := trodAll_cons r3
  obtain ⟨rfl, rfl, rfl⟩ := trodAll_nil r4
  obtain rfl : args = #[v0, v1, v2, v3, v4] := by cases args; simp_all
  obtain ⟨rfl, rfl⟩ := trodVars_none hV
  obtain ⟨a0, rfl, rfl, rfl, w0⟩ := open_int Try.underlying3 (hval 0 3 v0 rfl rfl) h0
  obtain ⟨a1, rfl, rfl, rfl, w1⟩ := open_int Try.underlying3 (hval 1 3 v1 rfl rfl) h1
  obtain ⟨a2, rfl, rfl, rfl, w2⟩ := open_int Try.underlying3 (hval 2 3 v2 rfl rfl) h2
  obtain ⟨a3, rfl, rfl, rfl, w3⟩ := open_int Try.underlying3 (hval 3 3 v3 rfl rfl) h3
  obtain ⟨a4, rfl, rfl, rfl, w4⟩ := open_int Try.underlying3 (hval 4 3 v4 rfl rfl) h4
  clear hA0 hval0
  refine (walk a0 a1 a2 a3 a4 w0 w1 w2 w3 w4 W).mono fun e W' ⟨he, bel⟩ => ?_
  subst he
  exact ⟨_, rfl, _, _, _, [], _, [], hW', trodAll_mk1 (shut_bool Try.underlying4 _), (trodAll_cons_mk (shut_int Try.underlying3 w0) (trodAll_cons_mk (shut_int Try.underlying3 w1) (trodAll_cons_mk (shut_int Try.underlying3 w2) (trodAll_cons_mk (shut_int Try.underlying3 w3) (trodAll_cons_mk (shut_int Try.underlying3 w4) trodAll_mk0))))), rfl, bel.frame _, fun h => by cases h⟩

theorem over : Rows.exactOrderRow.holds Try.pinned (OpenSpec.ofChange Rows.exactOrderSpec) :=
  OpenClaim.holds_of_wide 6 Try.f6 rfl rfl rfl rfl rfl rfl rfl ⟨rfl, rfl, rfl, rfl, rfl⟩ rfl rfl rfl rfl rfl (by kernel_rfl) Try.func6 (by kernel_rfl)
    (of_decide_eq_true (by kernel_rfl)) (by unfold Func.isWrapper; first | (rw [if_pos (by decide +kernel)]; kernel_rfl) | (rw [if_neg (by decide +kernel)]; exact ⟨rfl, rfl⟩))
    (fun os started H enc _ => lifted os started H enc)

/-- the statement -/
theorem proved : Rows.ExactOrderSaid := over
#print axioms proved
end Go.Proofs.Ytmdipicdmphfbaa.exactOrder
