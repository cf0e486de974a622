/- For all integers a and b, valid or not: where Floor and Ceil of package exact give no error, the quotient lies between both results, which differ by 1, or not at all exactly where it is an integer; else both say ErrArg and give 0. No condition. -/
import Derived.Test.YtmdipicdmphfbaaRefC
import Derived.ProofKit
import Derived.OpenShut
import Derived.ChangeOld
namespace Go.Proofs.Ytmdipicdmphfbaa.exactBetween
open Go.ChangeShapes Go.WideShapes Go.ChangeAt Go.RowKit
set_option linter.unusedVariables false
theorem own : ownKnob Try.prog.godebug = none := by kernel_rfl
theorem laidOut : laidOutB Try.prog = true := by kernel_rfl

theorem plain (a b : Int) (hb : 0 < b) : a.fdiv b * b ≤ a ∧ a ≤ cdiv a b * b ∧ a - a.fdiv b * b < b ∧ cdiv a b * b - a < b ∧ ((a.fdiv b = cdiv a b) ↔ a % b = 0) := by
  have e := Int.mul_fdiv_add_fmod a b
  have z := fmod_zero_iff (a := a) (b := b) (by omega)
  have p1 := Int.fmod_nonneg_of_pos a hb
  have p2 := Int.fmod_lt_of_pos a hb
  have c1 : b * a.fdiv b = a.fdiv b * b := Int.mul_comm _ _
  have c2 : (a.fdiv b + 1) * b = a.fdiv b * b + b := by rw [Int.add_mul]; omega
  unfold cdiv upV
  by_cases h : a.fmod b = 0
  · rw [if_pos h]; refine ⟨by omega, by omega, by omega, by omega, ?_⟩; simp [z.1 h]
  · rw [if_neg h]; refine ⟨by omega, by omega, by omega, by omega, ?_⟩
    constructor
    · intro h'; omega
    · intro h'; exact absurd (z.2 h') h

theorem bad (a b : Int) (w : World) (h : badQ a b = true) :
    Calls Try.prog 4 #[.int .i64 a, .int .i64 b] w fun e w' => e = .returned (.bool true) ∧ Below w.heap.size w w' := by
  have e1 : floorV a b = 0 := by simp [floorV, h]
  have e2 : ceilV a b = 0 := by simp [ceilV, h]
  have e3 : quoE a b = 1 := by simp [quoE, h]
  clear h
  go_enter Try.func4, Try.ntmps4
  go_wp2_with (first | (go_at_call 10; refine (head_any _).mono ?_; rintro e w0 ⟨rfl, hb0⟩; have hz0 := hb0.size; try simp at hz0) | (go_at_call 11; refine (floor_any _ _ _).mono ?_; rintro e w1 ⟨rfl, hb1⟩; have hz1 := hb1.size; try simp at hz1) | (go_at_call 13; refine (ceil_any _ _ _).mono ?_; rintro e w2 ⟨rfl, hb2⟩; have hz2 := hb2.size; try simp at hz2))
  go_ret
  exact ⟨rfl, by repeat (first | exact Below.refl _ _ | assumption | apply Below.drew | refine Below.setCell ?_ (by first | omega | (simp; done) | (simp; omega)) _ | refine Below.alloc ?_ (by first | omega | (simp; done) | (simp; omega)) _ | refine Below.call (by assumption) ?_ (by first | omega | (simp; done) | (simp; omega)))⟩

theorem good (a b x y : Int) (w : World) (e1 : floorV a b = x) (e2 : ceilV a b = y) (e3 : quoE a b = 0) (hb : 0 < b) (b1 : -1000000000000 ≤ a) (b2 : a ≤ 1000000000000) (b3 : b ≤ 1000000000000)
    (p1 : x * b ≤ a) (p2 : a ≤ y * b) (p3 : a - x * b < b) (p4 : y * b - a < b) (p5 : (x == y) = (a.tmod b == 0)) :
    Calls Try.prog 4 #[.int .i64 a, .int .i64 b] w fun e w' => e = .returned (.bool true) ∧ Below w.heap.size w w' := by
  have w1 : IntKind.i64.wrap (x * b) = x * b := IntWalk.i64_in _ (by omega)
  have w2 : IntKind.i64.wrap (y * b) = y * b := IntWalk.i64_in _ (by omega)
  have d : decide (b < 0) = false := by simp; omega
  go_enter Try.func4, Try.ntmps4
  go_wp2_with (first | (go_at_call 10; refine (head_any _).mono ?_; rintro e w0 ⟨rfl, hb0⟩; have hz0 := hb0.size; try simp at hz0) | (go_at_call 11; refine (floor_any _ _ _).mono ?_; rintro e w1 ⟨rfl, hb1⟩; have hz1 := hb1.size; try simp at hz1) | (go_at_call 13; refine (ceil_any _ _ _).mono ?_; rintro e w2 ⟨rfl, hb2⟩; have hz2 := hb2.size; try simp at hz2))
  go_ret
  exact ⟨rfl, by repeat (first | exact Below.refl _ _ | assumption | apply Below.drew | refine Below.setCell ?_ (by first | omega | (simp; done) | (simp; omega)) _ | refine Below.alloc ?_ (by first | omega | (simp; done) | (simp; omega)) _ | refine Below.call (by assumption) ?_ (by first | omega | (simp; done) | (simp; omega)))⟩

theorem goodNeg (a b x y : Int) (w : World) (e1 : floorV (-a) (-b) = x) (e2 : ceilV (-a) (-b) = y) (e3 : quoE (-a) (-b) = 0) (hb : 0 < b) (b1 : -1000000000000 ≤ a) (b2 : a ≤ 1000000000000) (b3 : b ≤ 1000000000000)
    (p1 : x * b ≤ a) (p2 : a ≤ y * b) (p3 : a - x * b < b) (p4 : y * b - a < b) (p5 : (x == y) = (a.tmod b == 0)) :
    Calls Try.prog 4 #[.int .i64 (-a), .int .i64 (-b)] w fun e w' => e = .returned (.bool true) ∧ Below w.heap.size w w' := by
  have w1 : IntKind.i64.wrap (x * b) = x * b := IntWalk.i64_in _ (by omega)
  have w2 : IntKind.i64.wrap (y * b) = y * b := IntWalk.i64_in _ (by omega)
  have d : decide (-b < 0) = true := by simp; omega
  go_enter Try.func4, Try.ntmps4
  go_wp2_with (first | (go_at_call 10; refine (head_any _).mono ?_; rintro e w0 ⟨rfl, hb0⟩; have hz0 := hb0.size; try simp at hz0) | (go_at_call 11; refine (floor_any _ _ _).mono ?_; rintro e w1 ⟨rfl, hb1⟩; have hz1 := hb1.size; try simp at hz1) | (go_at_call 13; refine (ceil_any _ _ _).mono ?_; rintro e w2 ⟨rfl, hb2⟩; have hz2 := hb2.size; try simp at hz2))
  go_goals
  go_ret
  exact ⟨rfl, by repeat (first | exact Below.refl _ _ | assumption | apply Below.drew | refine Below.setCell ?_ (by first | omega | (simp; done) | (simp; omega)) _ | refine Below.alloc ?_ (by first | omega | (simp; done) | (simp; omega)) _ | refine Below.call (by assumption) ?_ (by first | omega | (simp; done) | (simp; omega)))⟩

theorem eqz (a b : Int) (hb : 0 < b) : (a.fdiv b == cdiv a b) = (a.tmod b == 0) := by
  have h := (plain a b hb).2.2.2.2
  have t : a.tmod b = 0 ↔ a % b = 0 := by rw [← Int.dvd_iff_emod_eq_zero, Int.dvd_iff_tmod_eq_zero]
  rw [Bool.eq_iff_iff, beq_iff_eq, beq_iff_eq, h, t]

theorem walk (a b : Int) (_ : (Lit.int .i64 a).wf = true) (_ : (Lit.int .i64 b).wf = true) (w : World) :
    Calls Try.prog 4 #[.int .i64 a, .int .i64 b] w fun e w' => e = .returned (.bool true) ∧ Below w.heap.size w w' := by
  cases h : badQ a b
  · obtain ⟨ha, hb, hc⟩ := badQ_false h
    have ba := wideB_true ha
    have bb := wideB_true hb
    have hc' : ¬ b = 0 := by simpa using hc
    rcases Int.lt_or_gt_of_ne hc' with hn | hp
    · obtain ⟨A, rfl⟩ : ∃ A, a = -A := ⟨-a, by omega⟩
      obtain ⟨B, rfl⟩ : ∃ B, b = -B := ⟨-b, by omega⟩
      have p := plain A B (by omega)
      have f : (-A).fdiv (-B) = A.fdiv B := Int.neg_fdiv_neg A B
      have g : cdiv (-A) (-B) = cdiv A B := by
        rw [← cdiv_neg _ _ hc', ← cdiv_neg A B (by omega)]; rw [Int.neg_fdiv_neg]
      exact goodNeg A B _ _ w (by simp [floorV, h, f]) (by simp [ceilV, h, g]) (by simp [quoE, h]) (by omega) (by omega) (by omega) (by omega) p.1 p.2.1 p.2.2.1 p.2.2.2.1 (eqz A B (by omega))
    · have p := plain a b hp
      exact good a b _ _ w (by simp [floorV, h]) (by simp [ceilV, h]) (by simp [quoE, h]) hp ba.1 ba.2 bb.2 p.1 p.2.1 p.2.2.1 p.2.2.2.1 (eqz a b hp)
  · exact bad a b w h

set_option maxRecDepth 100000 in
theorem lifted (os : Os) (started : os.Started) (H : Type) (enc : TypeId × Value → H) :
    ReturnsInHanded {} Try.checked os 4 .any (Rows.exactBetweenSpec.pre6 enc Try.prog Try.f4 Rows.exactBetweenRow.domain false) (Rows.exactBetweenSpec.post enc Try.prog Try.f4 false true false false) := by
  refine returnsInHanded_of_change (C := Try.checked) own started (by kernel_rfl) Try.func4
    (ChangeSpec.witness6 (enc := enc) (C := Try.checked) false ⟨#[], #[.int .i64 0, .int .i64 0], []⟩ 8 (by kernel_rfl) (by kernel_rfl) (by kernel_rfl) (by kernel_rfl)) ?_
  intro W base args ds gs before hval0 hW hcnd _
  have hval : ∀ (j : Nat) t v, Try.f4.params[j]? = some t → args[j]? = some v → Value.okWide Try.prog W .any base t v := hval0
  have hW' := hW
  obtain ⟨p, q, hA0, hV, rfl, hfz, hnd⟩ := hW
  have hA : DataW.TrodAll enc Try.prog W 0 (fun _ => true) true Try.f4.params.toList args.toList ds p := hA0
  rw [Try.params4] at hA hval
  obtain ⟨v0, vs0, d0, ds0, p0, q0, hargs, rfl, rfl, h0, r0⟩ := trodAll_cons hA
  obtain ⟨v1, vs1, d1, ds1, p1, q1, rfl, rfl, rfl, h1, r1⟩ := trodAll_cons r0
  obtain ⟨rfl, rfl, rfl⟩ := trodAll_nil r1
  obtain rfl : args = #[v0, v1] := by cases args; simp_all
  obtain ⟨rfl, rfl⟩ := trodVars_none hV
  obtain ⟨a0, rfl, rfl, rfl, w0⟩ := open_int Try.underlying3 (hval 0 3 v0 rfl rfl) h0
  obtain ⟨a1, rfl, rfl, rfl, w1⟩ := open_int Try.underlying3 (hval 1 3 v1 rfl rfl) h1
  clear hA0 hval0
  refine (walk a0 a1 w0 w1 W).mono fun e W' ⟨he, bel⟩ => ?_
  subst he
  exact ⟨_, rfl, _, _, _, [], _, [], hW', trodAll_mk1 (shut_bool Try.underlying4 _), (trodAll_cons_mk (shut_int Try.underlying3 w0) (trodAll_cons_mk (shut_int Try.underlying3 w1) trodAll_mk0)), rfl, bel.frame _, fun h => by cases h⟩

theorem over : Rows.exactBetweenRow.holds Try.pinned (OpenSpec.ofChange Rows.exactBetweenSpec) :=
  OpenClaim.holds_of_wide 4 Try.f4 rfl rfl rfl rfl rfl rfl rfl ⟨rfl, rfl, rfl, rfl, rfl⟩ rfl rfl rfl rfl rfl (by kernel_rfl) Try.func4 (by kernel_rfl)
    (of_decide_eq_true (by kernel_rfl)) (by unfold Func.isWrapper; first | (rw [if_pos (by decide +kernel)]; kernel_rfl) | (rw [if_neg (by decide +kernel)]; exact ⟨rfl, rfl⟩))
    (fun os started H enc _ => lifted os started H enc)

/-- the statement -/
theorem proved : Rows.ExactBetweenSaid := over
#print axioms proved
end Go.Proofs.Ytmdipicdmphfbaa.exactBetween
