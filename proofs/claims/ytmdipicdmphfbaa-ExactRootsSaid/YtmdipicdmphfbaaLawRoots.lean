/- For all integers n and m: where Root of package exact gives no error for n, the square of the root is at most n, and that of the next number is greater; the root of a square of a number from 0 to 1000000000 is the number itself. No condition. -/
import Derived.Test.YtmdipicdmphfbaaLawMore
import Derived.ProofKit
import Derived.OpenShut
import Derived.ChangeOld
namespace Go.Proofs.Ytmdipicdmphfbaa.exactRoots
open Go.ChangeShapes Go.WideShapes Go.ChangeAt Go.RowKit
set_option linter.unusedVariables false
theorem own : ownKnob Try.prog.godebug = none := by kernel_rfl
theorem laidOut : laidOutB Try.prog = true := by kernel_rfl
theorem root_ok {n : Int} (h : rootE n = 0) : 0 ≤ rootV n ∧ rootV n ≤ 1000000000 ∧ rootV n * rootV n ≤ n ∧ (n < (rootV n + 1) * (rootV n + 1) ∧ 0 ≤ rootV n * rootV n ∧ n ≤ 1000000000000000000 ∧ (rootV n + 1) * (rootV n + 1) ≤ 1000000002000000001 ∧ 0 ≤ (rootV n + 1) * (rootV n + 1)) := by
  have hb : badN n = false := by cases x : badN n <;> simp [rootE, x] at h ⊢
  have e : rootV n = isqrt n.toNat := by simp [rootV, hb]
  have hn : 0 ≤ n ∧ n ≤ 1000000000000000000 := by simp [badN] at hb; omega
  have s := isqrt_spec n.toNat
  have hle : isqrt n.toNat ≤ 1000000000 := by
    rcases Nat.lt_or_ge 1000000000 (isqrt n.toNat) with x | x
    · have := Nat.mul_le_mul (show 1000000001 ≤ isqrt n.toNat by omega) (show 1000000001 ≤ isqrt n.toNat by omega); omega
    · exact x
  rw [e]
  have a1 : ((isqrt n.toNat * isqrt n.toNat : Nat) : Int) ≤ (n.toNat : Int) := by exact Int.ofNat_le.2 s.1
  have a2 : (n.toNat : Int) < (((isqrt n.toNat + 1) * (isqrt n.toNat + 1) : Nat) : Int) := by exact Int.ofNat_lt.2 s.2
  have a3 := Nat.mul_le_mul (show isqrt n.toNat + 1 ≤ 1000000001 by omega) (show isqrt n.toNat + 1 ≤ 1000000001 by omega)
  have a4 : (((isqrt n.toNat + 1) * (isqrt n.toNat + 1) : Nat) : Int) ≤ ((1000000001 * 1000000001 : Nat) : Int) := by exact Int.ofNat_le.2 a3
  rw [Int.toNat_of_nonneg hn.1] at a1 a2
  simp only [Int.natCast_mul, Int.natCast_add, Int.natCast_one] at a1 a2 a4
  have a0 : (0 : Int) ≤ (isqrt n.toNat : Int) := Int.natCast_nonneg _
  have a5 : (0 : Int) ≤ (isqrt n.toNat : Int) * (isqrt n.toNat : Int) := Int.mul_nonneg a0 a0
  have a6 : (0 : Int) ≤ ((isqrt n.toNat : Int) + 1) * ((isqrt n.toNat : Int) + 1) := Int.mul_nonneg (by omega) (by omega)
  exact ⟨a0, by omega, a1, a2, a5, by omega, by omega, a6⟩

theorem walk (n m : Int) (_ : (Lit.int .i64 n).wf = true) (_ : (Lit.int .i64 m).wf = true) (w : World) :
    Calls Try.prog 8 #[.int .i64 n, .int .i64 m] w fun e w' => e = .returned (.bool true) ∧ Below w.heap.size w w' := by
  by_cases h2 : inB m 0 1000000000 = true
  · obtain ⟨m1, m2⟩ := inB_true h2
    have q1 : 0 ≤ m * m := Int.mul_nonneg m1 m1
    have q2 : m * m ≤ 1000000000000000000 := by have := Int.mul_le_mul m2 m2 m1 (by omega); omega
    have hw : IntKind.i64.wrap (m * m) = m * m := IntWalk.i64_in _ (by omega)
    have e1 : rootE (m * m) = 0 := by
      have : badN (m * m) = false := by simp [badN]; omega
      simp [rootE, this]
    have e2 : rootV (m * m) = m := by
      have : badN (m * m) = false := by simp [badN]; omega
      simp only [rootV, this]
      exact root_end m1 (Int.le_refl _) (by rw [Int.add_mul, Int.mul_add]; omega)
    by_cases h1 : rootE n = 0
    · have ⟨r0, r1, r2, r3⟩ := root_ok h1
      have hw2 : IntKind.i64.wrap (rootV n * rootV n) = rootV n * rootV n := IntWalk.i64_in _ (by omega)
      have hw3 : IntKind.i64.wrap ((rootV n + 1) * (rootV n + 1)) = (rootV n + 1) * (rootV n + 1) := IntWalk.i64_in _ (by omega)
      go_enter Try.func8, Try.ntmps8
      go_wp2_with (first | (go_at_call 10; refine (head_any _).mono ?_; rintro e w0 ⟨rfl, hb0⟩; have hz0 := hb0.size; try simp at hz0) | (go_at_call 11; refine (floor_any _ _ _).mono ?_; rintro e w1 ⟨rfl, hb1⟩; have hz1 := hb1.size; try simp at hz1) | (go_at_call 13; refine (ceil_any _ _ _).mono ?_; rintro e w2 ⟨rfl, hb2⟩; have hz2 := hb2.size; try simp at hz2) | (go_at_call 15; refine (scale_any _ _ _ _).mono ?_; rintro e w3 ⟨rfl, hb3⟩; have hz3 := hb3.size; try simp at hz3) | (go_at_call 17; refine (root_any _ _).mono ?_; rintro e w4 ⟨rfl, hb4⟩; have hz4 := hb4.size; try simp at hz4) | (go_at_call 19; refine (rin_any _ _ _ _).mono ?_; rintro e w' ⟨rfl, rfl⟩))
      go_ret
      exact ⟨rfl, by repeat (first | exact Below.refl _ _ | assumption | apply Below.drew | refine Below.setCell ?_ (by first | omega | (simp; done) | (simp; omega)) _ | refine Below.alloc ?_ (by first | omega | (simp; done) | (simp; omega)) _ | refine Below.call (by assumption) ?_ (by first | omega | (simp; done) | (simp; omega)))⟩
    · obtain ⟨h1, h1'⟩ := ne_forms h1
      go_enter Try.func8, Try.ntmps8
      go_wp2_with (first | (go_at_call 10; refine (head_any _).mono ?_; rintro e w0 ⟨rfl, hb0⟩; have hz0 := hb0.size; try simp at hz0) | (go_at_call 11; refine (floor_any _ _ _).mono ?_; rintro e w1 ⟨rfl, hb1⟩; have hz1 := hb1.size; try simp at hz1) | (go_at_call 13; refine (ceil_any _ _ _).mono ?_; rintro e w2 ⟨rfl, hb2⟩; have hz2 := hb2.size; try simp at hz2) | (go_at_call 15; refine (scale_any _ _ _ _).mono ?_; rintro e w3 ⟨rfl, hb3⟩; have hz3 := hb3.size; try simp at hz3) | (go_at_call 17; refine (root_any _ _).mono ?_; rintro e w4 ⟨rfl, hb4⟩; have hz4 := hb4.size; try simp at hz4) | (go_at_call 19; refine (rin_any _ _ _ _).mono ?_; rintro e w' ⟨rfl, rfl⟩))
      go_ret
      exact ⟨rfl, by repeat (first | exact Below.refl _ _ | assumption | apply Below.drew | refine Below.setCell ?_ (by first | omega | (simp; done) | (simp; omega)) _ | refine Below.alloc ?_ (by first | omega | (simp; done) | (simp; omega)) _ | refine Below.call (by assumption) ?_ (by first | omega | (simp; done) | (simp; omega)))⟩
  · have h2' : inB m 0 1000000000 = false := by simpa using h2
    clear h2
    by_cases h1 : rootE n = 0
    · have ⟨r0, r1, r2, r3⟩ := root_ok h1
      have hw2 : IntKind.i64.wrap (rootV n * rootV n) = rootV n * rootV n := IntWalk.i64_in _ (by omega)
      have hw3 : IntKind.i64.wrap ((rootV n + 1) * (rootV n + 1)) = (rootV n + 1) * (rootV n + 1) := IntWalk.i64_in _ (by omega)
      go_enter Try.func8, Try.ntmps8
      go_wp2_with (first | (go_at_call 10; refine (head_any _).mono ?_; rintro e w0 ⟨rfl, hb0⟩; have hz0 := hb0.size; try simp at hz0) | (go_at_call 11; refine (floor_any _ _ _).mono ?_; rintro e w1 ⟨rfl, hb1⟩; have hz1 := hb1.size; try simp at hz1) | (go_at_call 13; refine (ceil_any _ _ _).mono ?_; rintro e w2 ⟨rfl, hb2⟩; have hz2 := hb2.size; try simp at hz2) | (go_at_call 15; refine (scale_any _ _ _ _).mono ?_; rintro e w3 ⟨rfl, hb3⟩; have hz3 := hb3.size; try simp at hz3) | (go_at_call 17; refine (root_any _ _).mono ?_; rintro e w4 ⟨rfl, hb4⟩; have hz4 := hb4.size; try simp at hz4) | (go_at_call 19; refine (rin_any _ _ _ _).mono ?_; rintro e w' ⟨rfl, rfl⟩))
      go_ret
      exact ⟨rfl, by repeat (first | exact Below.refl _ _ | assumption | apply Below.drew | refine Below.setCell ?_ (by first | omega | (simp; done) | (simp; omega)) _ | refine Below.alloc ?_ (by first | omega | (simp; done) | (simp; omega)) _ | refine Below.call (by assumption) ?_ (by first | omega | (simp; done) | (simp; omega)))⟩
    · obtain ⟨h1, h1'⟩ := ne_forms h1
      go_enter Try.func8, Try.ntmps8
      go_wp2_with (first | (go_at_call 10; refine (head_any _).mono ?_; rintro e w0 ⟨rfl, hb0⟩; have hz0 := hb0.size; try simp at hz0) | (go_at_call 11; refine (floor_any _ _ _).mono ?_; rintro e w1 ⟨rfl, hb1⟩; have hz1 := hb1.size; try simp at hz1) | (go_at_call 13; refine (ceil_any _ _ _).mono ?_; rintro e w2 ⟨rfl, hb2⟩; have hz2 := hb2.size; try simp at hz2) | (go_at_call 15; refine (scale_any _ _ _ _).mono ?_; rintro e w3 ⟨rfl, hb3⟩; have hz3 := hb3.size; try simp at hz3) | (go_at_call 17; refine (root_any _ _).mono ?_; rintro e w4 ⟨rfl, hb4⟩; have hz4 := hb4.size; try simp at hz4) | (go_at_call 19; refine (rin_any _ _ _ _).mono ?_; rintro e w' ⟨rfl, rfl⟩))
      go_ret
      exact ⟨rfl, by repeat (first | exact Below.refl _ _ | assumption | apply Below.drew | refine Below.setCell ?_ (by first | omega | (simp; done) | (simp; omega)) _ | refine Below.alloc ?_ (by first | omega | (simp; done) | (simp; omega)) _ | refine Below.call (by assumption) ?_ (by first | omega | (simp; done) | (simp; omega)))⟩

set_option maxRecDepth 100000 in
theorem lifted (os : Os) (started : os.Started) (H : Type) (enc : TypeId × Value → H) :
    ReturnsInHanded {} Try.checked os 8 .any (Rows.exactRootsSpec.pre6 enc Try.prog Try.f8 Rows.exactRootsRow.domain false) (Rows.exactRootsSpec.post enc Try.prog Try.f8 false true false false) := by
  refine returnsInHanded_of_change (C := Try.checked) own started (by kernel_rfl) Try.func8
    (ChangeSpec.witness6 (enc := enc) (C := Try.checked) false ⟨#[], #[.int .i64 0, .int .i64 0], []⟩ 8 (by kernel_rfl) (by kernel_rfl) (by kernel_rfl) (by kernel_rfl)) ?_
  intro W base args ds gs before hval0 hW hcnd _
  have hval : ∀ (j : Nat) t v, Try.f8.params[j]? = some t → args[j]? = some v → Value.okWide Try.prog W .any base t v := hval0
  have hW' := hW
  obtain ⟨p, q, hA0, hV, rfl, hfz, hnd⟩ := hW
  have hA : DataW.TrodAll enc Try.prog W 0 (fun _ => true) true Try.f8.params.toList args.toList ds p := hA0
  rw [Try.params8] at hA hval
  obtain ⟨v0, vs0, d0, ds0, p0, q0, hargs, rfl, rfl, h0, r0⟩ := trodAll_cons hA
  obtain ⟨v1, vs1, d1, ds1, p1, q1, rfl, rfl, rfl, h1, r1⟩ := trodAll_cons r0
  obtain ⟨rfl, rfl, rfl⟩ := trodAll_nil r1
  obtain rfl : args = #[v0, v1] := by cases args; simp_all
  obtain ⟨rfl, rfl⟩ := trodVars_none hV
  obtain ⟨a0, rfl, rfl, rfl, w0⟩ := open_int Try.underlying3 (hval 0 3 v0 rfl rfl) h0
  obtain ⟨a1, rfl, rfl, rfl, w1⟩ := open_int Try.underlying3 (hval 1 3 v1 rfl rfl) h1
  clear hA0 hval0
  refine (walk a0 a1 w0 w1 W).mono fun e W' ⟨he, bel⟩ => ?_
  subst he
  exact ⟨_, rfl, _, _, _, [], _, [], hW', trodAll_mk1 (shut_bool Try.underlying4 _), (trodAll_cons_mk (shut_int Try.underlying3 w0) (trodAll_cons_mk (shut_int Try.underlying3 w1) trodAll_mk0)), rfl, bel.frame _, fun h => by cases h⟩

theorem over : Rows.exactRootsRow.holds Try.pinned (OpenSpec.ofChange Rows.exactRootsSpec) :=
  OpenClaim.holds_of_wide 8 Try.f8 rfl rfl rfl rfl rfl rfl rfl ⟨rfl, rfl, rfl, rfl, rfl⟩ rfl rfl rfl rfl rfl (by kernel_rfl) Try.func8 (by kernel_rfl)
    (of_decide_eq_true (by kernel_rfl)) (by unfold Func.isWrapper; first | (rw [if_pos (by decide +kernel)]; kernel_rfl) | (rw [if_neg (by decide +kernel)]; exact ⟨rfl, rfl⟩))
    (fun os started H enc _ => lifted os started H enc)

/-- the statement -/
theorem proved : Rows.ExactRootsSaid := over
#print axioms proved
end Go.Proofs.Ytmdipicdmphfbaa.exactRoots
