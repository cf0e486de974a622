/- For all integers a and b: where Floor of package exact gives no error, the opposite of the quotient is rounded in the opposite direction, whichever of both has the sign. No condition. -/
import Derived.Test.YtmdipicdmphfbaaLawMore
import Derived.ProofKit
import Derived.OpenShut
import Derived.ChangeOld
namespace Go.Proofs.Ytmdipicdmphfbaa.exactSigns
open Go.ChangeShapes Go.WideShapes Go.ChangeAt Go.RowKit
set_option linter.unusedVariables false
theorem own : ownKnob Try.prog.godebug = none := by kernel_rfl
theorem laidOut : laidOutB Try.prog = true := by kernel_rfl

theorem walk (a b : Int) (_ : (Lit.int .i64 a).wf = true) (_ : (Lit.int .i64 b).wf = true) (w : World) :
    Calls Try.prog 5 #[.int .i64 a, .int .i64 b] w fun e w' => e = .returned (.bool true) ∧ Below w.heap.size w w' := by
  cases h : badQ a b
  · obtain ⟨ha, hb, hc⟩ := badQ_false h
    have ba := wideB_true ha
    have bb := wideB_true hb
    have hc' : ¬ b = 0 := by simpa using hc
    have f1 : badQ (-a) b = false := by simp [badQ, wideB]; omega
    have f2 : badQ a (-b) = false := by simp [badQ, wideB]; omega
    have f3 : badQ (-a) (-b) = false := by simp [badQ, wideB]; omega
    obtain ⟨x, hx⟩ : ∃ x, a.fdiv b = x := ⟨_, rfl⟩
    have xb := fdiv_bd a b (by omega) (by omega) hc'
    rw [hx] at xb
    have g0 : floorV a b = x := by simp [floorV, h, hx]
    have g1 : ceilV (-a) b = -x := by simp only [ceilV, f1, Bool.false_eq_true, if_false]; rw [← cdiv_neg _ _ hc', Int.neg_neg, hx]
    have g2 : ceilV a (-b) = -x := by simp only [ceilV, f2, Bool.false_eq_true, if_false]; rw [← cdiv_neg _ _ (by omega), Int.neg_fdiv_neg, hx]
    have g3 : floorV (-a) (-b) = x := by simp only [floorV, f3, Bool.false_eq_true, if_false]; rw [Int.neg_fdiv_neg, hx]
    have q0 : quoE a b = 0 := by simp [quoE, h]
    have q1 : quoE (-a) b = 0 := by simp [quoE, f1]
    have q2 : quoE a (-b) = 0 := by simp [quoE, f2]
    have q3 : quoE (-a) (-b) = 0 := by simp [quoE, f3]
    clear hx h f1 f2 f3 ha hb hc hc'
    go_enter Try.func5, Try.ntmps5
    go_wp2_with (first | (go_at_call 10; refine (head_any _).mono ?_; rintro e w0 ⟨rfl, hb0⟩; have hz0 := hb0.size; try simp at hz0) | (go_at_call 11; refine (floor_any _ _ _).mono ?_; rintro e w1 ⟨rfl, hb1⟩; have hz1 := hb1.size; try simp at hz1) | (go_at_call 13; refine (ceil_any _ _ _).mono ?_; rintro e w2 ⟨rfl, hb2⟩; have hz2 := hb2.size; try simp at hz2) | (go_at_call 15; refine (scale_any _ _ _ _).mono ?_; rintro e w3 ⟨rfl, hb3⟩; have hz3 := hb3.size; try simp at hz3) | (go_at_call 17; refine (root_any _ _).mono ?_; rintro e w4 ⟨rfl, hb4⟩; have hz4 := hb4.size; try simp at hz4) | (go_at_call 19; refine (rin_any _ _ _ _).mono ?_; rintro e w' ⟨rfl, rfl⟩))
    go_ret
    exact ⟨rfl, by repeat (first | exact Below.refl _ _ | assumption | apply Below.drew | refine Below.setCell ?_ (by first | omega | (simp; done) | (simp; omega)) _ | refine Below.alloc ?_ (by first | omega | (simp; done) | (simp; omega)) _ | refine Below.call (by assumption) ?_ (by first | omega | (simp; done) | (simp; omega)))⟩
  · have q : quoE a b = 1 := by simp [quoE, h]
    clear h
    go_enter Try.func5, Try.ntmps5
    go_wp2_with (first | (go_at_call 10; refine (head_any _).mono ?_; rintro e w0 ⟨rfl, hb0⟩; have hz0 := hb0.size; try simp at hz0) | (go_at_call 11; refine (floor_any _ _ _).mono ?_; rintro e w1 ⟨rfl, hb1⟩; have hz1 := hb1.size; try simp at hz1) | (go_at_call 13; refine (ceil_any _ _ _).mono ?_; rintro e w2 ⟨rfl, hb2⟩; have hz2 := hb2.size; try simp at hz2) | (go_at_call 15; refine (scale_any _ _ _ _).mono ?_; rintro e w3 ⟨rfl, hb3⟩; have hz3 := hb3.size; try simp at hz3) | (go_at_call 17; refine (root_any _ _).mono ?_; rintro e w4 ⟨rfl, hb4⟩; have hz4 := hb4.size; try simp at hz4) | (go_at_call 19; refine (rin_any _ _ _ _).mono ?_; rintro e w' ⟨rfl, rfl⟩))
    go_ret
    exact ⟨rfl, by repeat (first | exact Below.refl _ _ | assumption | apply Below.drew | refine Below.setCell ?_ (by first | omega | (simp; done) | (simp; omega)) _ | refine Below.alloc ?_ (by first | omega | (simp; done) | (simp; omega)) _ | refine Below.call (by assumption) ?_ (by first | omega | (simp; done) | (simp; omega)))⟩

set_option maxRecDepth 100000 in
theorem lifted (os : Os) (started : os.Started) (H : Type) (enc : TypeId × Value → H) :
    ReturnsInHanded {} Try.checked os 5 .any (Rows.exactSignsSpec.pre6 enc Try.prog Try.f5 Rows.exactSignsRow.domain false) (Rows.exactSignsSpec.post enc Try.prog Try.f5 false true false false) := by
  refine returnsInHanded_of_change (C := Try.checked) own started (by kernel_rfl) Try.func5
    (ChangeSpec.witness6 (enc := enc) (C := Try.checked) false ⟨#[], #[.int .i64 0, .int .i64 0], []⟩ 8 (by kernel_rfl) (by kernel_rfl) (by kernel_rfl) (by kernel_rfl)) ?_
  intro W base args ds gs before hval0 hW hcnd _
  have hval : ∀ (j : Nat) t v, Try.f5.params[j]? = some t → args[j]? = some v → Value.okWide Try.prog W .any base t v := hval0
  have hW' := hW
  obtain ⟨p, q, hA0, hV, rfl, hfz, hnd⟩ := hW
  have hA : DataW.TrodAll enc Try.prog W 0 (fun _ => true) true Try.f5.params.toList args.toList ds p := hA0
  rw [Try.params5] at hA hval
  obtain ⟨v0, vs0, d0, ds0, p0, q0, hargs, rfl, rfl, h0, r0⟩ := trodAll_cons hA
  obtain ⟨v1, vs1, d1, ds1, p1, q1, rfl, rfl, rfl, h1, r1⟩ := trodAll_cons r0
  obtain ⟨rfl, rfl, rfl⟩ := trodAll_nil r1
  obtain rfl : args = #[v0, v1] := by cases args; simp_all
  obtain ⟨rfl, rfl⟩ := trodVars_none hV
  obtain ⟨a0, rfl, rfl, rfl, w0⟩ := open_int Try.underlying3 (hval 0 3 v0 rfl rfl) h0
  obtain ⟨a1, rfl, rfl, rfl, w1⟩ := open_int Try.underlying3 (hval 1 3 v1 rfl rfl) h1
  clear hA0 hval0
  refine (walk a0 a1 w0 w1 W).mono fun e W' ⟨he, bel⟩ => ?_
  subst he
  exact ⟨_, rfl, _, _, _, [], _, [], hW', trodAll_mk1 (shut_bool Try.underlying4 _), (trodAll_cons_mk (shut_int Try.underlying3 w0) (trodAll_cons_mk (shut_int Try.underlying3 w1) trodAll_mk0)), rfl, bel.frame _, fun h => by cases h⟩

theorem over : Rows.exactSignsRow.holds Try.pinned (OpenSpec.ofChange Rows.exactSignsSpec) :=
  OpenClaim.holds_of_wide 5 Try.f5 rfl rfl rfl rfl rfl rfl rfl ⟨rfl, rfl, rfl, rfl, rfl⟩ rfl rfl rfl rfl rfl (by kernel_rfl) Try.func5 (by kernel_rfl)
    (of_decide_eq_true (by kernel_rfl)) (by unfold Func.isWrapper; first | (rw [if_pos (by decide +kernel)]; kernel_rfl) | (rw [if_neg (by decide +kernel)]; exact ⟨rfl, rfl⟩))
    (fun os started H enc _ => lifted os started H enc)

/-- the statement -/
theorem proved : Rows.ExactSignsSaid := over
#print axioms proved
end Go.Proofs.Ytmdipicdmphfbaa.exactSigns
