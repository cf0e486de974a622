/- For all missions and ways (up to 8 ways and 12 rocks): in the time that a leg takes the vehicle goes its length at least, and in one second less it does not; the growth is at least what Part and Flow make of length and time, and less than 2 more. No condition. -/
import Derived.Test.YtjnjmpakmgmdbaaHead31
import Derived.Test.YtjnjmpakmgmdbaaLegLaw
import Derived.Test.YtjnjmpakmgmdbaaOpen
namespace Go.Proofs.Ytjnjmpakmgmdbaa.missionTimes
open Go.ChangeShapes Go.WideShapes Go.ChangeAt Go.RowKit
set_option linter.unusedVariables false
theorem own : ownKnob Try.prog.godebug = none := by kernel_rfl
theorem laidOut : laidOutB Try.prog = true := by kernel_rfl
attribute [local irreducible] wpQuiet

set_option maxRecDepth 8000 in
set_option maxHeartbeats 2000000 in
theorem walk (w : World) (m : Msn) (vw vh vr : Value) (i j : Int) (hm : MsnAt w.heap.size w m vw vh vr) (w1 : (Lit.int .u8 i).wf = true) (w2 : (Lit.int .u8 j).wf = true) :
    Calls Try.prog 5 #[.agg (msnCells m vw vh vr), .int .u8 i, .int .u8 j] w fun e w' => e = .returned (.bool true) ∧ Below w.heap.size w w' := by
  obtain ⟨i, rfl, hi⟩ := u8_bd w1
  obtain ⟨j, rfl, hj⟩ := u8_bd w2
  clear w1 w2
  obtain ⟨_, a1, cap1, hvw, _⟩ := hm.1
  subst hvw
  have hff := fun w1 h => few_any m (.slice a1 m.ways.length (m.ways.length + cap1)) vh vr w1 h
  have HF := Lib.hid hff
  have H0 := Has.new w (msnCells m (.slice a1 m.ways.length (m.ways.length + cap1)) vh vr) 26
  have HM := Lib.hid hm
  have H0' := Lib.hid H0
  clear hff hm H0
  unfold msnCells at *
  go_enter Try.func5, Try.ntmps5
  go_wp2_with fail; refine (head31_any _).mono ?_; rintro e w1 ⟨rfl, hb1⟩; have B1 : Below w.heap.size w w1 := ((Below.refl _ w).alloc (Nat.le_refl _) _).trans (hb1.mono (by simp)); have H1 := H0'.out.below (hb1.mono (by simp) : Below (w.heap.size + 1) _ w1) (by omega); have z1 := H1.lt; have H1' := Lib.hid H1; obtain ⟨c0, c1, c2, c3, c4, c5, c6, c7, c8, c9, c10⟩ := msn_cells (m := m) (vw := .slice a1 m.ways.length (m.ways.length + cap1)) (vh := vh) (vr := vr) H1; clear hb1 H1
  go_wp2_with fail; refine (HF.out _ ((HM.out.below B1).mono B1.size)).mono ?_; rintro e w2 ⟨rfl, hb2⟩; have B2 := B1.trans (hb2.mono B1.size); have H2 := H1'.out.below hb2 z1; have z2 := H2.lt; have H2' := Lib.hid H2; obtain ⟨c0, c1, c2, c3, c4, c5, c6, c7, c8, c9, c10⟩ := msn_cells (m := m) (vw := .slice a1 m.ways.length (m.ways.length + cap1)) (vh := vh) (vr := vr) H2; clear hb2 H2
  cases hfew : fewB m
  · go_wp2
    go_ret
    exact ⟨rfl, B2⟩
  have hfw := Lib.hid hfew
  clear hfew
  by_cases hl0 : m.ways.length = 0
  · have d0 : ((m.ways.length : Int) == 0) = true := by simp [hl0]
    clear hl0
    go_wp2
    go_ret
    exact ⟨rfl, B2⟩
  have d0 : ((m.ways.length : Int) == 0) = false := by rw [beq_eq_false_iff_ne]; omega
  have h0 : 0 < m.ways.length := by omega
  have hne : ¬ m.ways = [] := by intro h; rw [h] at h0; simp at h0
  clear hl0
  obtain ⟨a, ha1, ha2, ha3⟩ := mod_at (i := i) h0
  obtain ⟨b, hb1, hb2, hb3⟩ := mod_at (i := j) h0
  have i1 : IntKind.i64.wrap (i : Int) = i := IntWalk.i64_in _ (by omega)
  have j1 : IntKind.i64.wrap (j : Int) = j := IntWalk.i64_in _ (by omega)
  have hl1 := fun w1 (h : Low w2 w1) => leg_all m (.slice a1 m.ways.length (m.ways.length + cap1)) vh vr a b w1 ((HM.out.below (B2.trans (h.out.mono B2.size))).mono (B2.trans (h.out.mono B2.size)).size)
  cases hv : validB m
  · rw [leg_bad _ _ hv] at hl1
    have HL := Lib.hid hl1
    clear hl1 hv
    unfold msnCells at HL
    go_wp2
    clear c0 c1 c2 c3 c4 c5 c6 c7 c8 c9 c10
    obtain ⟨c0, c1, c2, c3, c4, c5, c6, c7, c8, c9, c10⟩ := msn_low (m := m) (vw := .slice a1 m.ways.length (m.ways.length + cap1)) (vh := vh) (vr := vr) H2'.out
    (refine wp_region_low (by kernel_rfl) (by kernel_rfl) ?_; (iterate 23 (apply quiet_want; (case hw => rfl); (case hval => (intro w1 hw1; have hcx := Low.cells hw1; simp only [Oper.quietAt]; go_simp; first | done | (first | (go_at_call 17; with_reducible exact (Low.calls hw1 (HL.out _ hw1)))) | rfl | exact ⟨rfl, rfl⟩)); simp only [Act.put, List.setIfInBounds_toArray, List.set_cons_zero, List.set_cons_succ])); refine wpQuiet_nil ?_; intro w2 hw2)
    go_wp2
    go_ret
    exact ⟨rfl, B2.trans (hw2.out.mono B2.size)⟩
  · rw [leg_nat hv ha2 hb2] at hl1
    have V := (validB_iff m).1 hv
    have bd1 := dLeg_bd V.ways ha2 hb2
    have bd2 := tLeg_bd V.leg V.ways ha2 hb2
    have bd3 := gLeg_bd V.leg V.ways ha2 hb2
    obtain ⟨m1, m2, m3, m4, m5, m6⟩ := V.leg
    have gb := growth_bd (speed := m.speed) (part := m.part) (flow := m.flow) bd1.1 bd1.2 m1 m3 m4 m5 m6
    have gl := growth_law (speed := m.speed) (part := m.part) (flow := m.flow) (n := dLeg m a b) gb.1 gb.2.2.1
    have ll := lasts_law (speed := m.speed) bd1.1 m1
    change _ ≤ tLeg m a b * m.speed ∧ (tLeg m a b - 1) * m.speed < _ at ll
    change 0 ≤ 1000 * gLeg m a b - dLeg m a b * m.part - 10 * tLeg m a b * m.flow ∧ 1000 * gLeg m a b - dLeg m a b * m.part - 10 * tLeg m a b * m.flow < 2000 at gl
    change 0 ≤ dLeg m a b * m.part ∧ dLeg m a b * m.part ≤ 450000000 ∧ 0 ≤ tLeg m a b * m.flow ∧ tLeg m a b * m.flow ≤ 450000000000 ∧ _ at gb
    generalize dLeg m a b = x at *
    generalize tLeg m a b = t at *
    generalize gLeg m a b = g at *
    have q1 := prod_bd (a := t) (b := m.speed) (m := 90000000) (n := 20000) (by omega) (by omega) (by omega) (by omega)
    have q2 := prod_bd (a := t - 1) (b := m.speed) (m := 90000000) (n := 20000) (by omega) (by omega) (by omega) (by omega)
    have q3 : 10 * t * m.flow = 10 * (t * m.flow) := Int.mul_assoc _ _ _
    have x1 : IntKind.i64.wrap (1000 * g) = 1000 * g := IntWalk.i64_in _ (by omega)
    have x2 : IntKind.i64.wrap (x * m.part) = x * m.part := IntWalk.i64_in _ (by omega)
    have x3 : IntKind.i64.wrap (10 * t) = 10 * t := IntWalk.i64_in _ (by omega)
    have x4 : IntKind.i64.wrap (10 * t * m.flow) = 10 * t * m.flow := IntWalk.i64_in _ (by omega)
    have x5 : IntKind.i64.wrap (1000 * g - x * m.part) = 1000 * g - x * m.part := IntWalk.i64_in _ (by omega)
    have x6 : IntKind.i64.wrap (1000 * g - x * m.part - 10 * t * m.flow) = 1000 * g - x * m.part - 10 * t * m.flow := IntWalk.i64_in _ (by omega)
    have x7 : IntKind.i64.wrap (t * m.speed) = t * m.speed := IntWalk.i64_in _ (by omega)
    have x8 : IntKind.i64.wrap ((t - 1) * m.speed) = (t - 1) * m.speed := IntWalk.i64_in _ (by omega)
    have x9 : IntKind.i64.wrap (100 * x) = 100 * x := IntWalk.i64_in _ (by omega)
    have x10 : IntKind.i64.wrap (t - 1) = t - 1 := IntWalk.i64_in _ (by omega)
    have e1 : decide (100 * x ≤ t * m.speed) = true := by simpa using ll.1
    have e2 : decide ((t - 1) * m.speed < 100 * x) = true := by simpa using ll.2
    have e3 : decide (10 * t * m.flow ≤ 1000 * g - x * m.part) = true := by have := gl.1; simp only [decide_eq_true_eq]; omega
    have e4 : decide (1000 * g - x * m.part - 10 * t * m.flow < 2000) = true := by simpa using gl.2
    have HX := Lib.hid (And.intro x1 (And.intro x2 (And.intro x3 (And.intro x4 (And.intro x5 (And.intro x6 (And.intro x7 (And.intro x8 (And.intro x9 x10)))))))))
    have HE := Lib.hid (And.intro e1 (And.intro e2 (And.intro e3 e4)))
    have HL := Lib.hid hl1
    clear hl1 hv V gb gl ll q1 q2 q3 x1 x2 x3 x4 x5 x6 x7 x8 x9 x10 e1 e2 e3 e4 m1 m2 m3 m4 m5 m6 bd1 bd2 bd3
    unfold msnCells at HL
    go_wp2
    clear c0 c1 c2 c3 c4 c5 c6 c7 c8 c9 c10
    obtain ⟨c0, c1, c2, c3, c4, c5, c6, c7, c8, c9, c10⟩ := msn_low (m := m) (vw := .slice a1 m.ways.length (m.ways.length + cap1)) (vh := vh) (vr := vr) H2'.out
    (refine wp_region_low (by kernel_rfl) (by kernel_rfl) ?_; (iterate 23 (apply quiet_want; (case hw => rfl); (case hval => (intro w1 hw1; have hcx := Low.cells hw1; simp only [Oper.quietAt]; go_simp; first | done | (first | (go_at_call 17; with_reducible exact (Low.calls hw1 (HL.out _ hw1)))) | rfl | exact ⟨rfl, rfl⟩)); simp only [Act.put, List.setIfInBounds_toArray, List.set_cons_zero, List.set_cons_succ])); refine wpQuiet_nil ?_; intro w2 hw2)
    have H3 := H2'.out.below hw2.out z2
    clear c0 c1 c2 c3 c4 c5 c6 c7 c8 c9 c10
    obtain ⟨c0, c1, c2, c3, c4, c5, c6, c7, c8, c9, c10⟩ := msn_cells (m := m) (vw := .slice a1 m.ways.length (m.ways.length + cap1)) (vh := vh) (vr := vr) H3
    obtain ⟨x1, x2, x3, x4, x5, x6, x7, x8, x9, x10⟩ := HX.out
    obtain ⟨e1, e2, e3, e4⟩ := HE.out
    have B3 := Lib.hid (B2.trans (hw2.out.mono B2.size))
    clear H3 hw2 ha1 ha3 hb1 hb3 i1 j1
    go_wp2
    go_ret
    exact ⟨rfl, B3.out⟩

set_option maxRecDepth 100000 in
theorem lifted (os : Os) (started : os.Started) (H : Type) (enc : TypeId × Value → H) :
    ReturnsInHanded {} Try.checked os 5 .any (Rows.missionTimesSpec.pre6 enc Try.prog Try.f5 Rows.missionTimesRow.domain false) (Rows.missionTimesSpec.post enc Try.prog Try.f5 false true false false) := by
  refine returnsInHanded_of_change_sized (C := Try.checked) own started (by kernel_rfl) Try.func5
    (ChangeSpec.witness6 (enc := enc) (C := Try.checked) false ⟨#[], #[.agg #[.slice none 0 0, .slice none 0 0, .int .i64 0, .slice none 0 0, .int .i64 0, .int .i64 0, .int .i64 0, .int .i64 0, .int .i64 0, .int .i64 0, .int .i64 0], .int .u8 0, .int .u8 0], []⟩ 8 (by kernel_rfl) (by kernel_rfl) (by kernel_rfl) (by kernel_rfl)) ?_
  intro W base args ds gs before hval0 hW hcnd hsz0 _
  have hval : ∀ (j : Nat) t v, Try.f5.params[j]? = some t → args[j]? = some v → Value.okWide Try.prog W .any base t v := hval0
  have hW' := hW
  obtain ⟨p, q, hA0, hV, rfl, hfz, hnd⟩ := hW
  have hA : DataW.TrodAll enc Try.prog W 0 (fun _ => true) true Try.f5.params.toList args.toList ds p := hA0
  have hsz : (DataW.weightsEach Try.prog (Try.f5.params.toList ++ Rows.missionTimesSpec.plain.varTypes Try.prog) (ds ++ gs)).all (· ≤ reachBytes) = true := hsz0
  rw [Try.params5] at hA hval hsz
  obtain ⟨v0, vs0, d0, ds0, p0, q0, hargs, rfl, rfl, h0, r0⟩ := trodAll_cons hA
  obtain ⟨v1, vs1, d1, ds1, p1, q1, rfl, rfl, rfl, h1, r1⟩ := trodAll_cons r0
  obtain ⟨v2, vs2, d2, ds2, p2, q2, rfl, rfl, rfl, h2, r2⟩ := trodAll_cons r1
  obtain ⟨rfl, rfl, rfl⟩ := trodAll_nil r2
  obtain rfl : args = #[v0, v1, v2] := by cases args; simp_all
  obtain ⟨rfl, rfl⟩ := trodVars_none hV
  have k0 := h0
  have lt0 : ∀ x ∈ p0, x.block < W.heap.size := by obtain ⟨m, hm⟩ := k0; exact DataW.trod_lt m _ _ _ hm
  have z0 : ∀ n ∈ d0.weights Try.prog 26, n ≤ reachBytes := fun n hn => by have := List.all_eq_true.1 hsz n (DataW.weights_mem_each (j := 0) (t := 26) (d := d0) rfl rfl n hn); simpa using this
  obtain ⟨a0, vw0, vh0, vr0, rfl, w0⟩ := open_msn (hval 0 26 v0 rfl rfl) h0 z0
  obtain ⟨a1, rfl, rfl, rfl, w1⟩ := open_int Try.underlying5 (hval 1 5 v1 rfl rfl) h1
  obtain ⟨a2, rfl, rfl, rfl, w2⟩ := open_int Try.underlying5 (hval 2 5 v2 rfl rfl) h2
  clear hA0 hval0
  refine (walk W a0 vw0 vh0 vr0 a1 a2 w0 w1 w2).mono fun e W' ⟨he, bel⟩ => ?_
  subst he
  exact ⟨_, rfl, _, _, _, [], _, [], hW', trodAll_mk1 (shut_bool Try.underlying4 _), (trodAll_cons_mk (Below.trod laidOut (by kernel_rfl) (of_decide_eq_true (by kernel_rfl)) k0 bel lt0) (trodAll_cons_mk (shut_int Try.underlying5 w1) (trodAll_cons_mk (shut_int Try.underlying5 w2) trodAll_mk0))), rfl, bel.frame _, fun h => by cases h⟩

theorem over : Rows.missionTimesRow.holds Try.pinned (OpenSpec.ofChange Rows.missionTimesSpec) :=
  OpenClaim.holds_of_wide 5 Try.f5 rfl rfl rfl rfl rfl rfl rfl ⟨rfl, rfl, rfl, rfl, rfl⟩ rfl rfl rfl rfl rfl (by kernel_rfl) Try.func5 (by kernel_rfl)
    (of_decide_eq_true (by kernel_rfl)) (by unfold Func.isWrapper; first | (rw [if_pos (by decide +kernel)]; kernel_rfl) | (rw [if_neg (by decide +kernel)]; exact ⟨rfl, rfl⟩))
    (fun os started H enc _ => lifted os started H enc)

/-- the statement -/
theorem proved : Rows.MissionTimesSaid := over
#print axioms proved
end Go.Proofs.Ytjnjmpakmgmdbaa.missionTimes
