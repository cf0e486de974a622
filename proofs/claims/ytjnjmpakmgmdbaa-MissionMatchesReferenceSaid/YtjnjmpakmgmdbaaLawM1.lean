/- For all missions and ways, valid or not, all functions of layer 31 return what the reference implementation returns. No condition. -/
import Derived.Test.YtjnjmpakmgmdbaaHead31
import Derived.Test.YtjnjmpakmgmdbaaOpen
namespace Go.Proofs.Ytjnjmpakmgmdbaa.missionMatchesReference
open Go.ChangeShapes Go.WideShapes Go.ChangeAt Go.RowKit
set_option linter.unusedVariables false
theorem own : ownKnob Try.prog.godebug = none := by kernel_rfl
theorem laidOut : laidOutB Try.prog = true := by kernel_rfl
attribute [local irreducible] wpQuiet

set_option maxRecDepth 8000 in
set_option maxHeartbeats 2000000 in
theorem walk (w : World) (m : Msn) (vw vh vr : Value) (i j : Int) (hm : MsnAt w.heap.size w m vw vh vr) (_ : (Lit.int .i64 i).wf = true) (_ : (Lit.int .i64 j).wf = true) :
    Calls Try.prog 3 #[.agg (msnCells m vw vh vr), .int .i64 i, .int .i64 j] w fun e w' => e = .returned (.bool true) ∧ Below w.heap.size w w' := by
  have hl1 := fun w1 h => leg_all m vw vh vr i j w1 h
  have hl2 := fun w1 h => rleg_all m vw vh vr i j w1 h
  have hr1 := fun w1 h => route_all m vw vh vr i w1 h
  have hr2 := fun w1 h => rroute_all m vw vh vr i w1 h
  have hv1 := fun w1 h => valid_any m vw vh vr w1 h
  have hv2 := fun w1 h => rValid31_any m vw vh vr w1 h
  have hf := fun w1 h => few_any m vw vh vr w1 h
  unfold legV at hl1 hl2
  have H0 := Has.new w (msnCells m vw vh vr) 26
  generalize legA m i j = a at *
  generalize legT m i j = b at *
  generalize legG m i j = c at *
  generalize legE m i j = e0 at *
  generalize validB m = bv at *
  have HL := Lib.hid (And.intro hl1 (And.intro hl2 (And.intro hr1 (And.intro hr2 (And.intro hv1 (And.intro hv2 hf))))))
  have HM := Lib.hid hm
  have H0' := Lib.hid H0
  clear hl1 hl2 hr1 hr2 hv1 hv2 hf hm H0
  unfold msnCells at *
  go_enter Try.func3, Try.ntmps3
  go_wp2_with fail; refine (head31_any _).mono ?_; rintro e w1 ⟨rfl, hb1⟩; have B1 : Below w.heap.size w w1 := ((Below.refl _ w).alloc (Nat.le_refl _) _).trans (hb1.mono (by simp)); have H1 := H0'.out.below (hb1.mono (by simp) : Below (w.heap.size + 1) _ w1) (by omega); have z1 := H1.lt; have H1' := Lib.hid H1; obtain ⟨c0, c1, c2, c3, c4, c5, c6, c7, c8, c9, c10⟩ := msn_cells (m := m) (vw := vw) (vh := vh) (vr := vr) H1; clear hb1 H1
  go_wp2_with fail; refine (HL.out.2.2.2.2.2.2 _ ((HM.out.below B1).mono B1.size)).mono ?_; rintro e w2 ⟨rfl, hb2⟩; have B2 := B1.trans (hb2.mono B1.size); have H2 := H1'.out.below hb2 z1; have z2 := H2.lt; have H2' := Lib.hid H2; obtain ⟨c0, c1, c2, c3, c4, c5, c6, c7, c8, c9, c10⟩ := msn_cells (m := m) (vw := vw) (vh := vh) (vr := vr) H2; clear hb2 H2
  cases hfew : fewB m
  · go_wp2
    go_ret
    exact ⟨rfl, B2⟩
  have hfw := Lib.hid hfew
  clear hfew
  go_wp2_with fail; refine (HL.out.1 _ ((HM.out.below B2).mono B2.size)).mono ?_; rintro e w3 ⟨rfl, hb3⟩; have B3 := B2.trans (hb3.mono B2.size); have H3 := H2'.out.below hb3 z2; have z3 := H3.lt; have H3' := Lib.hid H3; obtain ⟨c0, c1, c2, c3, c4, c5, c6, c7, c8, c9, c10⟩ := msn_cells (m := m) (vw := vw) (vh := vh) (vr := vr) H3; clear hb3 H3
  go_wp2_with fail; refine (HL.out.2.1 _ ((HM.out.below B3).mono B3.size)).mono ?_; rintro e w4 ⟨rfl, hb4⟩; have B4 := B3.trans (hb4.mono B3.size); have H4 := H3'.out.below hb4 z3; have z4 := H4.lt; have H4' := Lib.hid H4; obtain ⟨c0, c1, c2, c3, c4, c5, c6, c7, c8, c9, c10⟩ := msn_cells (m := m) (vw := vw) (vh := vh) (vr := vr) H4; clear hb4 H4
  clear c0 c1 c2 c3 c4 c5 c6 c7 c8 c9 c10
  obtain ⟨c0, c1, c2, c3, c4, c5, c6, c7, c8, c9, c10⟩ := msn_low (m := m) (vw := vw) (vh := vh) (vr := vr) H4'.out
  go_wp2
  have hv1 : ∀ w1, Low w4 w1 → _ := fun w1 (h : Low w4 w1) => HL.out.2.2.2.2.1 w1 ((HM.out.below (B4.trans (h.out.mono B4.size))).mono (B4.trans (h.out.mono B4.size)).size)
  have hv2 : ∀ w1, Low w4 w1 → _ := fun w1 (h : Low w4 w1) => HL.out.2.2.2.2.2.1 w1 ((HM.out.below (B4.trans (h.out.mono B4.size))).mono (B4.trans (h.out.mono B4.size)).size)
  have hv1' := Lib.hid hv1
  have hv2' := Lib.hid hv2
  clear hv1 hv2
  (refine wp_region_low (by kernel_rfl) (by kernel_rfl) ?_; (iterate 29 (apply quiet_want; (case hw => rfl); (case hval => (intro w1 hw1; have hcx := Low.cells hw1; simp only [Oper.quietAt]; go_simp; first | done | (first | (go_at_call 19; with_reducible exact (Low.calls hw1 (hv1'.out _ hw1))) | (go_at_call 20; with_reducible exact (Low.calls hw1 (hv2'.out _ hw1)))) | rfl | exact ⟨rfl, rfl⟩)); simp only [Act.put, List.setIfInBounds_toArray, List.set_cons_zero, List.set_cons_succ])); refine wpQuiet_nil ?_; intro w2 hw2)
  have B5 := B4.trans (hw2.out.mono B4.size)
  have H5 := H4'.out.below hw2.out z4
  have z5 := H5.lt
  have H5' := Lib.hid H5
  clear c0 c1 c2 c3 c4 c5 c6 c7 c8 c9 c10
  obtain ⟨c0, c1, c2, c3, c4, c5, c6, c7, c8, c9, c10⟩ := msn_cells (m := m) (vw := vw) (vh := vh) (vr := vr) H5
  clear H5
  generalize w2 = w5 at *
  go_wp2_with fail; refine (HL.out.2.2.1 _ ((HM.out.below B5).mono B5.size)).mono ?_; rintro e w6 ⟨v6, rfl, hI6, hb6⟩; have B6 := B5.trans (hb6.mono B5.size); have H6 := H5'.out.below hb6 z5; have z6 := H6.lt; have H6' := Lib.hid H6; obtain ⟨c0, c1, c2, c3, c4, c5, c6, c7, c8, c9, c10⟩ := msn_cells (m := m) (vw := vw) (vh := vh) (vr := vr) H6; have hI6' := Lib.hid hI6; clear hI6; clear hb6 H6
  go_wp2_with fail; refine (HL.out.2.2.2.1 _ ((HM.out.below B6).mono B6.size)).mono ?_; rintro e w7 ⟨v7, rfl, hI7, hb7⟩; have B7 := B6.trans (hb7.mono B6.size); have H7 := H6'.out.below hb7 z6; have z7 := H7.lt; have H7' := Lib.hid H7; obtain ⟨c0, c1, c2, c3, c4, c5, c6, c7, c8, c9, c10⟩ := msn_cells (m := m) (vw := vw) (vh := vh) (vr := vr) H7; have hI7' := Lib.hid (And.intro (hI6'.out.below hb7) (And.intro hb7.size hI7)); clear hI7; clear hb7 H7
  go_wp2_with fail
  refine (same_any _ _ _ _ _ (hI7'.out.1.mono hI7'.out.2.1) hI7'.out.2.2).mono ?_
  rintro e w8 ⟨rfl, hb8⟩
  have B8 := Lib.hid (B7.trans (hb8.mono B7.size))
  clear hb8
  have d8 : decide (routeR m i = routeR m i) = true := by simp
  go_wp2
  go_ret
  exact ⟨rfl, B8.out⟩

set_option maxRecDepth 100000 in
theorem lifted (os : Os) (started : os.Started) (H : Type) (enc : TypeId × Value → H) :
    ReturnsInHanded {} Try.checked os 3 .any (Rows.missionMatchesReferenceSpec.pre6 enc Try.prog Try.f3 Rows.missionMatchesReferenceRow.domain false) (Rows.missionMatchesReferenceSpec.post enc Try.prog Try.f3 false true false false) := by
  refine returnsInHanded_of_change_sized (C := Try.checked) own started (by kernel_rfl) Try.func3
    (ChangeSpec.witness6 (enc := enc) (C := Try.checked) false ⟨#[], #[.agg #[.slice none 0 0, .slice none 0 0, .int .i64 0, .slice none 0 0, .int .i64 0, .int .i64 0, .int .i64 0, .int .i64 0, .int .i64 0, .int .i64 0, .int .i64 0], .int .i64 0, .int .i64 0], []⟩ 8 (by kernel_rfl) (by kernel_rfl) (by kernel_rfl) (by kernel_rfl)) ?_
  intro W base args ds gs before hval0 hW hcnd hsz0 _
  have hval : ∀ (j : Nat) t v, Try.f3.params[j]? = some t → args[j]? = some v → Value.okWide Try.prog W .any base t v := hval0
  have hW' := hW
  obtain ⟨p, q, hA0, hV, rfl, hfz, hnd⟩ := hW
  have hA : DataW.TrodAll enc Try.prog W 0 (fun _ => true) true Try.f3.params.toList args.toList ds p := hA0
  have hsz : (DataW.weightsEach Try.prog (Try.f3.params.toList ++ Rows.missionMatchesReferenceSpec.plain.varTypes Try.prog) (ds ++ gs)).all (· ≤ reachBytes) = true := hsz0
  rw [Try.params3] at hA hval hsz
  obtain ⟨v0, vs0, d0, ds0, p0, q0, hargs, rfl, rfl, h0, r0⟩ := trodAll_cons hA
  obtain ⟨v1, vs1, d1, ds1, p1, q1, rfl, rfl, rfl, h1, r1⟩ := trodAll_cons r0
  obtain ⟨v2, vs2, d2, ds2, p2, q2, rfl, rfl, rfl, h2, r2⟩ := trodAll_cons r1
  obtain ⟨rfl, rfl, rfl⟩ := trodAll_nil r2
  obtain rfl : args = #[v0, v1, v2] := by cases args; simp_all
  obtain ⟨rfl, rfl⟩ := trodVars_none hV
  have k0 := h0
  have lt0 : ∀ x ∈ p0, x.block < W.heap.size := by obtain ⟨m, hm⟩ := k0; exact DataW.trod_lt m _ _ _ hm
  have z0 : ∀ n ∈ d0.weights Try.prog 26, n ≤ reachBytes := fun n hn => by have := List.all_eq_true.1 hsz n (DataW.weights_mem_each (j := 0) (t := 26) (d := d0) rfl rfl n hn); simpa using this
  obtain ⟨a0, vw0, vh0, vr0, rfl, w0⟩ := open_msn (hval 0 26 v0 rfl rfl) h0 z0
  obtain ⟨a1, rfl, rfl, rfl, w1⟩ := open_int Try.underlying3 (hval 1 3 v1 rfl rfl) h1
  obtain ⟨a2, rfl, rfl, rfl, w2⟩ := open_int Try.underlying3 (hval 2 3 v2 rfl rfl) h2
  clear hA0 hval0
  refine (walk W a0 vw0 vh0 vr0 a1 a2 w0 w1 w2).mono fun e W' ⟨he, bel⟩ => ?_
  subst he
  exact ⟨_, rfl, _, _, _, [], _, [], hW', trodAll_mk1 (shut_bool Try.underlying4 _), (trodAll_cons_mk (Below.trod laidOut (by kernel_rfl) (of_decide_eq_true (by kernel_rfl)) k0 bel lt0) (trodAll_cons_mk (shut_int Try.underlying3 w1) (trodAll_cons_mk (shut_int Try.underlying3 w2) trodAll_mk0))), rfl, bel.frame _, fun h => by cases h⟩

theorem over : Rows.missionMatchesReferenceRow.holds Try.pinned (OpenSpec.ofChange Rows.missionMatchesReferenceSpec) :=
  OpenClaim.holds_of_wide 3 Try.f3 rfl rfl rfl rfl rfl rfl rfl ⟨rfl, rfl, rfl, rfl, rfl⟩ rfl rfl rfl rfl rfl (by kernel_rfl) Try.func3 (by kernel_rfl)
    (of_decide_eq_true (by kernel_rfl)) (by unfold Func.isWrapper; first | (rw [if_pos (by decide +kernel)]; kernel_rfl) | (rw [if_neg (by decide +kernel)]; exact ⟨rfl, rfl⟩))
    (fun os started H enc _ => lifted os started H enc)

/-- the statement -/
theorem proved : Rows.MissionMatchesReferenceSaid := over
#print axioms proved
end Go.Proofs.Ytjnjmpakmgmdbaa.missionMatchesReference
