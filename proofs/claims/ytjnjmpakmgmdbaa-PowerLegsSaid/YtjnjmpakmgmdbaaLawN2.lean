/- For all missions and ways (up to 8 ways and 12 rocks): a leg back costs what the leg costs, and never more than two legs by way of a third place; it takes as long as layer 31 says, and Idle and Drive make its energy. No condition. -/
import Derived.Test.YtjnjmpakmgmdbaaHead34
import Derived.Test.YtjnjmpakmgmdbaaOpen
namespace Go.Proofs.Ytjnjmpakmgmdbaa.powerLegs
open Go.ChangeShapes Go.WideShapes Go.ChangeAt Go.RowKit
set_option linter.unusedVariables false
theorem own : ownKnob Try.prog.godebug = none := by kernel_rfl
theorem laidOut : laidOutB Try.prog = true := by kernel_rfl
attribute [local irreducible] wpQuiet

theorem lasts_add {s x z u : Int} (h1 : 1 ≤ s) (hx : 0 ≤ x) (hz : 0 ≤ z) (hu : 0 ≤ u) (h : x ≤ z + u) : lastsV s x ≤ lastsV s z + lastsV s u := by
  have a := lasts_law (speed := s) hx h1
  have b := lasts_law (speed := s) hz h1
  have c := lasts_law (speed := s) hu h1
  rcases Int.lt_or_le (lastsV s z + lastsV s u) (lastsV s x) with hh | hh
  · have := Int.mul_le_mul_of_nonneg_right (show lastsV s z + lastsV s u ≤ lastsV s x - 1 by omega) (show 0 ≤ s by omega)
    rw [Int.add_mul] at this
    omega
  · exact hh

set_option maxRecDepth 8000 in
set_option maxHeartbeats 2000000 in
theorem walk (w : World) (m : Msn) (vw vh vr : Value) (i j k : Int) (hm : MsnAt w.heap.size w m vw vh vr) (w1 : (Lit.int .u8 i).wf = true) (w2 : (Lit.int .u8 j).wf = true) (w3 : (Lit.int .u8 k).wf = true) :
    Calls Try.prog 10 #[.agg (msnCells m vw vh vr), .int .u8 i, .int .u8 j, .int .u8 k] w fun e w' => e = .returned (.bool true) ∧ Below w.heap.size w w' := by
  obtain ⟨i, rfl, hi⟩ := u8_bd w1
  obtain ⟨j, rfl, hj⟩ := u8_bd w2
  obtain ⟨k, rfl, hk⟩ := u8_bd w3
  clear w1 w2 w3
  obtain ⟨_, a1, cap1, hvw, _⟩ := hm.1
  subst hvw
  have hff := fun w1 h => few34_any m (.slice a1 m.ways.length (m.ways.length + cap1)) vh vr (.slice none 0 0) [] w1 h ⟨none, 0, rfl⟩
  have HF := Lib.hid hff
  have H0 := Has.new w (msnCells m (.slice a1 m.ways.length (m.ways.length + cap1)) vh vr) 26
  have HM := Lib.hid hm
  have H0' := Lib.hid H0
  clear hff hm H0
  unfold msnCells at *
  go_enter Try.func10, Try.ntmps10
  go_wp2_with fail; refine (head34_any _).mono ?_; rintro e w1 ⟨rfl, hb1⟩; have B1 : Below w.heap.size w w1 := ((Below.refl _ w).alloc (Nat.le_refl _) _).trans (hb1.mono (by simp)); have H1 := H0'.out.below (hb1.mono (by simp) : Below (w.heap.size + 1) _ w1) (by omega); have z1 := H1.lt; have H1' := Lib.hid H1; obtain ⟨c0, c1, c2, c3, c4, c5, c6, c7, c8, c9, c10⟩ := msn_cells (m := m) (vw := .slice a1 m.ways.length (m.ways.length + cap1)) (vh := vh) (vr := vr) H1; clear hb1 H1
  go_wp2_with fail; refine (HF.out _ ((HM.out.below B1).mono B1.size)).mono ?_; rintro e w2 ⟨rfl, hb2⟩; have B2 := B1.trans (hb2.mono B1.size); have H2 := H1'.out.below hb2 z1; have z2 := H2.lt; have H2' := Lib.hid H2; obtain ⟨c0, c1, c2, c3, c4, c5, c6, c7, c8, c9, c10⟩ := msn_cells (m := m) (vw := .slice a1 m.ways.length (m.ways.length + cap1)) (vh := vh) (vr := vr) H2; clear hb2 H2
  cases hfew : few34B m []
  · go_wp2
    go_ret
    exact ⟨rfl, B2⟩
  have hfw := Lib.hid hfew
  have h0 : 0 < m.ways.length := few34_ways hfew
  clear hfew
  have hne : ¬ m.ways = [] := by intro h; rw [h] at h0; simp at h0
  obtain ⟨a, ha1, ha2, ha3⟩ := mod_at (i := i) h0
  obtain ⟨b, hb1, hb2, hb3⟩ := mod_at (i := j) h0
  obtain ⟨c, hc1, hc2, hc3⟩ := mod_at (i := k) h0
  have i1 : IntKind.i64.wrap (i : Int) = i := IntWalk.i64_in _ (by omega)
  have j1 : IntKind.i64.wrap (j : Int) = j := IntWalk.i64_in _ (by omega)
  have k1 : IntKind.i64.wrap (k : Int) = k := IntWalk.i64_in _ (by omega)
  go_wp2
  (refine wp_region_low (by kernel_rfl) (by kernel_rfl) ?_; (iterate 15 (apply quiet_want; (case hw => rfl); (case hval => (intro w1 hw1; have hcx := Low.cells hw1; simp only [Oper.quietAt]; go_simp; first | done | (first | fail) | rfl | exact ⟨rfl, rfl⟩)); simp only [Act.put, List.setIfInBounds_toArray, List.set_cons_zero, List.set_cons_succ])); refine wpQuiet_nil ?_; intro w2 hw2)
  have B3 := B2.trans (hw2.out.mono B2.size)
  have H3 := H2'.out.below hw2.out z2
  have z3 := H3.lt
  have H3' := Lib.hid H3
  clear c0 c1 c2 c3 c4 c5 c6 c7 c8 c9 c10 ha1 ha3 hb1 hb3 hc1 hc3 i1 j1 k1 hw2
  obtain ⟨c0, c1, c2, c3, c4, c5, c6, c7, c8, c9, c10⟩ := msn_cells (m := m) (vw := .slice a1 m.ways.length (m.ways.length + cap1)) (vh := vh) (vr := vr) H3
  clear H3
  generalize w2 = w3 at *
  have hl1 := fun w1 h => pcost_all m (.slice a1 m.ways.length (m.ways.length + cap1)) vh vr a b w1 h
  have hl2 := fun w1 h => pcost_all m (.slice a1 m.ways.length (m.ways.length + cap1)) vh vr b a w1 h
  have hl3 := fun w1 h => pcost_all m (.slice a1 m.ways.length (m.ways.length + cap1)) vh vr a c w1 h
  have hl4 := fun w1 h => pcost_all m (.slice a1 m.ways.length (m.ways.length + cap1)) vh vr c b w1 h
  have hl5 := fun w1 h => leg_all m (.slice a1 m.ways.length (m.ways.length + cap1)) vh vr a b w1 h
  cases hv : validB m
  · rw [leg_bad _ _ hv] at hl5
    have no : ∀ x y : Int, okL m x y = false := fun x y => by simp [okL, hv]
    simp only [pT, pE, legE, no, Bool.false_eq_true, if_false] at hl1 hl2 hl3 hl4
    have HL := Lib.hid (And.intro hl1 (And.intro hl2 (And.intro hl3 (And.intro hl4 hl5))))
    have HV := Lib.hid hv
    clear hl1 hl2 hl3 hl4 hl5 hv no
    unfold msnCells at HL
    go_wp2_with fail; refine (HL.out.1 _ ((HM.out.below B3).mono B3.size)).mono ?_; rintro e w4 ⟨rfl, hb4⟩; have B4 := B3.trans (hb4.mono B3.size); have H4 := H3'.out.below hb4 z3; have z4 := H4.lt; have H4' := Lib.hid H4; obtain ⟨c0, c1, c2, c3, c4, c5, c6, c7, c8, c9, c10⟩ := msn_cells (m := m) (vw := .slice a1 m.ways.length (m.ways.length + cap1)) (vh := vh) (vr := vr) H4; clear hb4 H4
    go_wp2_with fail; refine (HL.out.2.1 _ ((HM.out.below B4).mono B4.size)).mono ?_; rintro e w5 ⟨rfl, hb5⟩; have B5 := B4.trans (hb5.mono B4.size); have H5 := H4'.out.below hb5 z4; have z5 := H5.lt; have H5' := Lib.hid H5; obtain ⟨c0, c1, c2, c3, c4, c5, c6, c7, c8, c9, c10⟩ := msn_cells (m := m) (vw := .slice a1 m.ways.length (m.ways.length + cap1)) (vh := vh) (vr := vr) H5; clear hb5 H5
    go_wp2_with fail; refine (HL.out.2.2.1 _ ((HM.out.below B5).mono B5.size)).mono ?_; rintro e w6 ⟨rfl, hb6⟩; have B6 := B5.trans (hb6.mono B5.size); have H6 := H5'.out.below hb6 z5; have z6 := H6.lt; have H6' := Lib.hid H6; obtain ⟨c0, c1, c2, c3, c4, c5, c6, c7, c8, c9, c10⟩ := msn_cells (m := m) (vw := .slice a1 m.ways.length (m.ways.length + cap1)) (vh := vh) (vr := vr) H6; clear hb6 H6
    go_wp2_with fail; refine (HL.out.2.2.2.1 _ ((HM.out.below B6).mono B6.size)).mono ?_; rintro e w7 ⟨rfl, hb7⟩; have B7 := B6.trans (hb7.mono B6.size); have H7 := H6'.out.below hb7 z6; have z7 := H7.lt; have H7' := Lib.hid H7; obtain ⟨c0, c1, c2, c3, c4, c5, c6, c7, c8, c9, c10⟩ := msn_cells (m := m) (vw := .slice a1 m.ways.length (m.ways.length + cap1)) (vh := vh) (vr := vr) H7; clear hb7 H7
    go_wp2_with fail; refine (HL.out.2.2.2.2 _ ((HM.out.below B7).mono B7.size)).mono ?_; rintro e w8 ⟨rfl, hb8⟩; have B8 := B7.trans (hb8.mono B7.size); have H8 := H7'.out.below hb8 z7; have z8 := H8.lt; have H8' := Lib.hid H8; obtain ⟨c0, c1, c2, c3, c4, c5, c6, c7, c8, c9, c10⟩ := msn_cells (m := m) (vw := .slice a1 m.ways.length (m.ways.length + cap1)) (vh := vh) (vr := vr) H8; clear hb8 H8
    go_wp2
    go_ret
    exact ⟨rfl, B8⟩
  · rw [leg_nat hv ha2 hb2] at hl5
    simp only [pT, pE, legE, okL_mk hv ha2 hb2, okL_mk hv hb2 ha2, okL_mk hv ha2 hc2, okL_mk hv hc2 hb2, if_true, Int.toNat_natCast] at hl1 hl2 hl3 hl4
    have V := (validB_iff m).1 hv
    have hsym : dLeg m b a = dLeg m a b := dist_comm _ _ _ _
    have htri : dLeg m a b ≤ dLeg m a c + dLeg m c b := dist_tri _ _ _ _ _ _
    have bd1 := dLeg_bd V.ways ha2 hb2
    have bd2 := dLeg_bd V.ways ha2 hc2
    have bd3 := dLeg_bd V.ways hc2 hb2
    have t1 := tLeg_bd V.leg V.ways ha2 hb2
    have t2 := tLeg_bd V.leg V.ways ha2 hc2
    have t3 := tLeg_bd V.leg V.ways hc2 hb2
    have htt : tLeg m a b ≤ tLeg m a c + tLeg m c b := lasts_add V.leg.1 bd1.1 bd2.1 bd3.1 htri
    have hst : tLeg m b a = tLeg m a b := by unfold tLeg; rw [hsym]
    have hse : eLeg m b a = eLeg m a b := by unfold eLeg; rw [hsym, hst]
    have e1 := eLeg_bd V ha2 hb2
    have e2 := eLeg_bd V ha2 hc2
    have e3 := eLeg_bd V hc2 hb2
    have q1 := Int.mul_le_mul_of_nonneg_left htt V.idle.1
    have q2 := Int.mul_le_mul_of_nonneg_left htri V.drive.1
    rw [Int.mul_add] at q1 q2
    have hee : eLeg m a b ≤ eLeg m a c + eLeg m c b := by unfold eLeg; omega
    have hed : m.idle * tLeg m a b + m.drive * dLeg m a b = eLeg m a b := rfl
    rw [hst, hse] at hl2
    have m1 : IntKind.i64.wrap (m.idle * tLeg m a b) = m.idle * tLeg m a b := IntWalk.i64_in _ (by omega)
    have m2 : IntKind.i64.wrap (m.drive * dLeg m a b) = m.drive * dLeg m a b := IntWalk.i64_in _ (by omega)
    have m3 : IntKind.i64.wrap (m.idle * tLeg m a b + m.drive * dLeg m a b) = eLeg m a b := by rw [hed]; exact IntWalk.i64_in _ (by omega)
    have s1 : IntKind.i64.wrap (tLeg m a c + tLeg m c b) = tLeg m a c + tLeg m c b := IntWalk.i64_in _ (by omega)
    have s2 : IntKind.i64.wrap (eLeg m a c + eLeg m c b) = eLeg m a c + eLeg m c b := IntWalk.i64_in _ (by omega)
    have d1 : decide (tLeg m a b ≤ tLeg m a c + tLeg m c b) = true := decide_eq_true htt
    have d2 : decide (eLeg m a b ≤ eLeg m a c + eLeg m c b) = true := decide_eq_true hee
    clear q1 q2 htri htt hst hse hee hed hsym V bd1 bd2 bd3 t1 t2 t3 e1 e2 e3
    generalize dLeg m a b = x at *
    generalize tLeg m a b = t1 at *
    generalize tLeg m a c = t3 at *
    generalize tLeg m c b = t4 at *
    generalize eLeg m a b = e1 at *
    generalize eLeg m a c = e3 at *
    generalize eLeg m c b = e4 at *
    generalize gLeg m a b = g1 at *
    have HL := Lib.hid (And.intro hl1 (And.intro hl2 (And.intro hl3 (And.intro hl4 hl5))))
    have HV := Lib.hid hv
    clear hl1 hl2 hl3 hl4 hl5 hv
    unfold msnCells at HL
    go_wp2_with fail; refine (HL.out.1 _ ((HM.out.below B3).mono B3.size)).mono ?_; rintro e w4 ⟨rfl, hb4⟩; have B4 := B3.trans (hb4.mono B3.size); have H4 := H3'.out.below hb4 z3; have z4 := H4.lt; have H4' := Lib.hid H4; obtain ⟨c0, c1, c2, c3, c4, c5, c6, c7, c8, c9, c10⟩ := msn_cells (m := m) (vw := .slice a1 m.ways.length (m.ways.length + cap1)) (vh := vh) (vr := vr) H4; clear hb4 H4
    go_wp2_with fail; refine (HL.out.2.1 _ ((HM.out.below B4).mono B4.size)).mono ?_; rintro e w5 ⟨rfl, hb5⟩; have B5 := B4.trans (hb5.mono B4.size); have H5 := H4'.out.below hb5 z4; have z5 := H5.lt; have H5' := Lib.hid H5; obtain ⟨c0, c1, c2, c3, c4, c5, c6, c7, c8, c9, c10⟩ := msn_cells (m := m) (vw := .slice a1 m.ways.length (m.ways.length + cap1)) (vh := vh) (vr := vr) H5; clear hb5 H5
    go_wp2_with fail; refine (HL.out.2.2.1 _ ((HM.out.below B5).mono B5.size)).mono ?_; rintro e w6 ⟨rfl, hb6⟩; have B6 := B5.trans (hb6.mono B5.size); have H6 := H5'.out.below hb6 z5; have z6 := H6.lt; have H6' := Lib.hid H6; obtain ⟨c0, c1, c2, c3, c4, c5, c6, c7, c8, c9, c10⟩ := msn_cells (m := m) (vw := .slice a1 m.ways.length (m.ways.length + cap1)) (vh := vh) (vr := vr) H6; clear hb6 H6
    go_wp2_with fail; refine (HL.out.2.2.2.1 _ ((HM.out.below B6).mono B6.size)).mono ?_; rintro e w7 ⟨rfl, hb7⟩; have B7 := B6.trans (hb7.mono B6.size); have H7 := H6'.out.below hb7 z6; have z7 := H7.lt; have H7' := Lib.hid H7; obtain ⟨c0, c1, c2, c3, c4, c5, c6, c7, c8, c9, c10⟩ := msn_cells (m := m) (vw := .slice a1 m.ways.length (m.ways.length + cap1)) (vh := vh) (vr := vr) H7; clear hb7 H7
    go_wp2_with fail; refine (HL.out.2.2.2.2 _ ((HM.out.below B7).mono B7.size)).mono ?_; rintro e w8 ⟨rfl, hb8⟩; have B8 := B7.trans (hb8.mono B7.size); have H8 := H7'.out.below hb8 z7; have z8 := H8.lt; have H8' := Lib.hid H8; obtain ⟨c0, c1, c2, c3, c4, c5, c6, c7, c8, c9, c10⟩ := msn_cells (m := m) (vw := .slice a1 m.ways.length (m.ways.length + cap1)) (vh := vh) (vr := vr) H8; clear hb8 H8
    go_wp2
    go_ret
    exact ⟨rfl, B8⟩

set_option maxRecDepth 100000 in
theorem lifted (os : Os) (started : os.Started) (H : Type) (enc : TypeId × Value → H) :
    ReturnsInHanded {} Try.checked os 10 .any (Rows.powerLegsSpec.pre6 enc Try.prog Try.f10 Rows.powerLegsRow.domain false) (Rows.powerLegsSpec.post enc Try.prog Try.f10 false true false false) := by
  refine returnsInHanded_of_change_sized (C := Try.checked) own started (by kernel_rfl) Try.func10
    (ChangeSpec.witness6 (enc := enc) (C := Try.checked) false ⟨#[], #[.agg #[.slice none 0 0, .slice none 0 0, .int .i64 0, .slice none 0 0, .int .i64 0, .int .i64 0, .int .i64 0, .int .i64 0, .int .i64 0, .int .i64 0, .int .i64 0], .int .u8 0, .int .u8 0, .int .u8 0], []⟩ 8 (by kernel_rfl) (by kernel_rfl) (by kernel_rfl) (by kernel_rfl)) ?_
  intro W base args ds gs before hval0 hW hcnd hsz0 _
  have hval : ∀ (j : Nat) t v, Try.f10.params[j]? = some t → args[j]? = some v → Value.okWide Try.prog W .any base t v := hval0
  have hW' := hW
  obtain ⟨p, q, hA0, hV, rfl, hfz, hnd⟩ := hW
  have hA : DataW.TrodAll enc Try.prog W 0 (fun _ => true) true Try.f10.params.toList args.toList ds p := hA0
  have hsz : (DataW.weightsEach Try.prog (Try.f10.params.toList ++ Rows.powerLegsSpec.plain.varTypes Try.prog) (ds ++ gs)).all (· ≤ reachBytes) = true := hsz0
  rw [Try.params10] at hA hval hsz
  obtain ⟨v0, vs0, d0, ds0, p0, q0, hargs, rfl, rfl, h0, r0⟩ := trodAll_cons hA
  obtain ⟨v1, vs1, d1, ds1, p1, q1, rfl, rfl, rfl, h1, r1⟩ := trodAll_cons r0
  obtain ⟨v2, vs2, d2, ds2, p2, q2, rfl, rfl, rfl, h2, r2⟩ := trodAll_cons r1
  obtain ⟨v3, vs3, d3, ds3, p3, q3, rfl, rfl, rfl, h3, r3⟩ := trodAll_cons r2
  obtain ⟨rfl, rfl, rfl⟩ := trodAll_nil r3
  obtain rfl : args = #[v0, v1, v2, v3] := by cases args; simp_all
  obtain ⟨rfl, rfl⟩ := trodVars_none hV
  have k0 := h0
  have lt0 : ∀ x ∈ p0, x.block < W.heap.size := by obtain ⟨m, hm⟩ := k0; exact DataW.trod_lt m _ _ _ hm
  have z0 : ∀ n ∈ d0.weights Try.prog 26, n ≤ reachBytes := fun n hn => by have := List.all_eq_true.1 hsz n (DataW.weights_mem_each (j := 0) (t := 26) (d := d0) rfl rfl n hn); simpa using this
  obtain ⟨a0, vw0, vh0, vr0, rfl, w0⟩ := open_msn (hval 0 26 v0 rfl rfl) h0 z0
  obtain ⟨a1, rfl, rfl, rfl, w1⟩ := open_int Try.underlying5 (hval 1 5 v1 rfl rfl) h1
  obtain ⟨a2, rfl, rfl, rfl, w2⟩ := open_int Try.underlying5 (hval 2 5 v2 rfl rfl) h2
  obtain ⟨a3, rfl, rfl, rfl, w3⟩ := open_int Try.underlying5 (hval 3 5 v3 rfl rfl) h3
  clear hA0 hval0
  refine (walk W a0 vw0 vh0 vr0 a1 a2 a3 w0 w1 w2 w3).mono fun e W' ⟨he, bel⟩ => ?_
  subst he
  exact ⟨_, rfl, _, _, _, [], _, [], hW', trodAll_mk1 (shut_bool Try.underlying4 _), (trodAll_cons_mk (Below.trod laidOut (by kernel_rfl) (of_decide_eq_true (by kernel_rfl)) k0 bel lt0) (trodAll_cons_mk (shut_int Try.underlying5 w1) (trodAll_cons_mk (shut_int Try.underlying5 w2) (trodAll_cons_mk (shut_int Try.underlying5 w3) trodAll_mk0)))), rfl, bel.frame _, fun h => by cases h⟩

theorem over : Rows.powerLegsRow.holds Try.pinned (OpenSpec.ofChange Rows.powerLegsSpec) :=
  OpenClaim.holds_of_wide 10 Try.f10 rfl rfl rfl rfl rfl rfl rfl ⟨rfl, rfl, rfl, rfl, rfl⟩ rfl rfl rfl rfl rfl (by kernel_rfl) Try.func10 (by kernel_rfl)
    (of_decide_eq_true (by kernel_rfl)) (by unfold Func.isWrapper; first | (rw [if_pos (by decide +kernel)]; kernel_rfl) | (rw [if_neg (by decide +kernel)]; exact ⟨rfl, rfl⟩))
    (fun os started H enc _ => lifted os started H enc)

/-- the statement -/
theorem proved : Rows.PowerLegsSaid := over
#print axioms proved
end Go.Proofs.Ytjnjmpakmgmdbaa.powerLegs
