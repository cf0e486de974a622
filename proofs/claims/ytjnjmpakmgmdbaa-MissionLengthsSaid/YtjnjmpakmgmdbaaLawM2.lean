/- For all missions and ways (up to 8 ways and 12 rocks): a leg is as long as the leg back, and not longer than two legs by way of a third place; it has no length exactly if both places are one. No condition. -/
import Derived.Test.YtjnjmpakmgmdbaaHead31
import Derived.Test.YtjnjmpakmgmdbaaLegLaw
import Derived.Test.YtjnjmpakmgmdbaaOpen
namespace Go.Proofs.Ytjnjmpakmgmdbaa.missionLengths
open Go.ChangeShapes Go.WideShapes Go.ChangeAt Go.RowKit
set_option linter.unusedVariables false
theorem own : ownKnob Try.prog.godebug = none := by kernel_rfl
theorem laidOut : laidOutB Try.prog = true := by kernel_rfl
attribute [local irreducible] wpQuiet

set_option maxRecDepth 8000 in
set_option maxHeartbeats 2000000 in
theorem walk (w : World) (m : Msn) (vw vh vr : Value) (i j k : Int) (hm : MsnAt w.heap.size w m vw vh vr) (w1 : (Lit.int .u8 i).wf = true) (w2 : (Lit.int .u8 j).wf = true) (w3 : (Lit.int .u8 k).wf = true) :
    Calls Try.prog 4 #[.agg (msnCells m vw vh vr), .int .u8 i, .int .u8 j, .int .u8 k] w fun e w' => e = .returned (.bool true) ∧ Below w.heap.size w w' := by
  obtain ⟨i, rfl, hi⟩ := u8_bd w1
  obtain ⟨j, rfl, hj⟩ := u8_bd w2
  obtain ⟨k, rfl, hk⟩ := u8_bd w3
  clear w1 w2 w3
  obtain ⟨_, a1, cap1, hvw, _⟩ := hm.1
  subst hvw
  have hff := fun w1 h => few_any m (.slice a1 m.ways.length (m.ways.length + cap1)) vh vr w1 h
  have HF := Lib.hid hff
  have H0 := Has.new w (msnCells m (.slice a1 m.ways.length (m.ways.length + cap1)) vh vr) 26
  have HM := Lib.hid hm
  have H0' := Lib.hid H0
  clear hff hm H0
  unfold msnCells at *
  go_enter Try.func4, Try.ntmps4
  go_wp2_with fail; refine (head31_any _).mono ?_; rintro e w1 ⟨rfl, hb1⟩; have B1 : Below w.heap.size w w1 := ((Below.refl _ w).alloc (Nat.le_refl _) _).trans (hb1.mono (by simp)); have H1 := H0'.out.below (hb1.mono (by simp) : Below (w.heap.size + 1) _ w1) (by omega); have z1 := H1.lt; have H1' := Lib.hid H1; obtain ⟨c0, c1, c2, c3, c4, c5, c6, c7, c8, c9, c10⟩ := msn_cells (m := m) (vw := .slice a1 m.ways.length (m.ways.length + cap1)) (vh := vh) (vr := vr) H1; clear hb1 H1
  go_wp2_with fail; refine (HF.out _ ((HM.out.below B1).mono B1.size)).mono ?_; rintro e w2 ⟨rfl, hb2⟩; have B2 := B1.trans (hb2.mono B1.size); have H2 := H1'.out.below hb2 z1; have z2 := H2.lt; have H2' := Lib.hid H2; obtain ⟨c0, c1, c2, c3, c4, c5, c6, c7, c8, c9, c10⟩ := msn_cells (m := m) (vw := .slice a1 m.ways.length (m.ways.length + cap1)) (vh := vh) (vr := vr) H2; clear hb2 H2
  cases hfew : fewB m
  · go_wp2
    go_ret
    exact ⟨rfl, B2⟩
  have hfw := Lib.hid hfew
  clear hfew
  by_cases hl0 : m.ways.length = 0
  · have d0 : ((m.ways.length : Int) == 0) = true := by simp [hl0]
    clear hl0
    go_wp2
    go_ret
    exact ⟨rfl, B2⟩
  have d0 : ((m.ways.length : Int) == 0) = false := by rw [beq_eq_false_iff_ne]; omega
  have h0 : 0 < m.ways.length := by omega
  have hne : ¬ m.ways = [] := by intro h; rw [h] at h0; simp at h0
  clear hl0
  obtain ⟨a, ha1, ha2, ha3⟩ := mod_at (i := i) h0
  obtain ⟨b, hb1, hb2, hb3⟩ := mod_at (i := j) h0
  obtain ⟨c, hc1, hc2, hc3⟩ := mod_at (i := k) h0
  have i1 : IntKind.i64.wrap (i : Int) = i := IntWalk.i64_in _ (by omega)
  have j1 : IntKind.i64.wrap (j : Int) = j := IntWalk.i64_in _ (by omega)
  have k1 : IntKind.i64.wrap (k : Int) = k := IntWalk.i64_in _ (by omega)
  go_wp2
  (refine wp_region_low (by kernel_rfl) (by kernel_rfl) ?_; (iterate 15 (apply quiet_want; (case hw => rfl); (case hval => (intro w1 hw1; have hcx := Low.cells hw1; simp only [Oper.quietAt]; go_simp; first | done | (first | fail) | rfl | exact ⟨rfl, rfl⟩)); simp only [Act.put, List.setIfInBounds_toArray, List.set_cons_zero, List.set_cons_succ])); refine wpQuiet_nil ?_; intro w2 hw2)
  have B3 := B2.trans (hw2.out.mono B2.size)
  have H3 := H2'.out.below hw2.out z2
  have z3 := H3.lt
  have H3' := Lib.hid H3
  clear c0 c1 c2 c3 c4 c5 c6 c7 c8 c9 c10 ha1 ha3 hb1 hb3 hc1 hc3 i1 j1 k1 hw2
  obtain ⟨c0, c1, c2, c3, c4, c5, c6, c7, c8, c9, c10⟩ := msn_cells (m := m) (vw := .slice a1 m.ways.length (m.ways.length + cap1)) (vh := vh) (vr := vr) H3
  clear H3
  generalize w2 = w3 at *
  have hl1 := fun w1 h => leg_all m (.slice a1 m.ways.length (m.ways.length + cap1)) vh vr a b w1 h
  have hl2 := fun w1 h => leg_all m (.slice a1 m.ways.length (m.ways.length + cap1)) vh vr b a w1 h
  have hl3 := fun w1 h => leg_all m (.slice a1 m.ways.length (m.ways.length + cap1)) vh vr a c w1 h
  have hl4 := fun w1 h => leg_all m (.slice a1 m.ways.length (m.ways.length + cap1)) vh vr c b w1 h
  cases hv : validB m
  · rw [leg_bad _ _ hv] at hl1 hl2 hl3 hl4
    have HL := Lib.hid (And.intro hl1 (And.intro hl2 (And.intro hl3 hl4)))
    have HV := Lib.hid hv
    clear hl1 hl2 hl3 hl4 hv
    unfold msnCells at HL
    go_wp2_with fail; refine (HL.out.1 _ ((HM.out.below B3).mono B3.size)).mono ?_; rintro e w4 ⟨rfl, hb4⟩; have B4 := B3.trans (hb4.mono B3.size); have H4 := H3'.out.below hb4 z3; have z4 := H4.lt; have H4' := Lib.hid H4; obtain ⟨c0, c1, c2, c3, c4, c5, c6, c7, c8, c9, c10⟩ := msn_cells (m := m) (vw := .slice a1 m.ways.length (m.ways.length + cap1)) (vh := vh) (vr := vr) H4; clear hb4 H4
    go_wp2_with fail; refine (HL.out.2.1 _ ((HM.out.below B4).mono B4.size)).mono ?_; rintro e w5 ⟨rfl, hb5⟩; have B5 := B4.trans (hb5.mono B4.size); have H5 := H4'.out.below hb5 z4; have z5 := H5.lt; have H5' := Lib.hid H5; obtain ⟨c0, c1, c2, c3, c4, c5, c6, c7, c8, c9, c10⟩ := msn_cells (m := m) (vw := .slice a1 m.ways.length (m.ways.length + cap1)) (vh := vh) (vr := vr) H5; clear hb5 H5
    go_wp2_with fail; refine (HL.out.2.2.1 _ ((HM.out.below B5).mono B5.size)).mono ?_; rintro e w6 ⟨rfl, hb6⟩; have B6 := B5.trans (hb6.mono B5.size); have H6 := H5'.out.below hb6 z5; have z6 := H6.lt; have H6' := Lib.hid H6; obtain ⟨c0, c1, c2, c3, c4, c5, c6, c7, c8, c9, c10⟩ := msn_cells (m := m) (vw := .slice a1 m.ways.length (m.ways.length + cap1)) (vh := vh) (vr := vr) H6; clear hb6 H6
    go_wp2_with fail; refine (HL.out.2.2.2 _ ((HM.out.below B6).mono B6.size)).mono ?_; rintro e w7 ⟨rfl, hb7⟩; have B7 := B6.trans (hb7.mono B6.size); have H7 := H6'.out.below hb7 z6; have z7 := H7.lt; have H7' := Lib.hid H7; obtain ⟨c0, c1, c2, c3, c4, c5, c6, c7, c8, c9, c10⟩ := msn_cells (m := m) (vw := .slice a1 m.ways.length (m.ways.length + cap1)) (vh := vh) (vr := vr) H7; clear hb7 H7
    go_wp2
    go_ret
    exact ⟨rfl, B7⟩
  · rw [leg_nat hv (by omega) (by omega)] at hl1 hl2 hl3 hl4
    have V := (validB_iff m).1 hv
    have hsym : dLeg m b a = dLeg m a b := dist_comm _ _ _ _
    have htri : dLeg m a b ≤ dLeg m a c + dLeg m c b := dist_tri _ _ _ _ _ _
    have hzz : dLeg m a b = 0 → (wy m.ways a).x = (wy m.ways b).x ∧ (wy m.ways a).y = (wy m.ways b).y := dist_zero
    have hzs : (wy m.ways a).x = (wy m.ways b).x → (wy m.ways a).y = (wy m.ways b).y → dLeg m a b = 0 := fun h1 h2 => by unfold dLeg; rw [h1, h2]; exact dist_self _ _
    have bd1 := dLeg_bd V.ways (i := a) (j := c) (by omega) (by omega)
    have bd2 := dLeg_bd V.ways (i := c) (j := b) (by omega) (by omega)
    rw [hsym] at hl2
    generalize dLeg m a b = x at *
    generalize dLeg m a c = z at *
    generalize dLeg m c b = u at *
    generalize tLeg m a b = t1 at *
    generalize tLeg m b a = t2 at *
    generalize tLeg m a c = t3 at *
    generalize tLeg m c b = t4 at *
    generalize gLeg m a b = g1 at *
    generalize gLeg m b a = g2 at *
    generalize gLeg m a c = g3 at *
    generalize gLeg m c b = g4 at *
    have HL := Lib.hid (And.intro hl1 (And.intro hl2 (And.intro hl3 hl4)))
    have HV := Lib.hid hv
    have HZ := Lib.hid (And.intro hzz hzs)
    clear hl1 hl2 hl3 hl4 hv V hsym hzz hzs
    unfold msnCells at HL
    obtain ⟨b1, o, cap, hvw, hbb, hcc⟩ := HM.out.1.cells h0
    simp only [Value.slice.injEq, true_and] at hvw
    obtain ⟨rfl, hcap⟩ := hvw
    clear hcap
    have HC := Lib.hid (And.intro (hcc a ha2) (hcc b hb2))
    clear hcc
    go_wp2_with fail; refine (HL.out.1 _ ((HM.out.below B3).mono B3.size)).mono ?_; rintro e w4 ⟨rfl, hb4⟩; have B4 := B3.trans (hb4.mono B3.size); have H4 := H3'.out.below hb4 z3; have z4 := H4.lt; have H4' := Lib.hid H4; obtain ⟨c0, c1, c2, c3, c4, c5, c6, c7, c8, c9, c10⟩ := msn_cells (m := m) (vw := .slice (some ⟨b1, o, none⟩) m.ways.length (m.ways.length + cap1)) (vh := vh) (vr := vr) H4; clear hb4 H4
    go_wp2_with fail; refine (HL.out.2.1 _ ((HM.out.below B4).mono B4.size)).mono ?_; rintro e w5 ⟨rfl, hb5⟩; have B5 := B4.trans (hb5.mono B4.size); have H5 := H4'.out.below hb5 z4; have z5 := H5.lt; have H5' := Lib.hid H5; obtain ⟨c0, c1, c2, c3, c4, c5, c6, c7, c8, c9, c10⟩ := msn_cells (m := m) (vw := .slice (some ⟨b1, o, none⟩) m.ways.length (m.ways.length + cap1)) (vh := vh) (vr := vr) H5; clear hb5 H5
    go_wp2_with fail; refine (HL.out.2.2.1 _ ((HM.out.below B5).mono B5.size)).mono ?_; rintro e w6 ⟨rfl, hb6⟩; have B6 := B5.trans (hb6.mono B5.size); have H6 := H5'.out.below hb6 z5; have z6 := H6.lt; have H6' := Lib.hid H6; obtain ⟨c0, c1, c2, c3, c4, c5, c6, c7, c8, c9, c10⟩ := msn_cells (m := m) (vw := .slice (some ⟨b1, o, none⟩) m.ways.length (m.ways.length + cap1)) (vh := vh) (vr := vr) H6; clear hb6 H6
    go_wp2_with fail; refine (HL.out.2.2.2 _ ((HM.out.below B6).mono B6.size)).mono ?_; rintro e w7 ⟨rfl, hb7⟩; have B7 := B6.trans (hb7.mono B6.size); have H7 := H6'.out.below hb7 z6; have z7 := H7.lt; have H7' := Lib.hid H7; obtain ⟨c0, c1, c2, c3, c4, c5, c6, c7, c8, c9, c10⟩ := msn_cells (m := m) (vw := .slice (some ⟨b1, o, none⟩) m.ways.length (m.ways.length + cap1)) (vh := vh) (vr := vr) H7; clear hb7 H7
    clear c0 c1 c2 c3 c4 c5 c6 c7 c8 c9 c10
    obtain ⟨c0, c1, c2, c3, c4, c5, c6, c7, c8, c9, c10⟩ := msn_low (m := m) (vw := .slice (some ⟨b1, o, none⟩) m.ways.length (m.ways.length + cap1)) (vh := vh) (vr := vr) H7'.out
    obtain ⟨⟨u0, u1, _, _, _⟩, ⟨v0, v1, _, _, _⟩⟩ := HC.out
    have lu0 := Low.fact ((B7.cell (p := ⟨b1, o + a * 5, none⟩) hbb).trans u0)
    have lu1 := Low.fact ((B7.cell (p := ⟨b1, o + a * 5 + 1, none⟩) hbb).trans u1)
    have lv0 := Low.fact ((B7.cell (p := ⟨b1, o + b * 5, none⟩) hbb).trans v0)
    have lv1 := Low.fact ((B7.cell (p := ⟨b1, o + b * 5 + 1, none⟩) hbb).trans v1)
    obtain ⟨hzz, hzs⟩ := HZ.out
    clear u0 u1 v0 v1 HC HZ
    generalize (wy m.ways a).x = px at *
    generalize (wy m.ways a).y = py at *
    generalize (wy m.ways b).x = qx at *
    generalize (wy m.ways b).y = qy at *
    have hai : (a : Int) < m.ways.length := by omega
    have hbi : (b : Int) < m.ways.length := by omega
    have a0 : (0 : Int) ≤ a := by omega
    have b0 : (0 : Int) ≤ b := by omega
    have w1 : IntKind.i64.wrap (z + u) = z + u := IntWalk.i64_in _ (by omega)
    have dl : decide (x ≤ z + u) = true := by simpa using htri
    clear htri bd1 bd2
    by_cases hx : px = qx
    · by_cases hy : py = qy
      · have hx0 := hzs hx hy
        subst hx
        subst hy
        subst hx0
        clear hzz hzs
        go_wp2
        (refine wp_region_low (by kernel_rfl) (by kernel_rfl) ?_; (iterate 32 (apply quiet_want; (case hw => rfl); (case hval => (intro w1 hw1; have hcx := Low.cells hw1; simp only [Oper.quietAt]; go_simp; first | done | (first | fail) | rfl | exact ⟨rfl, rfl⟩)); simp only [Act.put, List.setIfInBounds_toArray, List.set_cons_zero, List.set_cons_succ])); refine wpQuiet_nil ?_; intro w2 hw2)
        go_wp2
        go_ret
        exact ⟨rfl, B7.trans (hw2.out.mono B7.size)⟩
      · have dx : (x == 0) = false := by rw [beq_eq_false_iff_ne]; intro h; exact hy (hzz h).2
        have dy : (py == qy) = false := by simpa using hy
        subst hx
        clear hzz hzs hy
        go_wp2
        (refine wp_region_low (by kernel_rfl) (by kernel_rfl) ?_; (iterate 32 (apply quiet_want; (case hw => rfl); (case hval => (intro w1 hw1; have hcx := Low.cells hw1; simp only [Oper.quietAt]; go_simp; first | done | (first | fail) | rfl | exact ⟨rfl, rfl⟩)); simp only [Act.put, List.setIfInBounds_toArray, List.set_cons_zero, List.set_cons_succ])); refine wpQuiet_nil ?_; intro w2 hw2)
        go_wp2
        go_ret
        exact ⟨rfl, B7.trans (hw2.out.mono B7.size)⟩
    · have dx : (x == 0) = false := by rw [beq_eq_false_iff_ne]; intro h; exact hx (hzz h).1
      have dy : (px == qx) = false := by simpa using hx
      clear hzz hzs hx
      go_wp2
      (refine wp_region_low (by kernel_rfl) (by kernel_rfl) ?_; (iterate 32 (apply quiet_want; (case hw => rfl); (case hval => (intro w1 hw1; have hcx := Low.cells hw1; simp only [Oper.quietAt]; go_simp; first | done | (first | fail) | rfl | exact ⟨rfl, rfl⟩)); simp only [Act.put, List.setIfInBounds_toArray, List.set_cons_zero, List.set_cons_succ])); refine wpQuiet_nil ?_; intro w2 hw2)
      go_wp2
      go_ret
      exact ⟨rfl, B7.trans (hw2.out.mono B7.size)⟩

set_option maxRecDepth 100000 in
theorem lifted (os : Os) (started : os.Started) (H : Type) (enc : TypeId × Value → H) :
    ReturnsInHanded {} Try.checked os 4 .any (Rows.missionLengthsSpec.pre6 enc Try.prog Try.f4 Rows.missionLengthsRow.domain false) (Rows.missionLengthsSpec.post enc Try.prog Try.f4 false true false false) := by
  refine returnsInHanded_of_change_sized (C := Try.checked) own started (by kernel_rfl) Try.func4
    (ChangeSpec.witness6 (enc := enc) (C := Try.checked) false ⟨#[], #[.agg #[.slice none 0 0, .slice none 0 0, .int .i64 0, .slice none 0 0, .int .i64 0, .int .i64 0, .int .i64 0, .int .i64 0, .int .i64 0, .int .i64 0, .int .i64 0], .int .u8 0, .int .u8 0, .int .u8 0], []⟩ 8 (by kernel_rfl) (by kernel_rfl) (by kernel_rfl) (by kernel_rfl)) ?_
  intro W base args ds gs before hval0 hW hcnd hsz0 _
  have hval : ∀ (j : Nat) t v, Try.f4.params[j]? = some t → args[j]? = some v → Value.okWide Try.prog W .any base t v := hval0
  have hW' := hW
  obtain ⟨p, q, hA0, hV, rfl, hfz, hnd⟩ := hW
  have hA : DataW.TrodAll enc Try.prog W 0 (fun _ => true) true Try.f4.params.toList args.toList ds p := hA0
  have hsz : (DataW.weightsEach Try.prog (Try.f4.params.toList ++ Rows.missionLengthsSpec.plain.varTypes Try.prog) (ds ++ gs)).all (· ≤ reachBytes) = true := hsz0
  rw [Try.params4] at hA hval hsz
  obtain ⟨v0, vs0, d0, ds0, p0, q0, hargs, rfl, rfl, h0, r0⟩ := trodAll_cons hA
  obtain ⟨v1, vs1, d1, ds1, p1, q1, rfl, rfl, rfl, h1, r1⟩ := trodAll_cons r0
  obtain ⟨v2, vs2, d2, ds2, p2, q2, rfl, rfl, rfl, h2, r2⟩ := trodAll_cons r1
  obtain ⟨v3, vs3, d3, ds3, p3, q3, rfl, rfl, rfl, h3, r3⟩ := trodAll_cons r2
  obtain ⟨rfl, rfl, rfl⟩ := trodAll_nil r3
  obtain rfl : args = #[v0, v1, v2, v3] := by cases args; simp_all
  obtain ⟨rfl, rfl⟩ := trodVars_none hV
  have k0 := h0
  have lt0 : ∀ x ∈ p0, x.block < W.heap.size := by obtain ⟨m, hm⟩ := k0; exact DataW.trod_lt m _ _ _ hm
  have z0 : ∀ n ∈ d0.weights Try.prog 26, n ≤ reachBytes := fun n hn => by have := List.all_eq_true.1 hsz n (DataW.weights_mem_each (j := 0) (t := 26) (d := d0) rfl rfl n hn); simpa using this
  obtain ⟨a0, vw0, vh0, vr0, rfl, w0⟩ := open_msn (hval 0 26 v0 rfl rfl) h0 z0
  obtain ⟨a1, rfl, rfl, rfl, w1⟩ := open_int Try.underlying5 (hval 1 5 v1 rfl rfl) h1
  obtain ⟨a2, rfl, rfl, rfl, w2⟩ := open_int Try.underlying5 (hval 2 5 v2 rfl rfl) h2
  obtain ⟨a3, rfl, rfl, rfl, w3⟩ := open_int Try.underlying5 (hval 3 5 v3 rfl rfl) h3
  clear hA0 hval0
  refine (walk W a0 vw0 vh0 vr0 a1 a2 a3 w0 w1 w2 w3).mono fun e W' ⟨he, bel⟩ => ?_
  subst he
  exact ⟨_, rfl, _, _, _, [], _, [], hW', trodAll_mk1 (shut_bool Try.underlying4 _), (trodAll_cons_mk (Below.trod laidOut (by kernel_rfl) (of_decide_eq_true (by kernel_rfl)) k0 bel lt0) (trodAll_cons_mk (shut_int Try.underlying5 w1) (trodAll_cons_mk (shut_int Try.underlying5 w2) (trodAll_cons_mk (shut_int Try.underlying5 w3) trodAll_mk0)))), rfl, bel.frame _, fun h => by cases h⟩

theorem over : Rows.missionLengthsRow.holds Try.pinned (OpenSpec.ofChange Rows.missionLengthsSpec) :=
  OpenClaim.holds_of_wide 4 Try.f4 rfl rfl rfl rfl rfl rfl rfl ⟨rfl, rfl, rfl, rfl, rfl⟩ rfl rfl rfl rfl rfl (by kernel_rfl) Try.func4 (by kernel_rfl)
    (of_decide_eq_true (by kernel_rfl)) (by unfold Func.isWrapper; first | (rw [if_pos (by decide +kernel)]; kernel_rfl) | (rw [if_neg (by decide +kernel)]; exact ⟨rfl, rfl⟩))
    (fun os started H enc _ => lifted os started H enc)

/-- the statement -/
theorem proved : Rows.MissionLengthsSaid := over
#print axioms proved
end Go.Proofs.Ytjnjmpakmgmdbaa.missionLengths
