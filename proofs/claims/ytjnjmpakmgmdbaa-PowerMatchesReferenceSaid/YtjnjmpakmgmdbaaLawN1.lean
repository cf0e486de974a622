/- For all missions, stops and ways, valid or not, all functions of layer 34 return what the reference implementation returns. No condition. -/
import Derived.Test.YtjnjmpakmgmdbaaHead34
import Derived.Test.YtjnjmpakmgmdbaaOpen
namespace Go.Proofs.Ytjnjmpakmgmdbaa.powerMatchesReference
open Go.ChangeShapes Go.WideShapes Go.ChangeAt Go.RowKit
set_option linter.unusedVariables false
theorem own : ownKnob Try.prog.godebug = none := by kernel_rfl
theorem laidOut : laidOutB Try.prog = true := by kernel_rfl
attribute [local irreducible] wpQuiet

set_option maxRecDepth 8000 in
set_option maxHeartbeats 2000000 in
theorem walk (w : World) (m : Msn) (vw vh vr vl : Value) (l : List Int) (i j : Int) (hm : MsnAt w.heap.size w m vw vh vr) (hl : IntsAt w.heap.size w vl l) (_ : (Lit.int .i64 i).wf = true) (_ : (Lit.int .i64 j).wf = true) :
    Calls Try.prog 9 #[.agg (msnCells m vw vh vr), vl, .int .i64 i, .int .i64 j] w fun e w' => e = .returned (.bool true) ∧ Below w.heap.size w w' := by
  have hc1 := fun w1 h => pcost_all m vw vh vr i j w1 h
  have hc2 := fun w1 h => rcost_all m vw vh vr i j w1 h
  have hu1 := fun w1 h h2 => used_all m vw vh vr vl l w1 h h2
  have hu2 := fun w1 h h2 => rused_all m vw vh vr vl l w1 h h2
  have hh1 := fun w1 h => phome_all m vw vh vr i w1 h
  have hh2 := fun w1 h => rhome34_all m vw vh vr i w1 h
  have hf := fun w1 h => few_any m vw vh vr w1 h
  have H0 := Has.new w (msnCells m vw vh vr) 26
  have HL0 := Lib.hid hl
  obtain ⟨_, al, capl, rfl, _⟩ := hl
  generalize pT m i j = a at *
  generalize pE m i j = b at *
  generalize legE m i j = c at *
  generalize hT m i = a' at *
  generalize hE m i = b' at *
  generalize routeE m i = c' at *
  generalize usedTR m l = lt at *
  generalize usedER m l = le at *
  generalize usedC m l = lc at *
  have HL := Lib.hid (And.intro hc1 (And.intro hc2 (And.intro hu1 (And.intro hu2 (And.intro hh1 (And.intro hh2 hf))))))
  have HM := Lib.hid hm
  have H0' := Lib.hid H0
  clear hc1 hc2 hu1 hu2 hh1 hh2 hf hm H0
  unfold msnCells at *
  go_enter Try.func9, Try.ntmps9
  go_wp2_with fail; refine (head34_any _).mono ?_; rintro e w1 ⟨rfl, hb1⟩; have B1 : Below w.heap.size w w1 := ((Below.refl _ w).alloc (Nat.le_refl _) _).trans (hb1.mono (by simp)); have H1 := H0'.out.below (hb1.mono (by simp) : Below (w.heap.size + 1) _ w1) (by omega); have z1 := H1.lt; have H1' := Lib.hid H1; obtain ⟨c0, c1, c2, c3, c4, c5, c6, c7, c8, c9, c10⟩ := msn_cells (m := m) (vw := vw) (vh := vh) (vr := vr) H1; clear hb1 H1
  go_wp2_with fail; refine (HL.out.2.2.2.2.2.2 _ ((HM.out.below B1).mono B1.size)).mono ?_; rintro e w2 ⟨rfl, hb2⟩; have B2 := B1.trans (hb2.mono B1.size); have H2 := H1'.out.below hb2 z1; have z2 := H2.lt; have H2' := Lib.hid H2; obtain ⟨c0, c1, c2, c3, c4, c5, c6, c7, c8, c9, c10⟩ := msn_cells (m := m) (vw := vw) (vh := vh) (vr := vr) H2; clear hb2 H2
  cases hfew : fewB m
  · go_wp2
    go_ret
    exact ⟨rfl, B2⟩
  have hfw := Lib.hid hfew
  clear hfew
  by_cases hln : (20 : Int) < l.length
  · have dl : decide ((l.length : Int) > 20) = true := by rw [decide_eq_true_eq]; omega
    go_wp2
    go_ret
    exact ⟨rfl, B2⟩
  have dl : decide ((l.length : Int) > 20) = false := by rw [decide_eq_false_iff_not]; omega
  go_wp2_with fail; refine (HL.out.1 _ ((HM.out.below B2).mono B2.size)).mono ?_; rintro e w3 ⟨rfl, hb3⟩; have B3 := B2.trans (hb3.mono B2.size); have H3 := H2'.out.below hb3 z2; have z3 := H3.lt; have H3' := Lib.hid H3; obtain ⟨c0, c1, c2, c3, c4, c5, c6, c7, c8, c9, c10⟩ := msn_cells (m := m) (vw := vw) (vh := vh) (vr := vr) H3; clear hb3 H3
  go_wp2_with fail; refine (HL.out.2.1 _ ((HM.out.below B3).mono B3.size)).mono ?_; rintro e w4 ⟨rfl, hb4⟩; have B4 := B3.trans (hb4.mono B3.size); have H4 := H3'.out.below hb4 z3; have z4 := H4.lt; have H4' := Lib.hid H4; obtain ⟨c0, c1, c2, c3, c4, c5, c6, c7, c8, c9, c10⟩ := msn_cells (m := m) (vw := vw) (vh := vh) (vr := vr) H4; clear hb4 H4
  go_wp2_with fail; refine (HL.out.2.2.1 _ ((HM.out.below B4).mono B4.size) ((HL0.out.below B4).mono B4.size)).mono ?_; rintro e w5 ⟨va, vb, rfl, Ia, Ib, hb5⟩; have B5 := B4.trans (hb5.mono B4.size); have H5 := H4'.out.below hb5 z4; have z5 := H5.lt; have H5' := Lib.hid H5; obtain ⟨c0, c1, c2, c3, c4, c5, c6, c7, c8, c9, c10⟩ := msn_cells (m := m) (vw := vw) (vh := vh) (vr := vr) H5; have Ja := Lib.hid Ia; have Jb := Lib.hid Ib; clear Ia Ib; clear hb5 H5
  go_wp2_with fail; refine (HL.out.2.2.2.1 _ ((HM.out.below B5).mono B5.size) ((HL0.out.below B5).mono B5.size)).mono ?_; rintro e w6 ⟨vc, vd, rfl, Ic, Id, hb6⟩; have B6 := B5.trans (hb6.mono B5.size); have H6 := H5'.out.below hb6 z5; have z6 := H6.lt; have H6' := Lib.hid H6; obtain ⟨c0, c1, c2, c3, c4, c5, c6, c7, c8, c9, c10⟩ := msn_cells (m := m) (vw := vw) (vh := vh) (vr := vr) H6; have Ka := Lib.hid ((Ja.out.below hb6).mono hb6.size); have Kb := Lib.hid ((Jb.out.below hb6).mono hb6.size); have Kc := Lib.hid Ic; have Kd := Lib.hid Id; clear Ic Id Ja Jb; clear hb6 H6
  go_wp2_with fail; refine (same_any _ _ lt lt _ Ka.out Kc.out).mono ?_; rintro e w7 ⟨rfl, hb7⟩; have B7 := B6.trans (hb7.mono B6.size); have H7 := H6'.out.below hb7 z6; have z7 := H7.lt; have H7' := Lib.hid H7; obtain ⟨c0, c1, c2, c3, c4, c5, c6, c7, c8, c9, c10⟩ := msn_cells (m := m) (vw := vw) (vh := vh) (vr := vr) H7; have Lb := Lib.hid ((Kb.out.below hb7).mono hb7.size); have Ld := Lib.hid ((Kd.out.below hb7).mono hb7.size); clear Ka Kb Kc Kd; clear hb7 H7
  have d7 : decide (lt = lt) = true := by simp
  go_wp2_with fail; refine (same_any _ _ le le _ Lb.out Ld.out).mono ?_; rintro e w8 ⟨rfl, hb8⟩; have B8 := B7.trans (hb8.mono B7.size); have H8 := H7'.out.below hb8 z7; have z8 := H8.lt; have H8' := Lib.hid H8; obtain ⟨c0, c1, c2, c3, c4, c5, c6, c7, c8, c9, c10⟩ := msn_cells (m := m) (vw := vw) (vh := vh) (vr := vr) H8; clear hb8 H8
  have d8 : decide (le = le) = true := by simp
  clear Lb Ld
  go_wp2_with fail; refine (HL.out.2.2.2.2.1 _ ((HM.out.below B8).mono B8.size)).mono ?_; rintro e w9 ⟨rfl, hb9⟩; have B9 := B8.trans (hb9.mono B8.size); have H9 := H8'.out.below hb9 z8; have z9 := H9.lt; have H9' := Lib.hid H9; obtain ⟨c0, c1, c2, c3, c4, c5, c6, c7, c8, c9, c10⟩ := msn_cells (m := m) (vw := vw) (vh := vh) (vr := vr) H9; clear hb9 H9
  go_wp2_with fail; refine (HL.out.2.2.2.2.2.1 _ ((HM.out.below B9).mono B9.size)).mono ?_; rintro e w10 ⟨rfl, hb10⟩; have B10 := B9.trans (hb10.mono B9.size); have H10 := H9'.out.below hb10 z9; have z10 := H10.lt; have H10' := Lib.hid H10; obtain ⟨c0, c1, c2, c3, c4, c5, c6, c7, c8, c9, c10⟩ := msn_cells (m := m) (vw := vw) (vh := vh) (vr := vr) H10; clear hb10 H10
  go_wp2
  go_ret
  exact ⟨rfl, B10⟩

set_option maxRecDepth 100000 in
theorem lifted (os : Os) (started : os.Started) (H : Type) (enc : TypeId × Value → H) :
    ReturnsInHanded {} Try.checked os 9 .any (Rows.powerMatchesReferenceSpec.pre6 enc Try.prog Try.f9 Rows.powerMatchesReferenceRow.domain false) (Rows.powerMatchesReferenceSpec.post enc Try.prog Try.f9 false true false false) := by
  refine returnsInHanded_of_change_sized (C := Try.checked) own started (by kernel_rfl) Try.func9
    (ChangeSpec.witness6 (enc := enc) (C := Try.checked) false ⟨#[], #[.agg #[.slice none 0 0, .slice none 0 0, .int .i64 0, .slice none 0 0, .int .i64 0, .int .i64 0, .int .i64 0, .int .i64 0, .int .i64 0, .int .i64 0, .int .i64 0], .slice none 0 0, .int .i64 0, .int .i64 0], []⟩ 8 (by kernel_rfl) (by kernel_rfl) (by kernel_rfl) (by kernel_rfl)) ?_
  intro W base args ds gs before hval0 hW hcnd hsz0 _
  have hval : ∀ (j : Nat) t v, Try.f9.params[j]? = some t → args[j]? = some v → Value.okWide Try.prog W .any base t v := hval0
  have hW' := hW
  obtain ⟨p, q, hA0, hV, rfl, hfz, hnd⟩ := hW
  have hA : DataW.TrodAll enc Try.prog W 0 (fun _ => true) true Try.f9.params.toList args.toList ds p := hA0
  have hsz : (DataW.weightsEach Try.prog (Try.f9.params.toList ++ Rows.powerMatchesReferenceSpec.plain.varTypes Try.prog) (ds ++ gs)).all (· ≤ reachBytes) = true := hsz0
  rw [Try.params9] at hA hval hsz
  obtain ⟨v0, vs0, d0, ds0, p0, q0, hargs, rfl, rfl, h0, r0⟩ := trodAll_cons hA
  obtain ⟨v1, vs1, d1, ds1, p1, q1, rfl, rfl, rfl, h1, r1⟩ := trodAll_cons r0
  obtain ⟨v2, vs2, d2, ds2, p2, q2, rfl, rfl, rfl, h2, r2⟩ := trodAll_cons r1
  obtain ⟨v3, vs3, d3, ds3, p3, q3, rfl, rfl, rfl, h3, r3⟩ := trodAll_cons r2
  obtain ⟨rfl, rfl, rfl⟩ := trodAll_nil r3
  obtain rfl : args = #[v0, v1, v2, v3] := by cases args; simp_all
  obtain ⟨rfl, rfl⟩ := trodVars_none hV
  have k0 := h0
  have lt0 : ∀ x ∈ p0, x.block < W.heap.size := by obtain ⟨m, hm⟩ := k0; exact DataW.trod_lt m _ _ _ hm
  have z0 : ∀ n ∈ d0.weights Try.prog 26, n ≤ reachBytes := fun n hn => by have := List.all_eq_true.1 hsz n (DataW.weights_mem_each (j := 0) (t := 26) (d := d0) rfl rfl n hn); simpa using this
  obtain ⟨a0, vw0, vh0, vr0, rfl, w0⟩ := open_msn (hval 0 26 v0 rfl rfl) h0 z0
  have k1 := h1
  have lt1 : ∀ x ∈ p1, x.block < W.heap.size := by obtain ⟨m, hm⟩ := k1; exact DataW.trod_lt m _ _ _ hm
  have z1 : ∀ n ∈ d1.weights Try.prog 32, n ≤ reachBytes := fun n hn => by have := List.all_eq_true.1 hsz n (DataW.weights_mem_each (j := 1) (t := 32) (d := d1) rfl rfl n hn); simpa using this
  obtain ⟨a1, w1⟩ := open_ints_arg (hval 1 32 v1 rfl rfl) h1 z1
  obtain ⟨a2, rfl, rfl, rfl, w2⟩ := open_int Try.underlying3 (hval 2 3 v2 rfl rfl) h2
  obtain ⟨a3, rfl, rfl, rfl, w3⟩ := open_int Try.underlying3 (hval 3 3 v3 rfl rfl) h3
  clear hA0 hval0
  refine (walk W a0 vw0 vh0 vr0 v1 a1 a2 a3 w0 w1 w2 w3).mono fun e W' ⟨he, bel⟩ => ?_
  subst he
  exact ⟨_, rfl, _, _, _, [], _, [], hW', trodAll_mk1 (shut_bool Try.underlying4 _), (trodAll_cons_mk (Below.trod laidOut (by kernel_rfl) (of_decide_eq_true (by kernel_rfl)) k0 bel lt0) (trodAll_cons_mk (Below.trod laidOut (by kernel_rfl) (of_decide_eq_true (by kernel_rfl)) k1 bel lt1) (trodAll_cons_mk (shut_int Try.underlying3 w2) (trodAll_cons_mk (shut_int Try.underlying3 w3) trodAll_mk0)))), rfl, bel.frame _, fun h => by cases h⟩

theorem over : Rows.powerMatchesReferenceRow.holds Try.pinned (OpenSpec.ofChange Rows.powerMatchesReferenceSpec) :=
  OpenClaim.holds_of_wide 9 Try.f9 rfl rfl rfl rfl rfl rfl rfl ⟨rfl, rfl, rfl, rfl, rfl⟩ rfl rfl rfl rfl rfl (by kernel_rfl) Try.func9 (by kernel_rfl)
    (of_decide_eq_true (by kernel_rfl)) (by unfold Func.isWrapper; first | (rw [if_pos (by decide +kernel)]; kernel_rfl) | (rw [if_neg (by decide +kernel)]; exact ⟨rfl, rfl⟩))
    (fun os started H enc _ => lifted os started H enc)

/-- the statement -/
theorem proved : Rows.PowerMatchesReferenceSaid := over
#print axioms proved
end Go.Proofs.Ytjnjmpakmgmdbaa.powerMatchesReference
