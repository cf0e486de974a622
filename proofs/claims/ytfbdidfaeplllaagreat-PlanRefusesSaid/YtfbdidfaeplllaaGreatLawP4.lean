/- A mission is refused exactly if it has no best stops; then no stops lead further than the leg that is named, those that are named lead there, and no better ones do. No condition. -/
import Derived.Test.YtfbdidfaeplllaaGreatBin32
import Derived.Test.YtfbdidfaeplllaaGreatBin33
namespace Go.Proofs.YtfbdidfaeplllaaGreat.planRefuses
open Go.ChangeShapes Go.WideShapes Go.ChangeAt Go.RowKit
set_option linter.unusedVariables false
theorem own : ownKnob Tryz.prog.godebug = none := by kernel_rfl
theorem laidOut : laidOutB Tryz.prog = true := by kernel_rfl
attribute [local irreducible] wpQuiet


set_option linter.unusedSimpArgs false in
set_option linter.unusedVariables false in
set_option maxRecDepth 8000 in
set_option maxHeartbeats 6400000 in
theorem walk (w : World) (m : Msn) (vw vh vr : Value) (u : Int) (hm : MsnAt w.heap.size w m vw vh vr) (hu0 : (Lit.int .u8 u).wf = true) :
    Calls Tryz.prog 8 #[.agg (msnCells m vw vh vr), .int .u8 u] w fun e w' => e = .returned (.bool true) ∧ Below w.heap.size w w' := by
  obtain ⟨u, rfl, hu⟩ := u8_bd hu0
  have hd := Lib.hid (fun w1 => head35_any w1)
  have ff := fun w1 (B : Below w.heap.size w w1) => few35_any m vw vh vr w1 ((hm.below B).mono B.size)
  have fv := fun w1 (B : Below w.heap.size w w1) => rValid31_any m vw vh vr w1 ((hm.below B).mono B.size)
  have fb := fun w1 (B : Below w.heap.size w w1) h => tbest_any m vw vh vr w1 ((hm.below B).mono B.size) h
  have fr := fun w1 (B : Below w.heap.size w w1) h => trefused_any m vw vh vr w1 ((hm.below B).mono B.size) h
  have fx := fun w1 (B : Below w.heap.size w w1) h => rfixes_any m vw vh vr w1 ((hm.below B).mono B.size) h
  have fk := fun vl l w1 (B : Below w.heap.size w w1) hl => tkeeps_any m vw vh vr vl l w1 ((hm.below B).mono B.size) hl
  obtain ⟨⟨-, a1, c1, rfl, -⟩, ⟨-, a2, c2, rfl, -⟩, ⟨-, a3, c3, rfl, -⟩⟩ := hm
  unfold msnCells at *
  replace ff := Lib.hid ff
  replace fv := Lib.hid fv
  replace fb := Lib.hid fb
  replace fr := Lib.hid fr
  replace fx := Lib.hid fx
  replace fk := Lib.hid fk
  have BW := Lib.hid (Below.refl w.heap.size w)
  clear hu0
  go_enter Tryz.func8, Tryz.ntmps8
  go_wp2_with fail
  generalize hXX0 : World.alloc w _ = X0
  obtain ⟨q0, hA, hzX0⟩ := box1 hXX0
  clear hXX0
  have BW := Lib.hid hA
  clear hA
  have MB := Lib.hid q0
  clear q0
  clear hzX0
  obtain ⟨c0, c1, c2, c3, c4, c5, c6, c7, c8, c9, c10⟩ := msn_cells (m := m) MB.out
  have ltMB := MB.out.lt
  refine (hd.out X0).mono ?_
  rintro e w1 ⟨rfl, b1⟩
  replace BW := Lib.hid (BW.out.trans (b1.mono BW.out.size))
  have B_X0 := Lib.hid b1
  clear b1
  clear c0 c1 c2 c3 c4 c5 c6 c7 c8 c9 c10 ltMB
  obtain ⟨c0, c1, c2, c3, c4, c5, c6, c7, c8, c9, c10⟩ := msn_cells (m := m) (MB.out.below B_X0.out MB.out.lt)
  have ltMB := (MB.out.below B_X0.out MB.out.lt).lt
  go_wp2_with fail
  refine (ff.out _ BW.out).mono ?_
  rintro e w2 ⟨rfl, b2⟩
  replace BW := Lib.hid (BW.out.trans (b2.mono BW.out.size))
  replace B_X0 := Lib.hid (B_X0.out.trans (b2.mono B_X0.out.size))
  clear b2
  clear c0 c1 c2 c3 c4 c5 c6 c7 c8 c9 c10 ltMB
  obtain ⟨c0, c1, c2, c3, c4, c5, c6, c7, c8, c9, c10⟩ := msn_cells (m := m) (MB.out.below B_X0.out MB.out.lt)
  have ltMB := (MB.out.below B_X0.out MB.out.lt).lt
  cases hfew : fewB m
  · skip
    go_wp2
    go_ret
    exact ⟨rfl, BW.out⟩
  have h8 := few_ways hfew
  clear hfew
  go_wp2_with fail
  refine (fv.out _ BW.out).mono ?_
  rintro e w3 ⟨rfl, b3⟩
  replace BW := Lib.hid (BW.out.trans (b3.mono BW.out.size))
  replace B_X0 := Lib.hid (B_X0.out.trans (b3.mono B_X0.out.size))
  clear b3
  clear c0 c1 c2 c3 c4 c5 c6 c7 c8 c9 c10 ltMB
  obtain ⟨c0, c1, c2, c3, c4, c5, c6, c7, c8, c9, c10⟩ := msn_cells (m := m) (MB.out.below B_X0.out MB.out.lt)
  have ltMB := (MB.out.below B_X0.out MB.out.lt).lt
  cases hV : validB m
  · skip
    go_wp2
    go_ret
    exact ⟨rfl, BW.out⟩
  have V := (validB_iff m).1 hV
  have n2 := V.n2
  have hfl : (fixL m).length ≤ 20 := by have : (fixL m).length ≤ m.ways.length - 1 := fixTo_len m m.ways.length; omega
  have hsub := chosen_sub (fixL m) u
  have ok1 := sub_ok hV hsub
  have ok2 := sub_ok hV (best_sub m)
  have k1 := (kp_of ok1).2.2
  have k2 := (kp_of ok2).2.2
  have hbn := Lib.hid (fun h => best_not hsub h)
  have hlt := Lib.hid (best_le hsub)
  have hld := Lib.hid (best_lead m)
  have hkp0 := Lib.hid (fun h => lead_kind_pos ok2 h)
  have gb := fun w1 B => fb.out w1 B (by omega)
  have gr := fun w1 B => fr.out w1 B (by omega)
  have hpl : plE m = 0 := by simp [plE, hV]
  rw [hpl] at gb gr
  have hbs : Hid (rfB m = !decide ((bestP m).1 = ((m.ways.length - 1 : Nat) : Int))) := by show _ = _; simp [rfB, hV]
  have hbq : Hid (bsB m = !rfB m) := by show _ = _; simp [bsB, rfB, hV]
  have hbl : Hid (rfL m = if rfB m = true then (bestP m).2 else []) := rfl
  have hbg : Hid (rfG m = if rfB m = true then (bestP m).1 else 0) := rfl
  clear V hpl hsub ok1 ok2 hV
  cases hb : rfB m
  · skip
    rw [hb] at hbs hbl hbg hbq
    simp only [hb] at gr
    rw [show bsB m = true from hbq.out] at gb
    rw [show rfL m = [] from hbl.out, show rfG m = 0 from hbg.out] at gr
    replace gb := Lib.hid gb
    replace gr := Lib.hid gr
    clear hb hbl hbs hbg hbq
    go_wp2_with fail
    refine (gb.out _ BW.out).mono ?_
    rintro e w4 ⟨v1, rfl, p1, b4, -⟩
    replace BW := Lib.hid (BW.out.trans (b4.mono BW.out.size))
    replace B_X0 := Lib.hid (B_X0.out.trans (b4.mono B_X0.out.size))
    clear b4
    obtain ⟨-, g1, l1, hv1, -⟩ := p1
    subst hv1
    clear c0 c1 c2 c3 c4 c5 c6 c7 c8 c9 c10 ltMB
    obtain ⟨c0, c1, c2, c3, c4, c5, c6, c7, c8, c9, c10⟩ := msn_cells (m := m) (MB.out.below B_X0.out MB.out.lt)
    have ltMB := (MB.out.below B_X0.out MB.out.lt).lt
    go_wp2_with fail
    refine (gr.out _ BW.out).mono ?_
    rintro e w5 ⟨v4, rfl, p4, b5, -⟩
    replace BW := Lib.hid (BW.out.trans (b5.mono BW.out.size))
    replace B_X0 := Lib.hid (B_X0.out.trans (b5.mono B_X0.out.size))
    clear b5
    have P1 := Lib.hid p4
    clear p4
    obtain ⟨-, g4, l4, hv4, -⟩ := P1.out
    subst hv4
    clear c0 c1 c2 c3 c4 c5 c6 c7 c8 c9 c10 ltMB
    obtain ⟨c0, c1, c2, c3, c4, c5, c6, c7, c8, c9, c10⟩ := msn_cells (m := m) (MB.out.below B_X0.out MB.out.lt)
    have ltMB := (MB.out.below B_X0.out MB.out.lt).lt
    go_wp2
    go_ret
    exact ⟨rfl, BW.out⟩
  rw [hb] at hbs hbl hbg hbq
  simp only [hb] at gr
  rw [show bsB m = false from hbq.out] at gb
  rw [show rfL m = (bestP m).2 from hbl.out, show rfG m = (bestP m).1 from hbg.out] at gr
  replace gb := Lib.hid gb
  replace gr := Lib.hid gr
  have heq : (bestP m).1 ≠ ((m.ways.length - 1 : Nat) : Int) := by simpa using hbs.out.symm
  obtain ⟨b1, hb1⟩ : ∃ x, (bestP m).1 = x := ⟨_, rfl⟩
  rw [hb1] at heq
  replace gr := gr.out
  simp only [hb1] at gr
  replace gr := Lib.hid gr
  have HB1 := Lib.hid hb1
  clear hb1
  clear hb hbl hbs hbg hbq
  go_wp2_with fail
  refine (gb.out _ BW.out).mono ?_
  rintro e w6 ⟨v1, rfl, p1, b6, -⟩
  replace BW := Lib.hid (BW.out.trans (b6.mono BW.out.size))
  replace B_X0 := Lib.hid (B_X0.out.trans (b6.mono B_X0.out.size))
  clear b6
  obtain ⟨-, g1, l1, hv1, -⟩ := p1
  subst hv1
  clear c0 c1 c2 c3 c4 c5 c6 c7 c8 c9 c10 ltMB
  obtain ⟨c0, c1, c2, c3, c4, c5, c6, c7, c8, c9, c10⟩ := msn_cells (m := m) (MB.out.below B_X0.out MB.out.lt)
  have ltMB := (MB.out.below B_X0.out MB.out.lt).lt
  go_wp2_with fail
  refine (gr.out _ BW.out).mono ?_
  rintro e w7 ⟨v4, rfl, p4, b7, -⟩
  replace BW := Lib.hid (BW.out.trans (b7.mono BW.out.size))
  replace B_X0 := Lib.hid (B_X0.out.trans (b7.mono B_X0.out.size))
  clear b7
  have P1 := Lib.hid p4
  clear p4
  obtain ⟨-, g4, l4, hv4, -⟩ := P1.out
  subst hv4
  clear c0 c1 c2 c3 c4 c5 c6 c7 c8 c9 c10 ltMB
  obtain ⟨c0, c1, c2, c3, c4, c5, c6, c7, c8, c9, c10⟩ := msn_cells (m := m) (MB.out.below B_X0.out MB.out.lt)
  have ltMB := (MB.out.below B_X0.out MB.out.lt).lt
  go_wp2_with fail
  refine (fx.out _ BW.out (by omega)).mono ?_
  rintro e w8 ⟨v2, rfl, p2, b8⟩
  replace BW := Lib.hid (BW.out.trans (b8.mono BW.out.size))
  replace B_X0 := Lib.hid (B_X0.out.trans (b8.mono B_X0.out.size))
  have B_w7 := Lib.hid b8
  clear b8
  have P2 := Lib.hid p2
  clear p2
  obtain ⟨-, g2, l2, hv2, -⟩ := P2.out
  subst hv2
  clear c0 c1 c2 c3 c4 c5 c6 c7 c8 c9 c10 ltMB
  obtain ⟨c0, c1, c2, c3, c4, c5, c6, c7, c8, c9, c10⟩ := msn_cells (m := m) (MB.out.below B_X0.out MB.out.lt)
  have ltMB := (MB.out.below B_X0.out MB.out.lt).lt
  go_wp2_with fail
  refine (rchosen_any _ (fixL m) u (by omega) hfl w8 P2.out).mono ?_
  rintro e w9 ⟨v3, rfl, p3, b9⟩
  replace BW := Lib.hid (BW.out.trans (b9.mono BW.out.size))
  replace B_X0 := Lib.hid (B_X0.out.trans (b9.mono B_X0.out.size))
  replace B_w7 := Lib.hid (B_w7.out.trans (b9.mono B_w7.out.size))
  have B_w8 := Lib.hid b9
  clear b9
  have P3 := Lib.hid p3
  clear p3
  obtain ⟨-, g3, l3, hv3, -⟩ := P3.out
  subst hv3
  clear c0 c1 c2 c3 c4 c5 c6 c7 c8 c9 c10 ltMB
  obtain ⟨c0, c1, c2, c3, c4, c5, c6, c7, c8, c9, c10⟩ := msn_cells (m := m) (MB.out.below B_X0.out MB.out.lt)
  have ltMB := (MB.out.below B_X0.out MB.out.lt).lt
  have gk := fk.out _ (chosenL (fixL m) u) w9 BW.out P3.out
  rw [k1] at gk
  have hbb := Lib.hid (fun h => hbn.out h)
  obtain ⟨kp, hkp⟩ : ∃ x, kpL m (chosenL (fixL m) u) = x := ⟨_, rfl⟩
  rw [hkp] at gk
  have HKP := Lib.hid hkp
  clear hkp
  generalize kpK m (chosenL (fixL m) u) = kk at *
  replace gk := Lib.hid gk
  go_wp2_with fail
  refine (gk.out).mono ?_
  rintro e w10 ⟨rfl, b10⟩
  replace BW := Lib.hid (BW.out.trans (b10.mono BW.out.size))
  replace B_X0 := Lib.hid (B_X0.out.trans (b10.mono B_X0.out.size))
  replace B_w7 := Lib.hid (B_w7.out.trans (b10.mono B_w7.out.size))
  replace B_w8 := Lib.hid (B_w8.out.trans (b10.mono B_w8.out.size))
  have B_w9 := Lib.hid b10
  clear b10
  clear c0 c1 c2 c3 c4 c5 c6 c7 c8 c9 c10 ltMB
  obtain ⟨c0, c1, c2, c3, c4, c5, c6, c7, c8, c9, c10⟩ := msn_cells (m := m) (MB.out.below B_X0.out MB.out.lt)
  have ltMB := (MB.out.below B_X0.out MB.out.lt).lt
  have gl := fun w1 (B : Below w.heap.size w w1) hp => fk.out (.slice g4 (bestP m).2.length ((bestP m).2.length + l4)) (bestP m).2 w1 B hp
  have hkpos := hkp0.out (by rw [hld.out, HB1.out]; exact heq)
  rw [hld.out, HB1.out, k2] at gl
  obtain ⟨k3, hk3⟩ : ∃ x, kpK m (bestP m).2 = x := ⟨_, rfl⟩
  rw [hk3] at hkpos
  simp only [hk3] at gl
  clear hk3
  have hle : kp ≤ b1 := by
    have := HKP.out
    have := HB1.out
    rcases hlt.out with h1 | ⟨h1, -⟩ <;> omega
  have hbb2 : Hid (kp = b1 → betterB (chosenL (fixL m) u) (bestP m).2 = false) := fun h => hbb.out (by rw [HKP.out, HB1.out, h])
  clear HB1 heq hld hlt hbn hbb HKP hkp0 k1 k2
  have dk3 : decide (k3 > 0) = true := by rw [decide_eq_true_eq]; omega
  have dle : decide (kp ≤ b1) = true := by rw [decide_eq_true_eq]; omega
  have db1 : ((b1 : Int) == b1) = true := by simp
  replace gl := Lib.hid gl
  by_cases hall : kp = b1
  · skip
    have hbF := hbb2.out hall
    subst hall
    clear hbb2
    go_wp2_with fail
    refine (gl.out _ BW.out ((P1.out.below B_w7.out).mono B_w7.out.size)).mono ?_
    rintro e w11 ⟨rfl, b11⟩
    replace BW := Lib.hid (BW.out.trans (b11.mono BW.out.size))
    replace B_X0 := Lib.hid (B_X0.out.trans (b11.mono B_X0.out.size))
    replace B_w7 := Lib.hid (B_w7.out.trans (b11.mono B_w7.out.size))
    replace B_w8 := Lib.hid (B_w8.out.trans (b11.mono B_w8.out.size))
    replace B_w9 := Lib.hid (B_w9.out.trans (b11.mono B_w9.out.size))
    clear b11
    clear c0 c1 c2 c3 c4 c5 c6 c7 c8 c9 c10 ltMB
    obtain ⟨c0, c1, c2, c3, c4, c5, c6, c7, c8, c9, c10⟩ := msn_cells (m := m) (MB.out.below B_X0.out MB.out.lt)
    have ltMB := (MB.out.below B_X0.out MB.out.lt).lt
    go_wp2_with fail
    have gq := rbetter_any _ _ (chosenL (fixL m) u) (bestP m).2 w11 ((P3.out.below B_w9.out).mono B_w9.out.size) ((P1.out.below B_w7.out).mono B_w7.out.size) (by have := (chosen_sub (fixL m) u).length_le; omega)
    rw [hbF] at gq
    refine (gq).mono ?_
    rintro e w12 ⟨rfl, b12⟩
    replace BW := Lib.hid (BW.out.trans (b12.mono BW.out.size))
    replace B_X0 := Lib.hid (B_X0.out.trans (b12.mono B_X0.out.size))
    replace B_w7 := Lib.hid (B_w7.out.trans (b12.mono B_w7.out.size))
    replace B_w8 := Lib.hid (B_w8.out.trans (b12.mono B_w8.out.size))
    replace B_w9 := Lib.hid (B_w9.out.trans (b12.mono B_w9.out.size))
    clear b12
    clear c0 c1 c2 c3 c4 c5 c6 c7 c8 c9 c10 ltMB
    obtain ⟨c0, c1, c2, c3, c4, c5, c6, c7, c8, c9, c10⟩ := msn_cells (m := m) (MB.out.below B_X0.out MB.out.lt)
    have ltMB := (MB.out.below B_X0.out MB.out.lt).lt
    go_wp2
    go_ret
    exact ⟨rfl, BW.out⟩
  · skip
    have d1 : ((kp : Int) == b1) = false := by rw [beq_eq_false_iff_ne]; exact hall
    clear hall
    clear hbb2
    go_wp2_with fail
    refine (gl.out _ BW.out ((P1.out.below B_w7.out).mono B_w7.out.size)).mono ?_
    rintro e w13 ⟨rfl, b13⟩
    replace BW := Lib.hid (BW.out.trans (b13.mono BW.out.size))
    replace B_X0 := Lib.hid (B_X0.out.trans (b13.mono B_X0.out.size))
    replace B_w7 := Lib.hid (B_w7.out.trans (b13.mono B_w7.out.size))
    replace B_w8 := Lib.hid (B_w8.out.trans (b13.mono B_w8.out.size))
    replace B_w9 := Lib.hid (B_w9.out.trans (b13.mono B_w9.out.size))
    clear b13
    clear c0 c1 c2 c3 c4 c5 c6 c7 c8 c9 c10 ltMB
    obtain ⟨c0, c1, c2, c3, c4, c5, c6, c7, c8, c9, c10⟩ := msn_cells (m := m) (MB.out.below B_X0.out MB.out.lt)
    have ltMB := (MB.out.below B_X0.out MB.out.lt).lt
    go_wp2
    go_ret
    exact ⟨rfl, BW.out⟩

set_option maxRecDepth 100000 in
theorem lifted (os : Os) (started : os.Started) (H : Type) (enc : TypeId × Value → H) :
    ReturnsInHanded {} Tryz.checked os 8 .any (Rows.planRefusesSpec.pre6 enc Tryz.prog Tryz.f8 Rows.planRefusesRow.domain false) (Rows.planRefusesSpec.post enc Tryz.prog Tryz.f8 false true false false) := by
  refine returnsInHanded_of_change_sized (C := Tryz.checked) own started (by kernel_rfl) Tryz.func8
    (ChangeSpec.witness6 (enc := enc) (C := Tryz.checked) false ⟨#[], #[.agg #[.slice none 0 0, .slice none 0 0, .int .i64 0, .slice none 0 0, .int .i64 0, .int .i64 0, .int .i64 0, .int .i64 0, .int .i64 0, .int .i64 0, .int .i64 0], .int .u8 0], []⟩ 8 (by kernel_rfl) (by kernel_rfl) (by kernel_rfl) (by kernel_rfl)) ?_
  intro W base args ds gs before hval0 hW hcnd hsz0 _
  have hval : ∀ (j : Nat) t v, Tryz.f8.params[j]? = some t → args[j]? = some v → Value.okWide Tryz.prog W .any base t v := hval0
  have hW' := hW
  obtain ⟨p, q, hA0, hV, rfl, hfz, hnd⟩ := hW
  have hA : DataW.TrodAll enc Tryz.prog W 0 (fun _ => true) true Tryz.f8.params.toList args.toList ds p := hA0
  have hsz : (DataW.weightsEach Tryz.prog (Tryz.f8.params.toList ++ Rows.planRefusesSpec.plain.varTypes Tryz.prog) (ds ++ gs)).all (· ≤ reachBytes) = true := hsz0
  rw [Tryz.params8] at hA hval hsz
  obtain ⟨v0, vs0, d0, ds0, p0, q0, hargs, rfl, rfl, h0, r0⟩ := trodAll_cons hA
  obtain ⟨v1, vs1, d1, ds1, p1, q1, rfl, rfl, rfl, h1, r1⟩ := trodAll_cons r0
  obtain ⟨rfl, rfl, rfl⟩ := trodAll_nil r1
  obtain rfl : args = #[v0, v1] := by cases args; simp_all
  obtain ⟨rfl, rfl⟩ := trodVars_none hV
  have k0 := h0
  have lt0 : ∀ x ∈ p0, x.block < W.heap.size := by obtain ⟨m, hm⟩ := k0; exact DataW.trod_lt m _ _ _ hm
  have z0 : ∀ n ∈ d0.weights Tryz.prog 26, n ≤ reachBytes := fun n hn => by have := List.all_eq_true.1 hsz n (DataW.weights_mem_each (j := 0) (t := 26) (d := d0) rfl rfl n hn); simpa using this
  obtain ⟨a0, vw0, vh0, vr0, rfl, w0⟩ := open_msn (hval 0 26 v0 rfl rfl) h0 z0
  obtain ⟨a1, rfl, rfl, rfl, w1⟩ := open_int Tryz.underlying5 (hval 1 5 v1 rfl rfl) h1
  clear hA0 hval0
  refine (walk W a0 vw0 vh0 vr0 a1 w0 w1).mono fun e W' ⟨he, bel⟩ => ?_
  subst he
  exact ⟨_, rfl, _, _, _, [], _, [], hW', trodAll_mk1 (shut_bool Tryz.underlying4 _), (trodAll_cons_mk (Below.trod laidOut (by kernel_rfl) (of_decide_eq_true (by kernel_rfl)) k0 bel lt0) (trodAll_cons_mk (shut_int Tryz.underlying5 w1) trodAll_mk0)), rfl, bel.frame _, fun h => by cases h⟩

theorem over : Rows.planRefusesRow.holds Tryz.pinned (OpenSpec.ofChange Rows.planRefusesSpec) :=
  OpenClaim.holds_of_wide 8 Tryz.f8 rfl rfl rfl rfl rfl rfl rfl ⟨rfl, rfl, rfl, rfl, rfl⟩ rfl rfl rfl rfl rfl (by kernel_rfl) Tryz.func8 (by kernel_rfl)
    (of_decide_eq_true (by kernel_rfl)) (by unfold Func.isWrapper; first | (rw [if_pos (by decide +kernel)]; kernel_rfl) | (rw [if_neg (by decide +kernel)]; exact ⟨rfl, rfl⟩))
    (fun os started H enc _ => lifted os started H enc)

/-- the statement -/
theorem proved : Rows.PlanRefusesSaid := over
#print axioms proved
end Go.Proofs.YtfbdidfaeplllaaGreat.planRefuses
