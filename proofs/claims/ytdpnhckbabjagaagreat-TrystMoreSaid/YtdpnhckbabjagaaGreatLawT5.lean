/- With a greater Range and a greater Wait two vehicles still meet; so they do the other way round. No condition. -/
import Derived.Test.YtdpnhckbabjagaaGreatBin31
import Derived.Test.YtdpnhckbabjagaaGreatBin28
import Derived.Test.YtdpnhckbabjagaaGreatBin29
import Derived.Test.YtdpnhckbabjagaaGreatBin07
namespace Go.Proofs.YtdpnhckbabjagaaGreat.trystMore
open Go.ChangeShapes Go.WideShapes Go.ChangeAt Go.RowKit
set_option linter.unusedVariables false
theorem own : ownKnob Tryz.prog.godebug = none := by kernel_rfl
theorem laidOut : laidOutB Tryz.prog = true := by kernel_rfl
attribute [local irreducible] wpQuiet

theorem ask_swap (m : Msn) (l : List Int) (o : Msn) (lo : List Int) (a b R W : Int) : askB o lo m l b a R W = askB m l o lo a b R W := by
  unfold askB
  cases radOkB m l <;> cases radOkB o lo <;> cases (decide (a ≥ 0) && decide (a < (m.ways.length : Int))) <;> cases (decide (b ≥ 0) && decide (b < (o.ways.length : Int))) <;> rfl
theorem ask_more {m : Msn} {l : List Int} {o : Msn} {lo : List Int} {a b R W R' W' : Int} (h : askB m l o lo a b R W = true) (h1 : 0 ≤ R' ∧ R' ≤ 100000) (h2 : 0 ≤ W' ∧ W' ≤ 100000) : askB m l o lo a b R' W' = true := by
  simp only [askB, Bool.and_eq_true, numB, decide_eq_true_eq] at h ⊢
  exact ⟨h.1, h.2.1, h.2.2.1, h.2.2.2.1, by omega⟩
theorem ask_num {m : Msn} {l : List Int} {o : Msn} {lo : List Int} {a b R W : Int} (h : askB m l o lo a b R W = true) : (0 ≤ R ∧ R ≤ 100000) ∧ 0 ≤ W ∧ W ≤ 100000 := by
  simp only [askB, Bool.and_eq_true, numB, decide_eq_true_eq] at h
  omega

set_option linter.unusedSimpArgs false in
set_option linter.unusedVariables false in
set_option maxRecDepth 8000 in
set_option maxHeartbeats 4000000 in
theorem walk (w : World) (m : Msn) (vw vh vr : Value) (o : Msn) (vwo vho vro : Value) (vl : Value) (l : List Int) (vlo : Value) (lo : List Int) (ta tb R Wt mo lg : Int) (hm : MsnAt w.heap.size w m vw vh vr) (hmo : MsnAt w.heap.size w o vwo vho vro) (hl : IntsAt w.heap.size w vl l) (hlo : IntsAt w.heap.size w vlo lo) (hmo2 : (Lit.int .u16 mo).wf = true) (hlg : (Lit.int .u16 lg).wf = true) :
    Calls Tryz.prog 7 #[.agg (msnCells m vw vh vr), .agg (msnCells o vwo vho vro), vl, vlo, .agg #[.int .i64 ta, .int .i64 tb, .int .i64 R, .int .i64 Wt], .int .u16 mo, .int .u16 lg] w fun e w' => e = .returned (.bool true) ∧ Below w.heap.size w w' := by
  have f3 := fun w1 h1 h2 h3 h4 => tmeets_any m o vw vh vr vl vwo vho vro vlo l lo ta tb R Wt w1 h1 h2 h3 h4
  have f4 := fun w1 h1 h2 h3 h4 => tmeets_any o m vwo vho vro vlo vw vh vr vl lo l tb ta R Wt w1 h1 h2 h3 h4
  rw [ask_swap m l o lo ta tb, meet_swap m l o lo ta.toNat tb.toNat] at f4
  have f5 := fun R' W' w1 h1 h2 h3 h4 => tmeets_any m o vw vh vr vl vwo vho vro vlo l lo ta tb R' W' w1 h1 h2 h3 h4
  obtain ⟨mk, rfl, hmk⟩ := u16_bd hmo2
  obtain ⟨lk, rfl, hlk⟩ := u16_bd hlg
  have MM := Lib.hid hm
  have ML := Lib.hid hl
  have OM := Lib.hid hmo
  have OL := Lib.hid hlo
  have ff := Lib.hid (fun w1 h1 h2 h3 h4 => few38_any m o vw vh vr vl vwo vho vro vlo l lo w1 h1 h2 h3 h4)
  have hd := Lib.hid (fun w1 => head38_any w1)
  have MM0 := Lib.hid hm
  have ML0 := Lib.hid hl
  have OM0 := Lib.hid hmo
  have OL0 := Lib.hid hlo
  obtain ⟨⟨-, a1, c1, rfl, -⟩, ⟨-, a2, c2, rfl, -⟩, ⟨-, a3, c3, rfl, -⟩⟩ := hm
  obtain ⟨⟨-, a1o, c1o, rfl, -⟩, ⟨-, a2o, c2o, rfl, -⟩, ⟨-, a3o, c3o, rfl, -⟩⟩ := hmo
  obtain ⟨-, al, cl, rfl, -⟩ := hl
  obtain ⟨-, alo, clo, rfl, -⟩ := hlo
  unfold msnCells at *
  have HAN := Lib.hid (fun h => ask_num (m := m) (l := l) (o := o) (lo := lo) (a := ta) (b := tb) (R := R) (W := Wt) h)
  have HAM := Lib.hid (fun R' W' h => ask_more (m := m) (l := l) (o := o) (lo := lo) (a := ta) (b := tb) (R := R) (W := Wt) (R' := R') (W' := W') h)
  have HMM := Lib.hid (fun R' W' h => meet_more (m := m) (l := l) (o := o) (lo := lo) (a := ta.toNat) (b := tb.toNat) (R := R) (W := Wt) (R' := R') (W' := W') h)
  generalize hak : askB m l o lo ta tb R Wt = ak at *
  generalize hmt : meetB m l o lo ta.toNat tb.toNat R Wt = mt at *
  replace hak := Lib.hid hak
  replace hmt := Lib.hid hmt
  replace f3 := Lib.hid f3
  replace f4 := Lib.hid f4
  replace f5 := Lib.hid f5
  have B0 := Lib.hid (Below.refl w.heap.size w)
  clear hmo2 hlg
  go_enter Tryz.func7, Tryz.ntmps7
  go_wp2_with fail
  generalize hXX0 : World.alloc (World.alloc (World.alloc w _) _) _ = X0
  obtain ⟨q0, q1, q2, hA, hzX0⟩ := box3 hXX0
  clear hXX0
  replace MM := Lib.hid ((MM.out.below hA).mono hA.size)
  replace ML := Lib.hid ((ML.out.below hA).mono hA.size)
  replace OM := Lib.hid ((OM.out.below hA).mono hA.size)
  replace OL := Lib.hid ((OL.out.below hA).mono hA.size)
  have MB := Lib.hid q0
  clear q0
  have OB := Lib.hid q1
  clear q1
  have TB := Lib.hid q2
  clear q2
  have BX0 := Lib.hid (B0.out.trans (hA.mono B0.out.size))
  clear hA
  obtain ⟨d0, d1, d2, d3, d4, d5, d6, d7, d8, d9, d10⟩ := msn_cells (m := m) MB.out
  obtain ⟨e0, e1, e2, e3, e4, e5, e6, e7, e8, e9, e10⟩ := msn_cells (m := o) OB.out
  have t0 := TB.out.cell (i := 0) rfl
  have t1 := TB.out.cell (i := 1) rfl
  have t2 := TB.out.cell (i := 2) rfl
  have t3 := TB.out.cell (i := 3) rfl
  refine (hd.out _).mono ?_
  rintro e w1 ⟨rfl, b1⟩
  have B1 := Lib.hid (BX0.out.trans (b1.mono BX0.out.size))
  replace MM := Lib.hid ((MM.out.below b1).mono b1.size)
  replace ML := Lib.hid ((ML.out.below b1).mono b1.size)
  replace OM := Lib.hid ((OM.out.below b1).mono b1.size)
  replace OL := Lib.hid ((OL.out.below b1).mono b1.size)
  replace MB := Lib.hid (MB.out.below b1 MB.out.lt)
  replace OB := Lib.hid (OB.out.below b1 OB.out.lt)
  replace TB := Lib.hid (TB.out.below b1 TB.out.lt)
  clear b1
  clear d0 d1 d2 d3 d4 d5 d6 d7 d8 d9 d10 e0 e1 e2 e3 e4 e5 e6 e7 e8 e9 e10 t0 t1 t2 t3
  obtain ⟨d0, d1, d2, d3, d4, d5, d6, d7, d8, d9, d10⟩ := msn_cells (m := m) MB.out
  obtain ⟨e0, e1, e2, e3, e4, e5, e6, e7, e8, e9, e10⟩ := msn_cells (m := o) OB.out
  have t0 := TB.out.cell (i := 0) rfl
  have t1 := TB.out.cell (i := 1) rfl
  have t2 := TB.out.cell (i := 2) rfl
  have t3 := TB.out.cell (i := 3) rfl
  go_wp2_with fail
  refine (ff.out _ MM.out ML.out OM.out OL.out).mono ?_
  rintro e w2 ⟨rfl, b2⟩
  have B2 := Lib.hid (B1.out.trans (b2.mono B1.out.size))
  replace MM := Lib.hid ((MM.out.below b2).mono b2.size)
  replace ML := Lib.hid ((ML.out.below b2).mono b2.size)
  replace OM := Lib.hid ((OM.out.below b2).mono b2.size)
  replace OL := Lib.hid ((OL.out.below b2).mono b2.size)
  replace MB := Lib.hid (MB.out.below b2 MB.out.lt)
  replace OB := Lib.hid (OB.out.below b2 OB.out.lt)
  replace TB := Lib.hid (TB.out.below b2 TB.out.lt)
  clear b2
  clear d0 d1 d2 d3 d4 d5 d6 d7 d8 d9 d10 e0 e1 e2 e3 e4 e5 e6 e7 e8 e9 e10 t0 t1 t2 t3
  obtain ⟨d0, d1, d2, d3, d4, d5, d6, d7, d8, d9, d10⟩ := msn_cells (m := m) MB.out
  obtain ⟨e0, e1, e2, e3, e4, e5, e6, e7, e8, e9, e10⟩ := msn_cells (m := o) OB.out
  have t0 := TB.out.cell (i := 0) rfl
  have t1 := TB.out.cell (i := 1) rfl
  have t2 := TB.out.cell (i := 2) rfl
  have t3 := TB.out.cell (i := 3) rfl
  cases hfew : few38B m l o lo
  · go_wp2
    go_ret
    exact ⟨rfl, B2.out⟩
  clear hfew
  go_wp2_with fail
  refine (f3.out _ MM.out ML.out OM.out OL.out).mono ?_
  rintro e w3 ⟨rfl, b3⟩
  have B3 := Lib.hid (B2.out.trans (b3.mono B2.out.size))
  replace MM := Lib.hid ((MM.out.below b3).mono b3.size)
  replace ML := Lib.hid ((ML.out.below b3).mono b3.size)
  replace OM := Lib.hid ((OM.out.below b3).mono b3.size)
  replace OL := Lib.hid ((OL.out.below b3).mono b3.size)
  replace MB := Lib.hid (MB.out.below b3 MB.out.lt)
  replace OB := Lib.hid (OB.out.below b3 OB.out.lt)
  replace TB := Lib.hid (TB.out.below b3 TB.out.lt)
  clear b3
  clear d0 d1 d2 d3 d4 d5 d6 d7 d8 d9 d10 e0 e1 e2 e3 e4 e5 e6 e7 e8 e9 e10 t0 t1 t2 t3
  obtain ⟨d0, d1, d2, d3, d4, d5, d6, d7, d8, d9, d10⟩ := msn_cells (m := m) MB.out
  obtain ⟨e0, e1, e2, e3, e4, e5, e6, e7, e8, e9, e10⟩ := msn_cells (m := o) OB.out
  have t0 := TB.out.cell (i := 0) rfl
  have t1 := TB.out.cell (i := 1) rfl
  have t2 := TB.out.cell (i := 2) rfl
  have t3 := TB.out.cell (i := 3) rfl
  go_wp2_with fail
  refine (f4.out _ OM.out OL.out MM.out ML.out).mono ?_
  rintro e w4 ⟨rfl, b4⟩
  have B4 := Lib.hid (B3.out.trans (b4.mono B3.out.size))
  replace MM := Lib.hid ((MM.out.below b4).mono b4.size)
  replace ML := Lib.hid ((ML.out.below b4).mono b4.size)
  replace OM := Lib.hid ((OM.out.below b4).mono b4.size)
  replace OL := Lib.hid ((OL.out.below b4).mono b4.size)
  replace MB := Lib.hid (MB.out.below b4 MB.out.lt)
  replace OB := Lib.hid (OB.out.below b4 OB.out.lt)
  replace TB := Lib.hid (TB.out.below b4 TB.out.lt)
  clear b4
  clear d0 d1 d2 d3 d4 d5 d6 d7 d8 d9 d10 e0 e1 e2 e3 e4 e5 e6 e7 e8 e9 e10 t0 t1 t2 t3
  obtain ⟨d0, d1, d2, d3, d4, d5, d6, d7, d8, d9, d10⟩ := msn_cells (m := m) MB.out
  obtain ⟨e0, e1, e2, e3, e4, e5, e6, e7, e8, e9, e10⟩ := msn_cells (m := o) OB.out
  have t0 := TB.out.cell (i := 0) rfl
  have t1 := TB.out.cell (i := 1) rfl
  have t2 := TB.out.cell (i := 2) rfl
  have t3 := TB.out.cell (i := 3) rfl
  cases ak
  · have z : errB false = 1 := rfl
    rw [z]
    go_wp2
    go_ret
    exact ⟨rfl, B4.out⟩
  have z : errB true = 0 := rfl
  obtain ⟨⟨r1, r2⟩, r3, r4⟩ := HAN.out rfl
  have u1 : IntKind.i64.wrap (mk : Int) = mk := IntWalk.i64_in _ (by omega)
  have u2 : IntKind.i64.wrap (lk : Int) = lk := IntWalk.i64_in _ (by omega)
  have u3 : IntKind.i64.wrap (R + mk) = R + mk := IntWalk.i64_in _ (by omega)
  have u4 : IntKind.i64.wrap (Wt + lk) = Wt + lk := IntWalk.i64_in _ (by omega)
  obtain ⟨R2, hR2⟩ : ∃ x, min 100000 (R + (mk : Int)) = x := ⟨_, rfl⟩
  obtain ⟨W2, hW2⟩ : ∃ x, min 100000 (Wt + (lk : Int)) = x := ⟨_, rfl⟩
  have q1 : 0 ≤ R2 ∧ R2 ≤ 100000 ∧ R ≤ R2 := by omega
  have q2 : 0 ≤ W2 ∧ W2 ≤ 100000 ∧ Wt ≤ W2 := by omega
  have f6 := f5.out R2 W2
  rw [HAM.out R2 W2 rfl ⟨q1.1, q1.2.1⟩ ⟨q2.1, q2.2.1⟩, z] at f6
  have HQ := Lib.hid (HMM.out R2 W2)
  replace HQ := Lib.hid (fun h => HQ.out h q1.2.2 q2.2.2)
  generalize meetB m l o lo ta.toNat tb.toNat R2 W2 = m2 at *
  replace f6 := Lib.hid f6
  clear q1 q2 f5 f3 f4 HAN HAM HMM hak hmt
  have g2 := cells_free TB.out 2
  have g3 := cells_free TB.out 3
  have hzT := TB.out.lt
  rw [z]
  have hS : Below (w.heap.size + 1 + 1) w4 ((w4.setCell ⟨w.heap.size + 1 + 1, 2, none⟩ (.int .i64 R2)).setCell ⟨w.heap.size + 1 + 1, 3, none⟩ (.int .i64 W2)) := ((Below.refl _ _).setCell (p := ⟨w.heap.size + 1 + 1, 2, none⟩) (by simp) _).setCell (p := ⟨w.heap.size + 1 + 1, 3, none⟩) (by simp) _
  have TN := (TB.out.set 2 (.int .i64 R2)).set 3 (.int .i64 W2)
  simp only [List.setIfInBounds_toArray, List.set_cons_zero, List.set_cons_succ] at TN
  have hY : Has ((w4.setCell ⟨w.heap.size + 1 + 1, 2, none⟩ (.int .i64 R2)).setCell ⟨w.heap.size + 1 + 1, 3, none⟩ (.int .i64 W2)) (w.heap.size + 1 + 1) #[.int .i64 ta, .int .i64 tb, .int .i64 R2, .int .i64 W2] 29 := TN
  clear TN
  have BY := Lib.hid (B4.out.trans (hS.mono (by omega)))
  have hMB := MB.out.below hS (by omega)
  have hOB := OB.out.below hS (by omega)
  clear d0 d1 d2 d3 d4 d5 d6 d7 d8 d9 d10 e0 e1 e2 e3 e4 e5 e6 e7 e8 e9 e10 t0 t1 t2 t3
  obtain ⟨d0, d1, d2, d3, d4, d5, d6, d7, d8, d9, d10⟩ := msn_cells (m := m) hMB
  obtain ⟨e0, e1, e2, e3, e4, e5, e6, e7, e8, e9, e10⟩ := msn_cells (m := o) hOB
  have t0 := hY.cell (i := 0) rfl
  have t1 := hY.cell (i := 1) rfl
  have t2 := hY.cell (i := 2) rfl
  have t3 := hY.cell (i := 3) rfl
  have p2 := TB.out.cell (i := 2) rfl
  have p3 := TB.out.cell (i := 3) rfl
  clear MM ML OM OL
  have GG := Lib.hid (And.intro ((MM0.out.below BY.out).mono BY.out.size) (And.intro ((ML0.out.below BY.out).mono BY.out.size) (And.intro ((OM0.out.below BY.out).mono BY.out.size) ((OL0.out.below BY.out).mono BY.out.size))))
  clear hS hMB hOB hY
  go_wp2_with fail
  refine (f6.out _ GG.out.1 GG.out.2.1 GG.out.2.2.1 GG.out.2.2.2).mono ?_
  rintro e w9 ⟨rfl, b9⟩
  have BZ := Lib.hid (BY.out.trans (b9.mono BY.out.size))
  clear b9 GG
  cases mt
  · cases m2
    · go_wp2
      go_ret
      exact ⟨by simp, BZ.out⟩
    · go_wp2
      go_ret
      exact ⟨by simp, BZ.out⟩
  · have e2 := HQ.out rfl
    subst e2
    go_wp2
    go_ret
    exact ⟨by simp, BZ.out⟩

set_option maxRecDepth 100000 in
theorem lifted (os : Os) (started : os.Started) (H : Type) (enc : TypeId × Value → H) :
    ReturnsInHanded {} Tryz.checked os 7 .any (Rows.trystMoreSpec.pre6 enc Tryz.prog Tryz.f7 Rows.trystMoreRow.domain false) (Rows.trystMoreSpec.post enc Tryz.prog Tryz.f7 false true false false) := by
  refine returnsInHanded_of_change_sized (C := Tryz.checked) own started (by kernel_rfl) Tryz.func7
    (ChangeSpec.witness6 (enc := enc) (C := Tryz.checked) false ⟨#[], #[.agg #[.slice none 0 0, .slice none 0 0, .int .i64 0, .slice none 0 0, .int .i64 0, .int .i64 0, .int .i64 0, .int .i64 0, .int .i64 0, .int .i64 0, .int .i64 0], .agg #[.slice none 0 0, .slice none 0 0, .int .i64 0, .slice none 0 0, .int .i64 0, .int .i64 0, .int .i64 0, .int .i64 0, .int .i64 0, .int .i64 0, .int .i64 0], .slice none 0 0, .slice none 0 0, .agg #[.int .i64 0, .int .i64 0, .int .i64 0, .int .i64 0], .int .u16 0, .int .u16 0], []⟩ 8 (by kernel_rfl) (by kernel_rfl) (by kernel_rfl) (by kernel_rfl)) ?_
  intro W base args ds gs before hval0 hW hcnd hsz0 _
  have hval : ∀ (j : Nat) t v, Tryz.f7.params[j]? = some t → args[j]? = some v → Value.okWide Tryz.prog W .any base t v := hval0
  have hW' := hW
  obtain ⟨p, q, hA0, hV, rfl, hfz, hnd⟩ := hW
  have hA : DataW.TrodAll enc Tryz.prog W 0 (fun _ => true) true Tryz.f7.params.toList args.toList ds p := hA0
  have hsz : (DataW.weightsEach Tryz.prog (Tryz.f7.params.toList ++ Rows.trystMoreSpec.plain.varTypes Tryz.prog) (ds ++ gs)).all (· ≤ reachBytes) = true := hsz0
  rw [Tryz.params7] at hA hval hsz
  obtain ⟨v0, vs0, d0, ds0, p0, q0, hargs, rfl, rfl, h0, r0⟩ := trodAll_cons hA
  obtain ⟨v1, vs1, d1, ds1, p1, q1, rfl, rfl, rfl, h1, r1⟩ := trodAll_cons r0
  obtain ⟨v2, vs2, d2, ds2, p2, q2, rfl, rfl, rfl, h2, r2⟩ := trodAll_cons r1
  obtain ⟨v3, vs3, d3, ds3, p3, q3, rfl, rfl, rfl, h3, r3⟩ := trodAll_cons r2
  obtain ⟨v4, vs4, d4, ds4, p4, q4, rfl, rfl, rfl, h4, r4⟩ := trodAll_cons r3
  obtain ⟨v5, vs5, d5, ds5, p5, q5, rfl, rfl, rfl, h5, r5⟩ := trodAll_cons r4
  obtain ⟨v6, vs6, d6, ds6, p6, q6, rfl, rfl, rfl, h6, r6⟩ := trodAll_cons r5
  obtain ⟨rfl, rfl, rfl⟩ := trodAll_nil r6
  obtain rfl : args = #[v0, v1, v2, v3, v4, v5, v6] := by cases args; simp_all
  obtain ⟨rfl, rfl⟩ := trodVars_none hV
  have k0 := h0
  have lt0 : ∀ x ∈ p0, x.block < W.heap.size := by obtain ⟨m, hm⟩ := k0; exact DataW.trod_lt m _ _ _ hm
  have z0 : ∀ n ∈ d0.weights Tryz.prog 26, n ≤ reachBytes := fun n hn => by have := List.all_eq_true.1 hsz n (DataW.weights_mem_each (j := 0) (t := 26) (d := d0) rfl rfl n hn); simpa using this
  obtain ⟨a0, vw0, vh0, vr0, rfl, w0⟩ := open_msn (hval 0 26 v0 rfl rfl) h0 z0
  have k1 := h1
  have lt1 : ∀ x ∈ p1, x.block < W.heap.size := by obtain ⟨m, hm⟩ := k1; exact DataW.trod_lt m _ _ _ hm
  have z1 : ∀ n ∈ d1.weights Tryz.prog 26, n ≤ reachBytes := fun n hn => by have := List.all_eq_true.1 hsz n (DataW.weights_mem_each (j := 1) (t := 26) (d := d1) rfl rfl n hn); simpa using this
  obtain ⟨a1, vw1, vh1, vr1, rfl, w1⟩ := open_msn (hval 1 26 v1 rfl rfl) h1 z1
  have k2 := h2
  have lt2 : ∀ x ∈ p2, x.block < W.heap.size := by obtain ⟨m, hm⟩ := k2; exact DataW.trod_lt m _ _ _ hm
  have z2 : ∀ n ∈ d2.weights Tryz.prog 27, n ≤ reachBytes := fun n hn => by have := List.all_eq_true.1 hsz n (DataW.weights_mem_each (j := 2) (t := 27) (d := d2) rfl rfl n hn); simpa using this
  obtain ⟨a2, w2⟩ := open_ints_arg (hval 2 27 v2 rfl rfl) h2 z2
  have k3 := h3
  have lt3 : ∀ x ∈ p3, x.block < W.heap.size := by obtain ⟨m, hm⟩ := k3; exact DataW.trod_lt m _ _ _ hm
  have z3 : ∀ n ∈ d3.weights Tryz.prog 27, n ≤ reachBytes := fun n hn => by have := List.all_eq_true.1 hsz n (DataW.weights_mem_each (j := 3) (t := 27) (d := d3) rfl rfl n hn); simpa using this
  obtain ⟨a3, w3⟩ := open_ints_arg (hval 3 27 v3 rfl rfl) h3 z3
  have k4 := h4
  have lt4 : ∀ x ∈ p4, x.block < W.heap.size := by obtain ⟨m, hm⟩ := k4; exact DataW.trod_lt m _ _ _ hm
  obtain ⟨a4, b4, c4, d4', rfl⟩ := open_tryst (hval 4 29 v4 rfl rfl) h4
  obtain ⟨a5, rfl, rfl, rfl, w5⟩ := open_int Tryz.underlying56 (hval 5 56 v5 rfl rfl) h5
  obtain ⟨a6, rfl, rfl, rfl, w6⟩ := open_int Tryz.underlying56 (hval 6 56 v6 rfl rfl) h6
  clear hA0 hval0
  refine (walk W a0 vw0 vh0 vr0 a1 vw1 vh1 vr1 v2 a2 v3 a3 a4 b4 c4 d4' a5 a6 w0 w1 w2 w3 w5 w6).mono fun e W' ⟨he, bel⟩ => ?_
  subst he
  exact ⟨_, rfl, _, _, _, [], _, [], hW', trodAll_mk1 (shut_bool Tryz.underlying4 _), (trodAll_cons_mk (Below.trod laidOut (by kernel_rfl) (of_decide_eq_true (by kernel_rfl)) k0 bel lt0) (trodAll_cons_mk (Below.trod laidOut (by kernel_rfl) (of_decide_eq_true (by kernel_rfl)) k1 bel lt1) (trodAll_cons_mk (Below.trod laidOut (by kernel_rfl) (of_decide_eq_true (by kernel_rfl)) k2 bel lt2) (trodAll_cons_mk (Below.trod laidOut (by kernel_rfl) (of_decide_eq_true (by kernel_rfl)) k3 bel lt3) (trodAll_cons_mk (Below.trod laidOut (by kernel_rfl) (of_decide_eq_true (by kernel_rfl)) k4 bel lt4) (trodAll_cons_mk (shut_int Tryz.underlying56 w5) (trodAll_cons_mk (shut_int Tryz.underlying56 w6) trodAll_mk0))))))), rfl, bel.frame _, fun h => by cases h⟩

theorem over : Rows.trystMoreRow.holds Tryz.pinned (OpenSpec.ofChange Rows.trystMoreSpec) :=
  OpenClaim.holds_of_wide 7 Tryz.f7 rfl rfl rfl rfl rfl rfl rfl ⟨rfl, rfl, rfl, rfl, rfl⟩ rfl rfl rfl rfl rfl (by kernel_rfl) Tryz.func7 (by kernel_rfl)
    (of_decide_eq_true (by kernel_rfl)) (by unfold Func.isWrapper; first | (rw [if_pos (by decide +kernel)]; kernel_rfl) | (rw [if_neg (by decide +kernel)]; exact ⟨rfl, rfl⟩))
    (fun os started H enc _ => lifted os started H enc)

/-- the statement -/
theorem proved : Rows.TrystMoreSaid := over
#print axioms proved
end Go.Proofs.YtdpnhckbabjagaaGreat.trystMore
