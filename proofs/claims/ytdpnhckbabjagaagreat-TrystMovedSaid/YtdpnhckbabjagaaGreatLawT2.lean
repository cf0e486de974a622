/- The range does not depend on which polygon is the first one, and stays if both are moved alike; with one corner of the one instead of it, it is not greater. No condition. -/
import Derived.Test.YtdpnhckbabjagaaGreatBin31
import Derived.Test.YtdpnhckbabjagaaGreatBin28
import Derived.Test.YtdpnhckbabjagaaGreatBin29
import Derived.Test.YtdpnhckbabjagaaGreatBin07
namespace Go.Proofs.YtdpnhckbabjagaaGreat.trystMoved
open Go.ChangeShapes Go.WideShapes Go.ChangeAt Go.RowKit
set_option linter.unusedVariables false
theorem own : ownKnob Tryz.prog.godebug = none := by kernel_rfl
theorem laidOut : laidOutB Tryz.prog = true := by kernel_rfl
attribute [local irreducible] wpQuiet

theorem moved_ok {p q : List Pt} {d : Pt} (h : trB p q = true) (h1 : shE p d = 0) (h2 : shE q d = 0) : rangeV (shL p d) (shL q d) = rangeV p q ∧ rangeE (shL p d) (shL q d) = 0 := by
  obtain ⟨hp, hq⟩ := trB_iff.1 h
  have P : GoValid p := by simpa [goValid] using hp
  have Q : GoValid q := by simpa [goValid] using hq
  have a1 : allPl (mvL d p) = true := by
    unfold shE at h1; split at h1
    · split at h1
      · assumption
      · omega
    · omega
  have a2 : allPl (mvL d q) = true := by
    unfold shE at h2; split at h2
    · split at h2
      · assumption
      · omega
    · omega
  have t : trB (mvL d p) (mvL d q) = true := trB_iff.2 ⟨by rw [goValid_mv d P, a1], by rw [goValid_mv d Q, a2]⟩
  rw [shL, if_pos h1, shL, if_pos h2]
  exact ⟨range_moved d h t, by simp [rangeE, t]⟩

set_option linter.unusedSimpArgs false in
set_option linter.unusedVariables false in
set_option maxRecDepth 8000 in
set_option maxHeartbeats 4000000 in
theorem walk (w : World) (vp : Value) (p : List Pt) (vq : Value) (q : List Pt) (x y : Int) (wh : Int) (hp : PtsAt w.heap.size w vp p) (hq : PtsAt w.heap.size w vq q) (hwh : (Lit.int .u8 wh).wf = true) :
    Calls Tryz.prog 4 #[vp, vq, .agg #[.int .i64 x, .int .i64 y], .int .u8 wh] w fun e w' => e = .returned (.bool true) ∧ Below w.heap.size w w' := by
  have f1 := fun w1 h1 h2 => range_any vp vq p q w1 h1 h2
  have f2 := fun w1 h1 h2 => range_any vq vp q p w1 h2 h1
  rw [(range_swap q p).1, (range_swap q p).2] at f2
  have f4 := fun w1 h => mshift_any vp p ⟨x, y⟩ w1 h
  have f5 := fun w1 h => mshift_any vq q ⟨x, y⟩ w1 h
  have f6 := fun u v w1 h1 h2 => range_any u v (shL p ⟨x, y⟩) (shL q ⟨x, y⟩) w1 h1 h2
  have fp := fun w1 h => few03_any vp p w1 h
  have fq := fun w1 h => few03_any vq q w1 h
  have hd := Lib.hid (fun w1 => head38_any w1)
  obtain ⟨wk, rfl, hwk⟩ := u8_bd hwh
  have PP := Lib.hid hp
  have QQ := Lib.hid hq
  obtain ⟨ap, cp, rfl⟩ := hp.len
  obtain ⟨aq, cq, rfl⟩ := hq.len
  have f3 := Lib.hid (fun i v w1 h1 h2 => range_any v (.slice aq q.length (q.length + cq)) [nth p i] q w1 h1 h2)
  generalize decide (p.length ≤ 80) = b1 at *
  generalize decide (q.length ≤ 80) = b2 at *
  replace fp := Lib.hid fp
  replace fq := Lib.hid fq
  replace f4 := Lib.hid f4
  replace f5 := Lib.hid f5
  replace f6 := Lib.hid f6
  have B0 := Lib.hid (Below.refl w.heap.size w)
  clear hp hq hwh
  cases hok : trB p q
  · have e1 : rangeV p q = 0 := by simp [rangeV, hok]
    have e2 : rangeE p q = 1 := by simp [rangeE, hok]
    rw [e1, e2] at f1 f2
    replace f1 := Lib.hid f1
    replace f2 := Lib.hid f2
    go_enter Tryz.func4, Tryz.ntmps4
    go_wp2_with fail
    generalize hXX0 : World.alloc w _ = X0
    obtain ⟨q0, hA, hzX0⟩ := box1 hXX0
    clear hXX0
    replace PP := Lib.hid ((PP.out.below hA).mono hA.size)
    replace QQ := Lib.hid ((QQ.out.below hA).mono hA.size)
    have DB := Lib.hid q0
    clear q0
    have BX0 := Lib.hid (B0.out.trans (hA.mono B0.out.size))
    clear hA
    have x0 := DB.out.cell (i := 0) rfl; have x1 := DB.out.cell (i := 1) rfl
    refine (hd.out _).mono ?_
    rintro e w1 ⟨rfl, b1⟩
    have B1 := Lib.hid (BX0.out.trans (b1.mono BX0.out.size))
    replace PP := Lib.hid ((PP.out.below b1).mono b1.size)
    replace QQ := Lib.hid ((QQ.out.below b1).mono b1.size)
    replace DB := Lib.hid (DB.out.below b1 DB.out.lt)
    clear b1
    clear x0 x1
    have x0 := DB.out.cell (i := 0) rfl; have x1 := DB.out.cell (i := 1) rfl
    go_wp2_with fail
    refine (fp.out _ PP.out).mono ?_
    rintro e w2 ⟨rfl, b2⟩
    have B2 := Lib.hid (B1.out.trans (b2.mono B1.out.size))
    replace PP := Lib.hid ((PP.out.below b2).mono b2.size)
    replace QQ := Lib.hid ((QQ.out.below b2).mono b2.size)
    replace DB := Lib.hid (DB.out.below b2 DB.out.lt)
    clear b2
    clear x0 x1
    have x0 := DB.out.cell (i := 0) rfl; have x1 := DB.out.cell (i := 1) rfl
    cases b1
    · go_wp2
      go_ret
      exact ⟨rfl, B2.out⟩
    go_wp2_with fail
    refine (fq.out _ QQ.out).mono ?_
    rintro e w3 ⟨rfl, b3⟩
    have B3 := Lib.hid (B2.out.trans (b3.mono B2.out.size))
    replace PP := Lib.hid ((PP.out.below b3).mono b3.size)
    replace QQ := Lib.hid ((QQ.out.below b3).mono b3.size)
    replace DB := Lib.hid (DB.out.below b3 DB.out.lt)
    clear b3
    clear x0 x1
    have x0 := DB.out.cell (i := 0) rfl; have x1 := DB.out.cell (i := 1) rfl
    cases b2
    · go_wp2
      go_ret
      exact ⟨rfl, B3.out⟩
    go_wp2_with fail
    refine (f1.out _ PP.out QQ.out).mono ?_
    rintro e w4 ⟨rfl, b4⟩
    have B4 := Lib.hid (B3.out.trans (b4.mono B3.out.size))
    replace PP := Lib.hid ((PP.out.below b4).mono b4.size)
    replace QQ := Lib.hid ((QQ.out.below b4).mono b4.size)
    replace DB := Lib.hid (DB.out.below b4 DB.out.lt)
    clear b4
    clear x0 x1
    have x0 := DB.out.cell (i := 0) rfl; have x1 := DB.out.cell (i := 1) rfl
    go_wp2_with fail
    refine (f2.out _ PP.out QQ.out).mono ?_
    rintro e w5 ⟨rfl, b5⟩
    have B5 := Lib.hid (B4.out.trans (b5.mono B4.out.size))
    replace PP := Lib.hid ((PP.out.below b5).mono b5.size)
    replace QQ := Lib.hid ((QQ.out.below b5).mono b5.size)
    replace DB := Lib.hid (DB.out.below b5 DB.out.lt)
    clear b5
    clear x0 x1
    have x0 := DB.out.cell (i := 0) rfl; have x1 := DB.out.cell (i := 1) rfl
    go_wp2
    go_ret
    exact ⟨rfl, B5.out⟩
  have e2 : rangeE p q = 0 := by simp [rangeE, hok]
  rw [e2] at f1 f2
  have G : GoValid p := by simpa [goValid] using (trB_iff.1 hok).1
  have hl1 : 1 ≤ p.length := G.1
  have hl2 : p.length ≤ 64 := G.2.1
  obtain ⟨k, hk, hkl, -⟩ := mod_at (i := wk) (n := p.length) (by omega)
  have hcr := range_corner hok hkl
  have e3 : rangeE [nth p k] q = 0 := by simp [rangeE, hcr.1]
  have f3' := f3.out k
  rw [e3] at f3'
  have hc2 := hcr.2
  have HMV := Lib.hid (fun h1 h2 => moved_ok (d := ⟨x, y⟩) hok h1 h2)
  generalize rangeV [nth p k] q = N1 at *
  generalize rangeV p q = N at *
  generalize rangeV (shL p ⟨x, y⟩) (shL q ⟨x, y⟩) = N2 at *
  generalize rangeE (shL p ⟨x, y⟩) (shL q ⟨x, y⟩) = E2 at *
  generalize shE p ⟨x, y⟩ = s1 at *
  generalize shE q ⟨x, y⟩ = s2 at *
  generalize shL p ⟨x, y⟩ = pl at *
  generalize shL q ⟨x, y⟩ = ql at *
  replace f3 := Lib.hid f3'
  have HC := Lib.hid hc2
  have hne : ¬ (p.length : Int) = 0 := by omega
  have hkl' : (k : Int) < p.length := by omega
  have hk0 : (0 : Int) ≤ k := by omega
  have z3 : IntKind.i64.wrap (k : Int) = k := IntWalk.i64_in _ (by omega)
  have z4 : IntKind.i64.wrap (wk : Int) = wk := IntWalk.i64_in _ (by omega)
  have hnil : ¬ p = [] := by intro h; rw [h] at hl1; simp at hl1
  have dpl : ((p.length : Int) == 0) = false := by rw [beq_eq_false_iff_ne]; omega
  obtain ⟨bp, op, rfl, hbp, hcp⟩ : ∃ b o, ap = some ⟨b, o, none⟩ ∧ b < w.heap.size ∧ ∀ j, j < p.length → w.cell? ⟨b, o + j * 2, none⟩ = some (.int .i64 (nth p j).x) ∧ w.cell? ⟨b, o + j * 2 + 1, none⟩ = some (.int .i64 (nth p j).y) := by
    obtain ⟨-, a, c, e, hc⟩ := PP.out
    simp only [Value.slice.injEq, true_and, Nat.add_left_cancel_iff] at e
    obtain ⟨rfl, rfl⟩ := e
    exact hc.resolve_left hnil
  have KP := Lib.hid (And.intro hbp (hcp k hkl))
  clear hcr e2 e3 G hok f3' hc2 hcp hbp
  generalize hnp : nth p k = pk at *
  obtain ⟨kx, ky⟩ := pk
  clear hnp
  replace f1 := Lib.hid f1
  replace f2 := Lib.hid f2
  go_enter Tryz.func4, Tryz.ntmps4
  go_wp2_with fail
  generalize hXX0 : World.alloc w _ = X0
  obtain ⟨q0, hA, hzX0⟩ := box1 hXX0
  clear hXX0
  replace PP := Lib.hid ((PP.out.below hA).mono hA.size)
  replace QQ := Lib.hid ((QQ.out.below hA).mono hA.size)
  have DB := Lib.hid q0
  clear q0
  have BX0 := Lib.hid (B0.out.trans (hA.mono B0.out.size))
  clear hA
  have x0 := DB.out.cell (i := 0) rfl; have x1 := DB.out.cell (i := 1) rfl
  refine (hd.out _).mono ?_
  rintro e w1 ⟨rfl, b1⟩
  have B1 := Lib.hid (BX0.out.trans (b1.mono BX0.out.size))
  replace PP := Lib.hid ((PP.out.below b1).mono b1.size)
  replace QQ := Lib.hid ((QQ.out.below b1).mono b1.size)
  replace DB := Lib.hid (DB.out.below b1 DB.out.lt)
  clear b1
  clear x0 x1
  have x0 := DB.out.cell (i := 0) rfl; have x1 := DB.out.cell (i := 1) rfl
  go_wp2_with fail
  refine (fp.out _ PP.out).mono ?_
  rintro e w2 ⟨rfl, b2⟩
  have B2 := Lib.hid (B1.out.trans (b2.mono B1.out.size))
  replace PP := Lib.hid ((PP.out.below b2).mono b2.size)
  replace QQ := Lib.hid ((QQ.out.below b2).mono b2.size)
  replace DB := Lib.hid (DB.out.below b2 DB.out.lt)
  clear b2
  clear x0 x1
  have x0 := DB.out.cell (i := 0) rfl; have x1 := DB.out.cell (i := 1) rfl
  cases b1
  · go_wp2
    go_ret
    exact ⟨rfl, B2.out⟩
  go_wp2_with fail
  refine (fq.out _ QQ.out).mono ?_
  rintro e w3 ⟨rfl, b3⟩
  have B3 := Lib.hid (B2.out.trans (b3.mono B2.out.size))
  replace PP := Lib.hid ((PP.out.below b3).mono b3.size)
  replace QQ := Lib.hid ((QQ.out.below b3).mono b3.size)
  replace DB := Lib.hid (DB.out.below b3 DB.out.lt)
  clear b3
  clear x0 x1
  have x0 := DB.out.cell (i := 0) rfl; have x1 := DB.out.cell (i := 1) rfl
  cases b2
  · go_wp2
    go_ret
    exact ⟨rfl, B3.out⟩
  go_wp2_with fail
  refine (f1.out _ PP.out QQ.out).mono ?_
  rintro e w4 ⟨rfl, b4⟩
  have B4 := Lib.hid (B3.out.trans (b4.mono B3.out.size))
  replace PP := Lib.hid ((PP.out.below b4).mono b4.size)
  replace QQ := Lib.hid ((QQ.out.below b4).mono b4.size)
  replace DB := Lib.hid (DB.out.below b4 DB.out.lt)
  clear b4
  clear x0 x1
  have x0 := DB.out.cell (i := 0) rfl; have x1 := DB.out.cell (i := 1) rfl
  go_wp2_with fail
  refine (f2.out _ PP.out QQ.out).mono ?_
  rintro e w5 ⟨rfl, b5⟩
  have B5 := Lib.hid (B4.out.trans (b5.mono B4.out.size))
  replace PP := Lib.hid ((PP.out.below b5).mono b5.size)
  replace QQ := Lib.hid ((QQ.out.below b5).mono b5.size)
  replace DB := Lib.hid (DB.out.below b5 DB.out.lt)
  clear b5
  clear x0 x1
  have x0 := DB.out.cell (i := 0) rfl; have x1 := DB.out.cell (i := 1) rfl
  have e4 : (N != N) = false := by simp
  have k0 := (B5.out.cell (p := ⟨bp, op + k * 2, none⟩) KP.out.1).trans KP.out.2.1
  have k1 := (B5.out.cell (p := ⟨bp, op + k * 2 + 1, none⟩) KP.out.1).trans KP.out.2.2
  clear x0 x1
  go_wp2_with fail
  generalize hXX1 : World.alloc w5 _ = X1
  obtain ⟨q0, hA, hzX1⟩ := box1 hXX1
  clear hXX1
  replace PP := Lib.hid ((PP.out.below hA).mono hA.size)
  replace QQ := Lib.hid ((QQ.out.below hA).mono hA.size)
  replace DB := Lib.hid (DB.out.below hA DB.out.lt)
  have KB := Lib.hid q0
  clear q0
  have BX1 := Lib.hid (B5.out.trans (hA.mono B5.out.size))
  clear hA
  clear k0 k1
  have K1 := Lib.hid (pts_lit (l := [⟨kx, ky⟩]) KB.out (by simp))
  have dc : decide (N1 ≤ N) = true := by rw [decide_eq_true_eq]; exact HC.out
  have x0 := DB.out.cell (i := 0) rfl; have x1 := DB.out.cell (i := 1) rfl
  refine (f3.out _ _ K1.out QQ.out).mono ?_
  rintro e w6 ⟨rfl, b6⟩
  have B6 := Lib.hid (BX1.out.trans (b6.mono BX1.out.size))
  clear K1
  clear KB
  replace PP := Lib.hid ((PP.out.below b6).mono b6.size)
  replace QQ := Lib.hid ((QQ.out.below b6).mono b6.size)
  replace DB := Lib.hid (DB.out.below b6 DB.out.lt)
  clear b6
  clear x0 x1
  have x0 := DB.out.cell (i := 0) rfl; have x1 := DB.out.cell (i := 1) rfl
  go_wp2_with fail
  refine (f4.out _ PP.out).mono ?_
  rintro e w7 ⟨v7, rfl, p7, b7⟩
  have B7 := Lib.hid (B6.out.trans (b7.mono B6.out.size))
  replace PP := Lib.hid ((PP.out.below b7).mono b7.size)
  replace QQ := Lib.hid ((QQ.out.below b7).mono b7.size)
  replace DB := Lib.hid (DB.out.below b7 DB.out.lt)
  have PA := Lib.hid p7
  obtain ⟨g7, k7, hv7⟩ := p7.len
  subst hv7
  clear p7
  clear b7
  clear x0 x1
  have x0 := DB.out.cell (i := 0) rfl; have x1 := DB.out.cell (i := 1) rfl
  go_wp2_with fail
  refine (f5.out _ QQ.out).mono ?_
  rintro e w8 ⟨v8, rfl, p8, b8⟩
  have B8 := Lib.hid (B7.out.trans (b8.mono B7.out.size))
  replace PP := Lib.hid ((PP.out.below b8).mono b8.size)
  replace QQ := Lib.hid ((QQ.out.below b8).mono b8.size)
  replace DB := Lib.hid (DB.out.below b8 DB.out.lt)
  replace PA := Lib.hid ((PA.out.below b8).mono b8.size)
  have PB := Lib.hid p8
  obtain ⟨g8, k8, hv8⟩ := p8.len
  subst hv8
  clear p8
  clear b8
  clear x0 x1
  have x0 := DB.out.cell (i := 0) rfl; have x1 := DB.out.cell (i := 1) rfl
  by_cases h1 : s1 = 0
  rotate_left
  · have d1 : (s1 != 0) = true := by simpa using h1
    go_wp2
    go_ret
    exact ⟨rfl, B8.out⟩
  by_cases h2 : s2 = 0
  rotate_left
  · have d1 : (s1 != 0) = false := by simpa using h1
    have d2 : (s2 != 0) = true := by simpa using h2
    clear h1
    go_wp2
    go_ret
    exact ⟨rfl, B8.out⟩
  obtain ⟨e5, e6⟩ := HMV.out h1 h2
  subst h1
  subst h2
  subst e5
  subst e6
  go_wp2_with fail
  refine (f6.out _ _ _ PA.out PB.out).mono ?_
  rintro e w9 ⟨rfl, b9⟩
  have B9 := Lib.hid (B8.out.trans (b9.mono B8.out.size))
  replace PP := Lib.hid ((PP.out.below b9).mono b9.size)
  replace QQ := Lib.hid ((QQ.out.below b9).mono b9.size)
  replace DB := Lib.hid (DB.out.below b9 DB.out.lt)
  replace PA := Lib.hid ((PA.out.below b9).mono b9.size)
  replace PB := Lib.hid ((PB.out.below b9).mono b9.size)
  clear b9
  clear x0 x1
  have x0 := DB.out.cell (i := 0) rfl; have x1 := DB.out.cell (i := 1) rfl
  have e7 : (N2 == N2) = true := by simp
  go_wp2
  go_ret
  exact ⟨by simp, B9.out⟩

set_option maxRecDepth 100000 in
theorem lifted (os : Os) (started : os.Started) (H : Type) (enc : TypeId × Value → H) :
    ReturnsInHanded {} Tryz.checked os 4 .any (Rows.trystMovedSpec.pre6 enc Tryz.prog Tryz.f4 Rows.trystMovedRow.domain false) (Rows.trystMovedSpec.post enc Tryz.prog Tryz.f4 false true false false) := by
  refine returnsInHanded_of_change_sized (C := Tryz.checked) own started (by kernel_rfl) Tryz.func4
    (ChangeSpec.witness6 (enc := enc) (C := Tryz.checked) false ⟨#[], #[.slice none 0 0, .slice none 0 0, .agg #[.int .i64 0, .int .i64 0], .int .u8 0], []⟩ 8 (by kernel_rfl) (by kernel_rfl) (by kernel_rfl) (by kernel_rfl)) ?_
  intro W base args ds gs before hval0 hW hcnd hsz0 _
  have hval : ∀ (j : Nat) t v, Tryz.f4.params[j]? = some t → args[j]? = some v → Value.okWide Tryz.prog W .any base t v := hval0
  have hW' := hW
  obtain ⟨p, q, hA0, hV, rfl, hfz, hnd⟩ := hW
  have hA : DataW.TrodAll enc Tryz.prog W 0 (fun _ => true) true Tryz.f4.params.toList args.toList ds p := hA0
  have hsz : (DataW.weightsEach Tryz.prog (Tryz.f4.params.toList ++ Rows.trystMovedSpec.plain.varTypes Tryz.prog) (ds ++ gs)).all (· ≤ reachBytes) = true := hsz0
  rw [Tryz.params4] at hA hval hsz
  obtain ⟨v0, vs0, d0, ds0, p0, q0, hargs, rfl, rfl, h0, r0⟩ := trodAll_cons hA
  obtain ⟨v1, vs1, d1, ds1, p1, q1, rfl, rfl, rfl, h1, r1⟩ := trodAll_cons r0
  obtain ⟨v2, vs2, d2, ds2, p2, q2, rfl, rfl, rfl, h2, r2⟩ := trodAll_cons r1
  obtain ⟨v3, vs3, d3, ds3, p3, q3, rfl, rfl, rfl, h3, r3⟩ := trodAll_cons r2
  obtain ⟨rfl, rfl, rfl⟩ := trodAll_nil r3
  obtain rfl : args = #[v0, v1, v2, v3] := by cases args; simp_all
  obtain ⟨rfl, rfl⟩ := trodVars_none hV
  have k0 := h0
  have lt0 : ∀ x ∈ p0, x.block < W.heap.size := by obtain ⟨m, hm⟩ := k0; exact DataW.trod_lt m _ _ _ hm
  have z0 : ∀ n ∈ d0.weights Tryz.prog 22, n ≤ reachBytes := fun n hn => by have := List.all_eq_true.1 hsz n (DataW.weights_mem_each (j := 0) (t := 22) (d := d0) rfl rfl n hn); simpa using this
  obtain ⟨a0, w0⟩ := open_pts_arg (hval 0 22 v0 rfl rfl) h0 z0
  have k1 := h1
  have lt1 : ∀ x ∈ p1, x.block < W.heap.size := by obtain ⟨m, hm⟩ := k1; exact DataW.trod_lt m _ _ _ hm
  have z1 : ∀ n ∈ d1.weights Tryz.prog 22, n ≤ reachBytes := fun n hn => by have := List.all_eq_true.1 hsz n (DataW.weights_mem_each (j := 1) (t := 22) (d := d1) rfl rfl n hn); simpa using this
  obtain ⟨a1, w1⟩ := open_pts_arg (hval 1 22 v1 rfl rfl) h1 z1
  have k2 := h2
  have lt2 : ∀ x ∈ p2, x.block < W.heap.size := by obtain ⟨m, hm⟩ := k2; exact DataW.trod_lt m _ _ _ hm
  obtain ⟨a2, b2, rfl⟩ := open_point (hval 2 44 v2 rfl rfl) h2
  obtain ⟨a3, rfl, rfl, rfl, w3⟩ := open_int Tryz.underlying5 (hval 3 5 v3 rfl rfl) h3
  clear hA0 hval0
  refine (walk W v0 a0 v1 a1 a2 b2 a3 w0 w1 w3).mono fun e W' ⟨he, bel⟩ => ?_
  subst he
  exact ⟨_, rfl, _, _, _, [], _, [], hW', trodAll_mk1 (shut_bool Tryz.underlying4 _), (trodAll_cons_mk (Below.trod laidOut (by kernel_rfl) (of_decide_eq_true (by kernel_rfl)) k0 bel lt0) (trodAll_cons_mk (Below.trod laidOut (by kernel_rfl) (of_decide_eq_true (by kernel_rfl)) k1 bel lt1) (trodAll_cons_mk (Below.trod laidOut (by kernel_rfl) (of_decide_eq_true (by kernel_rfl)) k2 bel lt2) (trodAll_cons_mk (shut_int Tryz.underlying5 w3) trodAll_mk0)))), rfl, bel.frame _, fun h => by cases h⟩

theorem over : Rows.trystMovedRow.holds Tryz.pinned (OpenSpec.ofChange Rows.trystMovedSpec) :=
  OpenClaim.holds_of_wide 4 Tryz.f4 rfl rfl rfl rfl rfl rfl rfl ⟨rfl, rfl, rfl, rfl, rfl⟩ rfl rfl rfl rfl rfl (by kernel_rfl) Tryz.func4 (by kernel_rfl)
    (of_decide_eq_true (by kernel_rfl)) (by unfold Func.isWrapper; first | (rw [if_pos (by decide +kernel)]; kernel_rfl) | (rw [if_neg (by decide +kernel)]; exact ⟨rfl, rfl⟩))
    (fun os started H enc _ => lifted os started H enc)

/-- the statement -/
theorem proved : Rows.TrystMovedSaid := over
#print axioms proved
end Go.Proofs.YtdpnhckbabjagaaGreat.trystMoved
