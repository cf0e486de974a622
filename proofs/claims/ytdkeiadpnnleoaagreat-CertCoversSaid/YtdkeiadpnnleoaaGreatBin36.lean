/- The walk of the law: Each Corridor of a right certificate covers the corridor of lesser radii, and each of the polygons of a region that it covers. -/
import Derived.Test.YtdkeiadpnnleoaaGreatBin31
import Derived.Test.YtdkeiadpnnleoaaGreatBin34
import Derived.Test.YtdkeiadpnnleoaaGreatBin29
import Derived.Test.YtdkeiadpnnleoaaGreatBin32
import Derived.Test.YtdkeiadpnnleoaaGreatBin35
namespace Go.Proofs.YtdkeiadpnnleoaaGreat.certCovers
open Go.RowKit
attribute [local irreducible] wpQuiet

theorem mod_in {u f : Int} (hu : 0 ≤ u) (hf : 0 ≤ f) : ∃ a : Int, u.tmod (f + 1) = a ∧ 0 ≤ a ∧ a ≤ f := by
  refine ⟨u % (f + 1), Int.tmod_eq_emod_of_nonneg hu, Int.emod_nonneg _ (by omega), ?_⟩
  have := Int.emod_lt_of_pos u (show 0 < f + 1 by omega)
  omega
theorem chk_split {m : Msn} {c : Crt} (h : chkB m c = true) : frmB m c = true ∧ ∀ i, i < c.psg.length → lgB m c i = true := by
  unfold chkB at h
  rwa [Bool.and_eq_true, decide_eq_true_eq] at h

set_option linter.unusedSimpArgs false in
set_option linter.unusedVariables false in
set_option maxRecDepth 8000 in
set_option maxHeartbeats 6400000 in
theorem walk (w : World) (m : Msn) (vw vh vr : Value) (c : Crt) (vs vp ve : Value) (g u v : Int) (vx : Value) (x : List (List Pt)) (hm : MsnAt w.heap.size w m vw vh vr) (hc : CrtAt w.heap.size w c vs vp ve) (hg0 : (Lit.int .u8 g).wf = true) (hu0 : (Lit.int .u16 u).wf = true) (hv0 : (Lit.int .u16 v).wf = true) (hx : RocksAt w.heap.size w vx x) :
    Calls Tryz.prog 11 #[.agg (msnCells m vw vh vr), .agg #[vs, vp, ve], .int .u8 g, .int .u16 u, .int .u16 v, vx] w fun e w' => e = .returned (.bool true) ∧ Below w.heap.size w w' := by
  obtain ⟨g, rfl, hg⟩ := u8_bd hg0
  obtain ⟨u, rfl, hu⟩ := u16_bd hu0
  obtain ⟨v, rfl, hv⟩ := u16_bd hv0
  have hd := Lib.hid (fun w1 => head36_any w1)
  have ff := fun w1 (B : Below w.heap.size w w1) => few36_any m vw vh vr c vs vp ve w1 ((hm.below B).mono B.size) ((hc.below B).mono B.size)
  have fv := fun w1 (B : Below w.heap.size w w1) => rValid31_any m vw vh vr w1 ((hm.below B).mono B.size)
  have fk := fun w1 (B : Below w.heap.size w w1) => check_any m vw vh vr c vs vp ve w1 ((hm.below B).mono B.size) ((hc.below B).mono B.size)
  have f7 := fun w1 (B : Below w.heap.size w w1) => gfew_any vx x w1 ((hx.below B).mono B.size)
  have f8 := fun w1 (B : Below w.heap.size w w1) => grvalid_any vx x w1 ((hx.below B).mono B.size)
  have fc := fun (i : Int) vr' r w1 (B : Below w.heap.size w w1) h => covers_any c vs vp ve vr' i r w1 ((hc.below B).mono B.size) h
  have HX := Lib.hid hx
  obtain ⟨⟨hwl, a1, cap1, rfl, hcw⟩, ⟨-, a2, cap2, rfl, -⟩, ⟨hrl, a3, cap3, rfl, hcr⟩⟩ := hm
  obtain ⟨⟨hsl, aS, cS, rfl, hcs⟩, ⟨hpl, ap, cp, rfl, hcp⟩, ⟨hel, ar, cr, rfl, hce⟩⟩ := hc
  unfold msnCells at *
  obtain ⟨hxl, a5, cap5, rfl, hcx⟩ := hx
  have HCW := Lib.hid hcw
  have HCP := Lib.hid hcp
  have HCX := Lib.hid hcx
  clear hcw hcr hcs hcp hce hwl hrl hsl hel hcx
  replace ff := Lib.hid ff
  replace fv := Lib.hid fv
  replace fk := Lib.hid fk
  replace f7 := Lib.hid f7
  replace f8 := Lib.hid f8
  replace fc := Lib.hid fc
  have BW := Lib.hid (Below.refl w.heap.size w)
  clear hg0 hu0 hv0
  go_enter Tryz.func11, Tryz.ntmps11
  go_wp2_with fail
  generalize hXX0 : World.alloc (World.alloc w _) _ = X0
  obtain ⟨q0, q1, hA, hzX0⟩ := box2 hXX0
  clear hXX0
  have BW := Lib.hid hA
  clear hA
  have MB := Lib.hid q0
  clear q0
  have CB := Lib.hid q1
  clear q1
  clear hzX0
  obtain ⟨c0, c1, c2, c3, c4, c5, c6, c7, c8, c9, c10⟩ := msn_cells (m := m) MB.out
  have ltMB := MB.out.lt
  have hk := CB.out
  have k0' := hk.cell (i := 0) rfl
  have k1' := hk.cell (i := 1) rfl
  have k2' := hk.cell (i := 2) rfl
  refine (hd.out X0).mono ?_
  rintro e w1 ⟨rfl, b1⟩
  replace BW := Lib.hid (BW.out.trans (b1.mono BW.out.size))
  have B_X0 := Lib.hid b1
  clear b1
  clear c0 c1 c2 c3 c4 c5 c6 c7 c8 c9 c10 ltMB hk k0' k1' k2'
  obtain ⟨c0, c1, c2, c3, c4, c5, c6, c7, c8, c9, c10⟩ := msn_cells (m := m) (MB.out.below B_X0.out MB.out.lt)
  have ltMB := (MB.out.below B_X0.out MB.out.lt).lt
  have hk := (CB.out.below B_X0.out CB.out.lt)
  have k0' := hk.cell (i := 0) rfl
  have k1' := hk.cell (i := 1) rfl
  have k2' := hk.cell (i := 2) rfl
  go_wp2_with fail
  refine (ff.out _ BW.out).mono ?_
  rintro e w2 ⟨rfl, b2⟩
  replace BW := Lib.hid (BW.out.trans (b2.mono BW.out.size))
  replace B_X0 := Lib.hid (B_X0.out.trans (b2.mono B_X0.out.size))
  clear b2
  clear c0 c1 c2 c3 c4 c5 c6 c7 c8 c9 c10 ltMB hk k0' k1' k2'
  obtain ⟨c0, c1, c2, c3, c4, c5, c6, c7, c8, c9, c10⟩ := msn_cells (m := m) (MB.out.below B_X0.out MB.out.lt)
  have ltMB := (MB.out.below B_X0.out MB.out.lt).lt
  have hk := (CB.out.below B_X0.out CB.out.lt)
  have k0' := hk.cell (i := 0) rfl
  have k1' := hk.cell (i := 1) rfl
  have k2' := hk.cell (i := 2) rfl
  cases hfew : fewB m && fewC c
  · skip
    go_wp2
    go_ret
    exact ⟨rfl, BW.out⟩
  obtain ⟨hfm, hfc⟩ : fewB m = true ∧ fewC c = true := by rwa [Bool.and_eq_true] at hfew
  clear hfew
  clear hfm hfc
  go_wp2_with fail
  refine (fv.out _ BW.out).mono ?_
  rintro e w3 ⟨rfl, b3⟩
  replace BW := Lib.hid (BW.out.trans (b3.mono BW.out.size))
  replace B_X0 := Lib.hid (B_X0.out.trans (b3.mono B_X0.out.size))
  clear b3
  clear c0 c1 c2 c3 c4 c5 c6 c7 c8 c9 c10 ltMB hk k0' k1' k2'
  obtain ⟨c0, c1, c2, c3, c4, c5, c6, c7, c8, c9, c10⟩ := msn_cells (m := m) (MB.out.below B_X0.out MB.out.lt)
  have ltMB := (MB.out.below B_X0.out MB.out.lt).lt
  have hk := (CB.out.below B_X0.out CB.out.lt)
  have k0' := hk.cell (i := 0) rfl
  have k1' := hk.cell (i := 1) rfl
  have k2' := hk.cell (i := 2) rfl
  cases hV : validB m
  · skip
    go_wp2
    go_ret
    exact ⟨rfl, BW.out⟩
  go_wp2_with fail
  refine (f7.out _ BW.out).mono ?_
  rintro e0 w0 ⟨b7, rfl, hw7⟩
  rw [hw7]
  clear hw7 w0
  cases b7
  · skip
    go_wp2
    go_ret
    exact ⟨rfl, BW.out⟩
  go_wp2_with fail
  refine (f8.out _ BW.out).mono ?_
  rintro e w4 ⟨rfl, b4⟩
  replace BW := Lib.hid (BW.out.trans (b4.mono BW.out.size))
  replace B_X0 := Lib.hid (B_X0.out.trans (b4.mono B_X0.out.size))
  clear b4
  clear c0 c1 c2 c3 c4 c5 c6 c7 c8 c9 c10 ltMB hk k0' k1' k2'
  obtain ⟨c0, c1, c2, c3, c4, c5, c6, c7, c8, c9, c10⟩ := msn_cells (m := m) (MB.out.below B_X0.out MB.out.lt)
  have ltMB := (MB.out.below B_X0.out MB.out.lt).lt
  have hk := (CB.out.below B_X0.out CB.out.lt)
  have k0' := hk.cell (i := 0) rfl
  have k1' := hk.cell (i := 1) rfl
  have k2' := hk.cell (i := 2) rfl
  cases hR : regB x
  · skip
    go_wp2
    go_ret
    exact ⟨rfl, BW.out⟩
  go_wp2_with fail
  refine (fk.out _ BW.out).mono ?_
  rintro e w5 ⟨rfl, b5⟩
  replace BW := Lib.hid (BW.out.trans (b5.mono BW.out.size))
  replace B_X0 := Lib.hid (B_X0.out.trans (b5.mono B_X0.out.size))
  clear b5
  clear c0 c1 c2 c3 c4 c5 c6 c7 c8 c9 c10 ltMB hk k0' k1' k2'
  obtain ⟨c0, c1, c2, c3, c4, c5, c6, c7, c8, c9, c10⟩ := msn_cells (m := m) (MB.out.below B_X0.out MB.out.lt)
  have ltMB := (MB.out.below B_X0.out MB.out.lt).lt
  have hk := (CB.out.below B_X0.out CB.out.lt)
  have k0' := hk.cell (i := 0) rfl
  have k1' := hk.cell (i := 1) rfl
  have k2' := hk.cell (i := 2) rfl
  by_cases hF : frmB m c = true
  rotate_left
  · have e1 : chkE m c = 1 := if_neg hF
    have e2 : chkB m c = false := by unfold chkB; rw [Bool.not_eq_true] at hF; rw [hF]; rfl
    rw [e1, e2]
    clear e1 e2 hF
    go_wp2
    go_ret
    exact ⟨rfl, BW.out⟩
  have e1 : chkE m c = 0 := if_pos hF
  rw [e1]
  clear e1
  cases hC : chkB m c
  · go_wp2
    go_ret
    exact ⟨rfl, BW.out⟩
  have V := (validB_iff m).1 hV
  obtain ⟨hok, hl1, hl2, hal⟩ := frm_split hF
  obtain ⟨-, hleg⟩ := chk_split hC
  obtain ⟨n, hn⟩ : ∃ n, c.psg.length = n := ⟨_, rfl⟩
  have hn1 : n + 1 = m.ways.length := by have := V.n2; omega
  have hn41 := V.n41
  have n0 : 0 < n := by have := V.n2; omega
  have jw : IntKind.i64.wrap ((m.ways.length : Int) - 1) = (n : Int) := by rw [show (m.ways.length : Int) - 1 = (n : Int) by omega]; exact IntWalk.i64_in _ (by omega)
  have dnn : ((n : Int) == (n : Int)) = true := by simp
  have jg : IntKind.i64.wrap (g : Int) = (g : Int) := IntWalk.i64_in _ (by omega)
  obtain ⟨i, hi, hin, -⟩ := mod_at (i := g) (n := n) n0
  have dz : ((n : Int) == 0) = false := by rw [beq_eq_false_iff_ne]; omega
  have nz : ¬ ((n : Int) = 0) := by omega
  have ji : IntKind.i64.wrap (i : Int) = (i : Int) := IntWalk.i64_in _ (by omega)
  have hi1 : i + 1 < m.ways.length := by omega
  obtain ⟨b, o, rfl, hb, hcp⟩ := HCP.out.resolve_left (by intro h; rw [h] at hn; simp at hn; omega)
  obtain ⟨vc, x0, hvc, x1, x2, x3, x4⟩ := hcp i (by omega)
  obtain ⟨hgv, r1, r2, r3, r4, -⟩ := okP_split (hal i (by omega))
  have h4 : lg4 m c i = true := by have := hleg i (by omega); unfold lgB at this; simp only [Bool.and_eq_true] at this; exact this.2.2.2
  obtain ⟨us, hus, u1, u2⟩ := mod_in (u := (u : Int)) (f := (pgd c.psg i).fr) (by omega) r1.1
  obtain ⟨ws, hws, w1', w2'⟩ := mod_in (u := (v : Int)) (f := (pgd c.psg i).tw) (by omega) r2.1
  obtain ⟨q1, q2, q3⟩ := lesser_in V hi1 h4 ⟨u1, u2⟩ ⟨w1', w2'⟩
  obtain ⟨t1, t2⟩ := cv_one (c := c) (i := i) (by omega) hgv q2
  rw [q3] at t1
  obtain ⟨s1, s2⟩ := cv_all (c := c) (i := i) (by omega) hgv hR
  have hone := fun j (hj : j < x.length) => cv_one (c := c) (i := i) (q := rk x j) (by omega) hgv (polysB_iff.1 (show polysB x = true by unfold regB at hR; rw [Bool.and_eq_true] at hR; exact hR.2) j hj)
  have HALL : inAll x (pgd c.psg i).cor = decide (∀ j, j < x.length → withinB (rk x j) (pgd c.psg i).cor = true) := rfl
  have fK := fun w1 => corridor_any (atW m i) (atW m (i + 1)) us ws w1
  rw [q1] at fK
  unfold atW at fK t1 t2
  have xl32 : x.length ≤ 32 := by unfold regB at hR; rw [Bool.and_eq_true, decide_eq_true_eq] at hR; exact hR.1
  generalize corL ⟨(wy m.ways i).x, (wy m.ways i).y⟩ us ⟨(wy m.ways (i + 1)).x, (wy m.ways (i + 1)).y⟩ ws = cl at *
  have gc1 := fun vq w1 B h => fc.out i vq [cl] w1 B h
  rw [t1, t2] at gc1
  have gc2 := fun w1 B => fc.out i _ x w1 B ((HX.out.below B).mono B.size)
  rw [s1, s2] at gc2
  have gc3 := fun j hj vq w1 B h => (hone j hj).1 ▸ (hone j hj).2 ▸ fc.out i vq [rk x j] w1 B h
  replace gc1 := Lib.hid gc1
  replace gc2 := Lib.hid gc2
  replace gc3 := Lib.hid gc3
  replace HALL := Lib.hid HALL
  obtain ⟨bw, ow, rfl, hbw, hcw⟩ := HCW.out.resolve_left (by intro h; rw [h] at hi1; simp at hi1)
  obtain ⟨y1, y2, -⟩ := hcw i (by omega)
  obtain ⟨y3, y4, -⟩ := hcw (i + 1) hi1
  obtain ⟨au, cu, rfl⟩ := hvc.len
  have HVC := Lib.hid hvc
  have HY := Lib.hid (And.intro y1 (And.intro y2 (And.intro y3 y4)))
  obtain ⟨al, hal'⟩ : ∃ b, inAll x (pgd c.psg i).cor = b := ⟨_, rfl⟩
  have GC2 := gc2.out
  rw [hal'] at GC2
  replace gc2 := Lib.hid GC2
  replace HALL := HALL.out
  rw [hal'] at HALL
  replace HALL := Lib.hid HALL
  simp only at fK
  generalize (wy m.ways i).x = px at *
  generalize (wy m.ways i).y = py at *
  generalize (wy m.ways (i + 1)).x = qx at *
  generalize (wy m.ways (i + 1)).y = qy at *
  obtain ⟨⟨pc, fr, tw, tm, en⟩, hpp⟩ : ∃ p, pgd c.psg i = p := ⟨_, rfl⟩
  simp only [hpp] at x1 x2 x3 x4 hus hws r1 r2 u2 w2' gc3 HVC HALL ⊢
  replace fK := Lib.hid fK
  have ju : IntKind.i64.wrap (u : Int) = (u : Int) := IntWalk.i64_in _ (by omega)
  have jv : IntKind.i64.wrap (v : Int) = (v : Int) := IntWalk.i64_in _ (by omega)
  have jf : IntKind.i64.wrap (fr + 1) = fr + 1 := IntWalk.i64_in _ (by omega)
  have jt : IntKind.i64.wrap (tw + 1) = tw + 1 := IntWalk.i64_in _ (by omega)
  have jus : IntKind.i64.wrap us = us := IntWalk.i64_in _ (by omega)
  have jws : IntKind.i64.wrap ws = ws := IntWalk.i64_in _ (by omega)
  have zf : ((fr + 1 : Int) == 0) = false := by rw [beq_eq_false_iff_ne]; omega
  have zt : ((tw + 1 : Int) == 0) = false := by rw [beq_eq_false_iff_ne]; omega
  have zf' : ¬ (fr + 1 = 0) := by omega
  have zt' : ¬ (tw + 1 = 0) := by omega
  have ii1 : IntKind.i64.wrap ((i : Int) + 1) = ((i + 1 : Nat) : Int) := by rw [show (i : Int) + 1 = ((i + 1 : Nat) : Int) by omega]; exact IntWalk.i64_in _ (by omega)
  have il : (i : Int) < m.ways.length := by omega
  have il1 : (i : Int) + 1 < m.ways.length := by omega
  have il2 : ((i + 1 : Nat) : Int) < m.ways.length := by omega
  have i0 : (0 : Int) ≤ i := by omega
  have i1 : (0 : Int) ≤ (i : Int) + 1 := by omega
  have inn : (i : Int) < (n : Int) := by omega
  have HI := Lib.hid hi
  rw [hn] at *
  clear V hok hl1 hl2 hal hleg hcp hgv h4 q1 q2 q3 t1 t2 s1 s2 hone hcw hvc y1 y2 y3 y4 hV hR hF hC hpp hal'
  clear c0 c1 c2 c3 c4 c5 c6 c7 c8 c9 c10 ltMB hk k0' k1' k2'
  obtain ⟨c0, c1, c2, c3, c4, c5, c6, c7, c8, c9, c10⟩ := msn_cells (m := m) (MB.out.below B_X0.out MB.out.lt)
  have ltMB := (MB.out.below B_X0.out MB.out.lt).lt
  have hk := (CB.out.below B_X0.out CB.out.lt)
  have k0' := hk.cell (i := 0) rfl
  have k1' := hk.cell (i := 1) rfl
  have k2' := hk.cell (i := 2) rfl
  replace x0 := (BW.out.cell (p := ⟨b, o + i * 5, none⟩) hb).trans x0
  replace x1 := (BW.out.cell (p := ⟨b, o + i * 5 + 1, none⟩) hb).trans x1
  replace x2 := (BW.out.cell (p := ⟨b, o + i * 5 + 2, none⟩) hb).trans x2
  replace x3 := (BW.out.cell (p := ⟨b, o + i * 5 + 3, none⟩) hb).trans x3
  replace x4 := (BW.out.cell (p := ⟨b, o + i * 5 + 4, none⟩) hb).trans x4
  go_upto_region 9 with fail
  generalize hXX8 : World.alloc w5 _ = X8
  obtain ⟨q0, hA, hzX8⟩ := box1 hXX8
  clear hXX8
  replace BW := Lib.hid (BW.out.trans (hA.mono BW.out.size))
  replace B_X0 := Lib.hid (B_X0.out.trans (hA.mono B_X0.out.size))
  clear hA
  have PB := Lib.hid q0
  clear q0
  clear hzX8 x0 x1 x2 x3 x4
  clear c0 c1 c2 c3 c4 c5 c6 c7 c8 c9 c10 ltMB hk k0' k1' k2'
  have m0 : X8.cell? ⟨w.heap.size, 0, none⟩ = some (.slice (some ⟨bw, ow, none⟩) m.ways.length (m.ways.length + cap1)) := (MB.out.below B_X0.out MB.out.lt).cell (i := 0) rfl
  have l1 := PB.out.cell (i := 1) rfl
  have l2 := PB.out.cell (i := 2) rfl
  have y1 := (BW.out.cell (p := ⟨bw, ow + i * 5, none⟩) hbw).trans HY.out.1
  have y2 := (BW.out.cell (p := ⟨bw, ow + i * 5 + 1, none⟩) hbw).trans HY.out.2.1
  have y3 := (BW.out.cell (p := ⟨bw, ow + (i + 1) * 5, none⟩) hbw).trans HY.out.2.2.1
  have y4 := (BW.out.cell (p := ⟨bw, ow + (i + 1) * 5 + 1, none⟩) hbw).trans HY.out.2.2.2
  refine (wpIn_wide (n := 9)).1 ?_
  refine wpIn_region_sched (lets_wide _) 30 (fun X => Below X8.heap.size X8 X) (by kernel_rfl) (by kernel_rfl) (by kernel_rfl) fun hH inv0 => ?_
  have hD := Below.drew (Below.refl X8.heap.size X8)
  generalize hXX9 : X8.drew = X9 at *
  clear hXX9
  replace BW := Lib.hid (BW.out.trans (hD.mono BW.out.size))
  replace B_X0 := Lib.hid (B_X0.out.trans (hD.mono B_X0.out.size))
  have B_X8 := Lib.hid hD
  clear hD
  refine sched_take hH (i := 0) (v := .pointer (some ⟨w.heap.size, 0, none⟩)) (drop_get rfl) (by omega) inv0 (by kernel_rfl) (by kernel_rfl) rfl (fun X hX => ?_) fun inv1 => ?_
  · go_simp
  simp only [Act.put, List.setIfInBounds_toArray, List.set_cons_zero, List.set_cons_succ]
  clear inv0
  refine sched_take hH (i := 1) (v := .slice (some ⟨bw, ow, none⟩) m.ways.length (m.ways.length + cap1)) (drop_get rfl) (by omega) inv1 (by kernel_rfl) (by kernel_rfl) rfl (fun X hX => ?_) fun inv2 => ?_
  · have r0 := (hX.cell (p := ⟨w.heap.size, 0, none⟩) (World.block_lt_of_cell? _ _ m0)).trans m0; go_simp
  simp only [Act.put, List.setIfInBounds_toArray, List.set_cons_zero, List.set_cons_succ]
  clear inv1
  refine sched_take hH (i := 2) (v := .int .i64 (i : Int)) (drop_get rfl) (by omega) inv2 (by kernel_rfl) (by kernel_rfl) rfl (fun X hX => ?_) fun inv3 => ?_
  · go_simp
  simp only [Act.put, List.setIfInBounds_toArray, List.set_cons_zero, List.set_cons_succ]
  clear inv2
  refine sched_take hH (i := 3) (v := .pointer (some ⟨bw, ow + i * 5, none⟩)) (drop_get rfl) (by omega) inv3 (by kernel_rfl) (by kernel_rfl) rfl (fun X hX => ?_) fun inv4 => ?_
  · go_simp
  simp only [Act.put, List.setIfInBounds_toArray, List.set_cons_zero, List.set_cons_succ]
  clear inv3
  refine sched_take hH (i := 4) (v := .pointer (some ⟨bw, ow + i * 5, none⟩)) (drop_get rfl) (by omega) inv4 (by kernel_rfl) (by kernel_rfl) rfl (fun X hX => ?_) fun inv5 => ?_
  · go_simp
  simp only [Act.put, List.setIfInBounds_toArray, List.set_cons_zero, List.set_cons_succ]
  clear inv4
  refine sched_take hH (i := 5) (v := .agg #[.int .i64 px, .int .i64 py]) (drop_get rfl) (by omega) inv5 (by kernel_rfl) (by kernel_rfl) rfl (fun X hX => ?_) fun inv6 => ?_
  · have r0 := (hX.cell (p := ⟨bw, ow + i * 5, none⟩) (World.block_lt_of_cell? _ _ y1)).trans y1; have r1 := (hX.cell (p := ⟨bw, ow + i * 5 + 1, none⟩) (World.block_lt_of_cell? _ _ y2)).trans y2; go_simp
  simp only [Act.put, List.setIfInBounds_toArray, List.set_cons_zero, List.set_cons_succ]
  clear inv5
  refine sched_take hH (i := 6) (v := .int .u16 (u : Int)) (drop_get rfl) (by omega) inv6 (by kernel_rfl) (by kernel_rfl) rfl (fun X hX => ?_) fun inv7 => ?_
  · go_simp
  simp only [Act.put, List.setIfInBounds_toArray, List.set_cons_zero, List.set_cons_succ]
  clear inv6
  refine sched_take hH (i := 7) (v := .int .i64 (u : Int)) (drop_get rfl) (by omega) inv7 (by kernel_rfl) (by kernel_rfl) rfl (fun X hX => ?_) fun inv8 => ?_
  · go_simp
  simp only [Act.put, List.setIfInBounds_toArray, List.set_cons_zero, List.set_cons_succ]
  clear inv7
  refine sched_take hH (i := 8) (v := .pointer (some ⟨w5.heap.size, 1, none⟩)) (drop_get rfl) (by omega) inv8 (by kernel_rfl) (by kernel_rfl) rfl (fun X hX => ?_) fun inv9 => ?_
  · go_simp
  simp only [Act.put, List.setIfInBounds_toArray, List.set_cons_zero, List.set_cons_succ]
  clear inv8
  refine sched_take hH (i := 9) (v := .int .i64 fr) (drop_get rfl) (by omega) inv9 (by kernel_rfl) (by kernel_rfl) rfl (fun X hX => ?_) fun inv10 => ?_
  · have r0 := (hX.cell (p := ⟨w5.heap.size, 1, none⟩) (World.block_lt_of_cell? _ _ l1)).trans l1; go_simp
  simp only [Act.put, List.setIfInBounds_toArray, List.set_cons_zero, List.set_cons_succ]
  clear inv9
  refine sched_take hH (i := 10) (v := .int .i64 (fr + 1)) (drop_get rfl) (by omega) inv10 (by kernel_rfl) (by kernel_rfl) rfl (fun X hX => ?_) fun inv11 => ?_
  · go_simp
  simp only [Act.put, List.setIfInBounds_toArray, List.set_cons_zero, List.set_cons_succ]
  clear inv10
  refine sched_take hH (i := 11) (v := .int .i64 us) (drop_get rfl) (by omega) inv11 (by kernel_rfl) (by kernel_rfl) rfl (fun X hX => ?_) fun inv12 => ?_
  · go_simp
  simp only [Act.put, List.setIfInBounds_toArray, List.set_cons_zero, List.set_cons_succ]
  clear inv11
  refine sched_take hH (i := 12) (v := .pointer (some ⟨w.heap.size, 0, none⟩)) (drop_get rfl) (by omega) inv12 (by kernel_rfl) (by kernel_rfl) rfl (fun X hX => ?_) fun inv13 => ?_
  · go_simp
  simp only [Act.put, List.setIfInBounds_toArray, List.set_cons_zero, List.set_cons_succ]
  clear inv12
  refine sched_take hH (i := 13) (v := .slice (some ⟨bw, ow, none⟩) m.ways.length (m.ways.length + cap1)) (drop_get rfl) (by omega) inv13 (by kernel_rfl) (by kernel_rfl) rfl (fun X hX => ?_) fun inv14 => ?_
  · have r0 := (hX.cell (p := ⟨w.heap.size, 0, none⟩) (World.block_lt_of_cell? _ _ m0)).trans m0; go_simp
  simp only [Act.put, List.setIfInBounds_toArray, List.set_cons_zero, List.set_cons_succ]
  clear inv13
  refine sched_take hH (i := 14) (v := .int .i64 (i : Int)) (drop_get rfl) (by omega) inv14 (by kernel_rfl) (by kernel_rfl) rfl (fun X hX => ?_) fun inv15 => ?_
  · go_simp
  simp only [Act.put, List.setIfInBounds_toArray, List.set_cons_zero, List.set_cons_succ]
  clear inv14
  refine sched_take hH (i := 15) (v := .int .i64 ((i + 1 : Nat) : Int)) (drop_get rfl) (by omega) inv15 (by kernel_rfl) (by kernel_rfl) rfl (fun X hX => ?_) fun inv16 => ?_
  · go_simp
  simp only [Act.put, List.setIfInBounds_toArray, List.set_cons_zero, List.set_cons_succ]
  clear inv15
  refine sched_take hH (i := 16) (v := .pointer (some ⟨bw, ow + (i + 1) * 5, none⟩)) (drop_get rfl) (by omega) inv16 (by kernel_rfl) (by kernel_rfl) rfl (fun X hX => ?_) fun inv17 => ?_
  · go_simp
  simp only [Act.put, List.setIfInBounds_toArray, List.set_cons_zero, List.set_cons_succ]
  clear inv16
  refine sched_take hH (i := 17) (v := .pointer (some ⟨bw, ow + (i + 1) * 5, none⟩)) (drop_get rfl) (by omega) inv17 (by kernel_rfl) (by kernel_rfl) rfl (fun X hX => ?_) fun inv18 => ?_
  · go_simp
  simp only [Act.put, List.setIfInBounds_toArray, List.set_cons_zero, List.set_cons_succ]
  clear inv17
  refine sched_take hH (i := 18) (v := .agg #[.int .i64 qx, .int .i64 qy]) (drop_get rfl) (by omega) inv18 (by kernel_rfl) (by kernel_rfl) rfl (fun X hX => ?_) fun inv19 => ?_
  · have r0 := (hX.cell (p := ⟨bw, ow + (i + 1) * 5, none⟩) (World.block_lt_of_cell? _ _ y3)).trans y3; have r1 := (hX.cell (p := ⟨bw, ow + (i + 1) * 5 + 1, none⟩) (World.block_lt_of_cell? _ _ y4)).trans y4; go_simp
  simp only [Act.put, List.setIfInBounds_toArray, List.set_cons_zero, List.set_cons_succ]
  clear inv18
  refine sched_take hH (i := 19) (v := .int .u16 (v : Int)) (drop_get rfl) (by omega) inv19 (by kernel_rfl) (by kernel_rfl) rfl (fun X hX => ?_) fun inv20 => ?_
  · go_simp
  simp only [Act.put, List.setIfInBounds_toArray, List.set_cons_zero, List.set_cons_succ]
  clear inv19
  refine sched_take hH (i := 20) (v := .int .i64 (v : Int)) (drop_get rfl) (by omega) inv20 (by kernel_rfl) (by kernel_rfl) rfl (fun X hX => ?_) fun inv21 => ?_
  · go_simp
  simp only [Act.put, List.setIfInBounds_toArray, List.set_cons_zero, List.set_cons_succ]
  clear inv20
  refine sched_take hH (i := 21) (v := .pointer (some ⟨w5.heap.size, 2, none⟩)) (drop_get rfl) (by omega) inv21 (by kernel_rfl) (by kernel_rfl) rfl (fun X hX => ?_) fun inv22 => ?_
  · go_simp
  simp only [Act.put, List.setIfInBounds_toArray, List.set_cons_zero, List.set_cons_succ]
  clear inv21
  refine sched_take hH (i := 22) (v := .int .i64 tw) (drop_get rfl) (by omega) inv22 (by kernel_rfl) (by kernel_rfl) rfl (fun X hX => ?_) fun inv23 => ?_
  · have r0 := (hX.cell (p := ⟨w5.heap.size, 2, none⟩) (World.block_lt_of_cell? _ _ l2)).trans l2; go_simp
  simp only [Act.put, List.setIfInBounds_toArray, List.set_cons_zero, List.set_cons_succ]
  clear inv22
  refine sched_take hH (i := 23) (v := .int .i64 (tw + 1)) (drop_get rfl) (by omega) inv23 (by kernel_rfl) (by kernel_rfl) rfl (fun X hX => ?_) fun inv24 => ?_
  · go_simp
  simp only [Act.put, List.setIfInBounds_toArray, List.set_cons_zero, List.set_cons_succ]
  clear inv23
  refine sched_take hH (i := 24) (v := .int .i64 ws) (drop_get rfl) (by omega) inv24 (by kernel_rfl) (by kernel_rfl) rfl (fun X hX => ?_) fun inv25 => ?_
  · go_simp
  simp only [Act.put, List.setIfInBounds_toArray, List.set_cons_zero, List.set_cons_succ]
  clear inv24
  have inv26 := HeadInv.put2 inv25 (j := 25) (by kernel_rfl) (by omega)
  clear inv25
  refine sched_all (rs := [25]) (by kernel_rfl) (by simp) B_X8.out (by simp) (fun i hi' => ?_)
  simp only [List.mem_cons, List.not_mem_nil, or_false] at hi'
  subst hi'
  refine okOp_call (drop_get rfl) rfl (f := 65) (args := #[.agg #[.int .i64 px, .int .i64 py], .int .i64 us, .agg #[.int .i64 qx, .int .i64 qy], .int .i64 ws]) (by go_simp) (fK.out X9) ?_
  rintro e w6 ⟨vq, rfl, p9, b6⟩
  refine ⟨_, rfl, ?_⟩
  simp only [Act.put, List.setIfInBounds_toArray, List.set_cons_zero, List.set_cons_succ]
  replace BW := Lib.hid (BW.out.trans (b6.mono BW.out.size))
  replace B_X0 := Lib.hid (B_X0.out.trans (b6.mono B_X0.out.size))
  replace B_X8 := Lib.hid (B_X8.out.trans (b6.mono B_X8.out.size))
  clear b6
  have P1 := Lib.hid p9
  clear p9
  refine sched_take hH (i := 26) (v := .tuple #[vq, .int .i64 0]) (drop_get rfl) (by omega) inv26 (by kernel_rfl) (by kernel_rfl) rfl (fun X hX => ?_) fun inv27 => ?_
  · go_simp
  simp only [Act.put, List.setIfInBounds_toArray, List.set_cons_zero, List.set_cons_succ]
  clear inv26
  refine sched_take hH (i := 27) (v := vq) (drop_get rfl) (by omega) inv27 (by kernel_rfl) (by kernel_rfl) rfl (fun X hX => ?_) fun inv28 => ?_
  · go_simp
  simp only [Act.put, List.setIfInBounds_toArray, List.set_cons_zero, List.set_cons_succ]
  clear inv27
  refine sched_take hH (i := 28) (v := .int .i64 0) (drop_get rfl) (by omega) inv28 (by kernel_rfl) (by kernel_rfl) rfl (fun X hX => ?_) fun inv29 => ?_
  · go_simp
  simp only [Act.put, List.setIfInBounds_toArray, List.set_cons_zero, List.set_cons_succ]
  clear inv28
  refine sched_take hH (i := 29) (v := vq) (drop_get rfl) (by omega) inv29 (by kernel_rfl) (by kernel_rfl) rfl (fun X hX => ?_) fun inv30 => ?_
  · go_simp
  simp only [Act.put, List.setIfInBounds_toArray, List.set_cons_zero, List.set_cons_succ]
  clear inv29
  clear inv30 hH
  refine sched_done (by kernel_rfl) B_X8.out ?_
  simp only [List.drop_succ_cons, List.drop_zero]
  obtain ⟨g1, d1, hv1⟩ := P1.out.len
  subst hv1
  clear m0 l1 l2 y1 y2 y3 y4
  gi_wp2
  have hk := (CB.out.below B_X0.out CB.out.lt)
  have k0' := hk.cell (i := 0) rfl
  have k1' := hk.cell (i := 1) rfl
  have k2' := hk.cell (i := 2) rfl
  go_wp2_with fail
  generalize hXX10 : World.alloc w6 _ = X10
  obtain ⟨q0, hA, hzX10⟩ := box1 hXX10
  clear hXX10
  replace BW := Lib.hid (BW.out.trans (hA.mono BW.out.size))
  replace B_X0 := Lib.hid (B_X0.out.trans (hA.mono B_X0.out.size))
  replace B_X8 := Lib.hid (B_X8.out.trans (hA.mono B_X8.out.size))
  have B_w6 := Lib.hid hA
  clear hA
  have QB := Lib.hid q0
  clear q0
  clear hk k0' k1' k2'
  have hk := (CB.out.below B_X0.out CB.out.lt)
  have k0' := hk.cell (i := 0) rfl
  have k1' := hk.cell (i := 1) rfl
  have k2' := hk.cell (i := 2) rfl
  clear hzX10
  refine (gc1.out _ _ BW.out (RocksAt.has (ls := [cl]) (cap := 0) QB.out (by simp) fun j hj => by obtain rfl : j = 0 := (by simp at hj; omega); exact ⟨_, rfl, ((P1.out.below B_w6.out).mono B_w6.out.size)⟩)).mono ?_
  rintro e w7 ⟨rfl, b7⟩
  replace BW := Lib.hid (BW.out.trans (b7.mono BW.out.size))
  replace B_X0 := Lib.hid (B_X0.out.trans (b7.mono B_X0.out.size))
  replace B_X8 := Lib.hid (B_X8.out.trans (b7.mono B_X8.out.size))
  replace B_w6 := Lib.hid (B_w6.out.trans (b7.mono B_w6.out.size))
  have B_X10 := Lib.hid b7
  clear b7
  clear hk k0' k1' k2'
  have hk := (CB.out.below B_X0.out CB.out.lt)
  have k0' := hk.cell (i := 0) rfl
  have k1' := hk.cell (i := 1) rfl
  have k2' := hk.cell (i := 2) rfl
  go_wp2_with fail
  refine (gc2.out _ BW.out).mono ?_
  rintro e w8 ⟨rfl, b8⟩
  replace BW := Lib.hid (BW.out.trans (b8.mono BW.out.size))
  replace B_X0 := Lib.hid (B_X0.out.trans (b8.mono B_X0.out.size))
  replace B_X8 := Lib.hid (B_X8.out.trans (b8.mono B_X8.out.size))
  replace B_w6 := Lib.hid (B_w6.out.trans (b8.mono B_w6.out.size))
  replace B_X10 := Lib.hid (B_X10.out.trans (b8.mono B_X10.out.size))
  clear b8
  clear hk k0' k1' k2'
  have hk := (CB.out.below B_X0.out CB.out.lt)
  have k0' := hk.cell (i := 0) rfl
  have k1' := hk.cell (i := 1) rfl
  have k2' := hk.cell (i := 2) rfl
  go_wp2
  have hCB := Lib.hid (CB.out.below B_X0.out CB.out.lt)
  clear hk k0' k1' k2'
  go_loopw [13, 24, 148] (fun a e j wr => ∃ k : Nat, k ≤ x.length ∧ a = .bool true ∧ e = .bool (decide (∀ j, j < k → withinB (rk x j) pc = true)) ∧ j = .int .i64 (k : Int) ∧ Below w8.heap.size w8 wr) (fun _ _ j _ => x.length - (intOf j).toNat)
  case atStart => exact ⟨0, Nat.zero_le _, rfl, by rw [decide_eq_true (fun j h => by omega)], rfl, Below.refl _ _⟩
  case round =>
    obtain ⟨k, hk, rfl, rfl, rfl, hB⟩ := hrel
    obtain ⟨wo, hwo⟩ : ∃ x, x = wr := ⟨_, rfl⟩
    subst hwo
    have BB := Lib.hid hB
    replace BW := Lib.hid (BW.out.trans (hB.mono BW.out.size))
    clear hB
    have hCO := Lib.hid (hCB.out.below BB.out hCB.out.lt)
    obtain ⟨eb, heb⟩ : ∃ b, decide (∀ j, j < k → withinB (rk x j) pc = true) = b := ⟨_, rfl⟩
    rw [heb]
    have HEB := Lib.hid heb
    clear heb
    by_cases hlt : k < x.length
    · obtain ⟨b5, o5, rfl, hb5, hcc⟩ := HCX.out.resolve_left (by intro h; rw [h] at hlt; simp at hlt)
      obtain ⟨uu, huu, hpu⟩ := hcc k hlt
      have e0 := (BW.out.cell (p := ⟨b5, o5 + k, none⟩) hb5).trans huu
      have HPU := Lib.hid ((hpu.below BW.out).mono BW.out.size)
      obtain ⟨a6, c6, rfl⟩ := HPU.out.len
      have gg := Lib.hid (gc3.out k hlt)
      have dk : decide ((k : Int) < (x.length : Int)) = true := by rw [decide_eq_true_eq]; omega
      have kl : (k : Int) < x.length := by omega
      have k0 : (0 : Int) ≤ k := by omega
      obtain ⟨ob, hob⟩ : ∃ b, withinB (rk x k) pc = b := ⟨_, rfl⟩
      have gg' := gg.out
      rw [hob] at gg'
      replace gg := Lib.hid gg'
      have HNX := Lib.hid (show decide (∀ j, j < k + 1 → withinB (rk x j) pc = true) = (eb && ob) by
        rw [← HEB.out, ← hob, Bool.eq_iff_iff, Bool.and_eq_true, decide_eq_true_eq, decide_eq_true_eq]
        exact ⟨fun h => ⟨fun j hj => h j (by omega), h k (by omega)⟩, fun h j hj => by
          by_cases e : j = k
          · rw [e]; exact h.2
          · exact h.1 j (by omega)⟩)
      have BR := Lib.hid (Below.refl wo.heap.size wo)
      clear hcc huu hpu gg' hob
      have hk := hCO.out
      have k0' := hk.cell (i := 0) rfl
      have k1' := hk.cell (i := 1) rfl
      have k2' := hk.cell (i := 2) rfl
      go_wp2_with fail
      generalize hXX18 : World.alloc wo _ = X18
      obtain ⟨q0, hA, hzX18⟩ := box1 hXX18
      clear hXX18
      replace BW := Lib.hid (BW.out.trans (hA.mono BW.out.size))
      have BR := Lib.hid hA
      clear hA
      have QC := Lib.hid q0
      clear q0
      clear hk k0' k1' k2'
      have hk := (hCO.out.below BR.out hCO.out.lt)
      have k0' := hk.cell (i := 0) rfl
      have k1' := hk.cell (i := 1) rfl
      have k2' := hk.cell (i := 2) rfl
      clear hzX18
      refine (gg.out _ _ BW.out (RocksAt.has (ls := [rk x k]) (cap := 0) QC.out (by simp) fun j hj => by obtain rfl : j = 0 := (by simp at hj; omega); exact ⟨_, rfl, ((HPU.out.below BR.out).mono BR.out.size)⟩)).mono ?_
      rintro e w9 ⟨rfl, b9⟩
      replace BW := Lib.hid (BW.out.trans (b9.mono BW.out.size))
      replace BR := Lib.hid (BR.out.trans (b9.mono BR.out.size))
      have B_X18 := Lib.hid b9
      clear b9
      clear hk k0' k1' k2'
      have hk := (hCO.out.below BR.out hCO.out.lt)
      have k0' := hk.cell (i := 0) rfl
      have k1' := hk.cell (i := 1) rfl
      have k2' := hk.cell (i := 2) rfl
      cases eb
      · go_wp2
        go_roundw
        case rel => exact ⟨k + 1, by omega, rfl, by rw [HNX.out]; rfl, by go_num, BB.out.trans (BR.out.mono BB.out.size)⟩
        case measure => simp [intOf]; omega
      go_wp2
      go_roundw
      case rel => exact ⟨k + 1, by omega, rfl, by rw [HNX.out]; rfl, by go_num, BB.out.trans (BR.out.mono BB.out.size)⟩
      case measure => simp [intOf]; omega
    obtain rfl : k = x.length := by omega
    have jj : decide ((x.length : Int) < (x.length : Int)) = false := by simp
    have hae : al = eb := HALL.out.trans HEB.out
    subst hae
    have bb : (al == al) = true := by simp
    go_wp2
    go_ret
    exact ⟨rfl, BW.out⟩
end Go.Proofs.YtdkeiadpnnleoaaGreat.certCovers
