/- The walk of the law: With a greater Battery, a later Deadline and a lesser Start a right certificate stays right. -/
import Derived.Test.YtdkeiadpnnleoaaGreatBin31
import Derived.Test.YtdkeiadpnnleoaaGreatBin34
import Derived.Test.YtdkeiadpnnleoaaGreatBin30
import Derived.Test.YtdkeiadpnnleoaaGreatBin32
import Derived.Test.YtdkeiadpnnleoaaGreatBin35
namespace Go.Proofs.YtdkeiadpnnleoaaGreat.certMore
open Go.RowKit
attribute [local irreducible] wpQuiet


set_option linter.unusedSimpArgs false in
set_option linter.unusedVariables false in
set_option maxRecDepth 8000 in
set_option maxHeartbeats 6400000 in
theorem walk (w : World) (m : Msn) (vw vh vr : Value) (c : Crt) (vs vp ve : Value) (p q r : Int) (hm : MsnAt w.heap.size w m vw vh vr) (hc : CrtAt w.heap.size w c vs vp ve) (hp0 : (Lit.int .u16 p).wf = true) (hq0 : (Lit.int .u16 q).wf = true) (hr0 : (Lit.int .u16 r).wf = true) :
    Calls Tryz.prog 12 #[.agg (msnCells m vw vh vr), .agg #[vs, vp, ve], .int .u16 p, .int .u16 q, .int .u16 r] w fun e w' => e = .returned (.bool true) ∧ Below w.heap.size w w' := by
  obtain ⟨p, rfl, hp⟩ := u16_bd hp0
  obtain ⟨q, rfl, hq⟩ := u16_bd hq0
  obtain ⟨r, rfl, hr⟩ := u16_bd hr0
  have hd := Lib.hid (fun w1 => head36_any w1)
  have ff := fun w1 (B : Below w.heap.size w w1) => few36_any m vw vh vr c vs vp ve w1 ((hm.below B).mono B.size) ((hc.below B).mono B.size)
  have fv := fun w1 (B : Below w.heap.size w w1) => rValid31_any m vw vh vr w1 ((hm.below B).mono B.size)
  have fk := fun w1 (B : Below w.heap.size w w1) => check_any m vw vh vr c vs vp ve w1 ((hm.below B).mono B.size) ((hc.below B).mono B.size)
  have MM := Lib.hid (fun b d s => show MsnAt w.heap.size w (mdM m m.rocks b d s) vw vh vr from hm)
  have fv2 := fun b d s w1 (B : Below w.heap.size w w1) => rValid31_any (mdM m m.rocks b d s) vw vh vr w1 (((MM.out b d s).below B).mono B.size)
  have fk2 := fun b d s w1 (B : Below w.heap.size w w1) => check_any (mdM m m.rocks b d s) vw vh vr c vs vp ve w1 (((MM.out b d s).below B).mono B.size) ((hc.below B).mono B.size)
  obtain ⟨⟨hwl, a1, cap1, rfl, hcw⟩, ⟨-, a2, cap2, rfl, -⟩, ⟨hrl, a3, cap3, rfl, hcr⟩⟩ := hm
  obtain ⟨⟨hsl, aS, cS, rfl, hcs⟩, ⟨hpl, ap, cp, rfl, hcp⟩, ⟨hel, ar, cr, rfl, hce⟩⟩ := hc
  unfold msnCells at *
  clear hcw hcr hcs hcp hce hwl hrl hsl hpl hel
  simp only [mdM] at fv2 fk2
  replace ff := Lib.hid ff
  replace fv := Lib.hid fv
  replace fk := Lib.hid fk
  replace fv2 := Lib.hid fv2
  replace fk2 := Lib.hid fk2
  have BW := Lib.hid (Below.refl w.heap.size w)
  clear hp0 hq0 hr0
  go_enter Tryz.func12, Tryz.ntmps12
  go_wp2_with fail
  generalize hXX0 : World.alloc (World.alloc w _) _ = X0
  obtain ⟨q0, q1, hA, hzX0⟩ := box2 hXX0
  clear hXX0
  have BW := Lib.hid hA
  clear hA
  have MB := Lib.hid q0
  clear q0
  have CB := Lib.hid q1
  clear q1
  clear hzX0
  obtain ⟨c0, c1, c2, c3, c4, c5, c6, c7, c8, c9, c10⟩ := msn_cells (m := m) MB.out
  have ltMB := MB.out.lt
  have hk := CB.out
  have k0' := hk.cell (i := 0) rfl
  have k1' := hk.cell (i := 1) rfl
  have k2' := hk.cell (i := 2) rfl
  refine (hd.out X0).mono ?_
  rintro e w1 ⟨rfl, b1⟩
  replace BW := Lib.hid (BW.out.trans (b1.mono BW.out.size))
  have B_X0 := Lib.hid b1
  clear b1
  clear c0 c1 c2 c3 c4 c5 c6 c7 c8 c9 c10 ltMB hk k0' k1' k2'
  obtain ⟨c0, c1, c2, c3, c4, c5, c6, c7, c8, c9, c10⟩ := msn_cells (m := m) (MB.out.below B_X0.out MB.out.lt)
  have ltMB := (MB.out.below B_X0.out MB.out.lt).lt
  have hk := (CB.out.below B_X0.out CB.out.lt)
  have k0' := hk.cell (i := 0) rfl
  have k1' := hk.cell (i := 1) rfl
  have k2' := hk.cell (i := 2) rfl
  go_wp2_with fail
  refine (ff.out _ BW.out).mono ?_
  rintro e w2 ⟨rfl, b2⟩
  replace BW := Lib.hid (BW.out.trans (b2.mono BW.out.size))
  replace B_X0 := Lib.hid (B_X0.out.trans (b2.mono B_X0.out.size))
  clear b2
  clear c0 c1 c2 c3 c4 c5 c6 c7 c8 c9 c10 ltMB hk k0' k1' k2'
  obtain ⟨c0, c1, c2, c3, c4, c5, c6, c7, c8, c9, c10⟩ := msn_cells (m := m) (MB.out.below B_X0.out MB.out.lt)
  have ltMB := (MB.out.below B_X0.out MB.out.lt).lt
  have hk := (CB.out.below B_X0.out CB.out.lt)
  have k0' := hk.cell (i := 0) rfl
  have k1' := hk.cell (i := 1) rfl
  have k2' := hk.cell (i := 2) rfl
  cases hfew : fewB m && fewC c
  · skip
    go_wp2
    go_ret
    exact ⟨rfl, BW.out⟩
  obtain ⟨hfm, hfc⟩ : fewB m = true ∧ fewC c = true := by rwa [Bool.and_eq_true] at hfew
  clear hfew
  clear hfm hfc
  go_wp2_with fail
  refine (fv.out _ BW.out).mono ?_
  rintro e w3 ⟨rfl, b3⟩
  replace BW := Lib.hid (BW.out.trans (b3.mono BW.out.size))
  replace B_X0 := Lib.hid (B_X0.out.trans (b3.mono B_X0.out.size))
  clear b3
  clear c0 c1 c2 c3 c4 c5 c6 c7 c8 c9 c10 ltMB hk k0' k1' k2'
  obtain ⟨c0, c1, c2, c3, c4, c5, c6, c7, c8, c9, c10⟩ := msn_cells (m := m) (MB.out.below B_X0.out MB.out.lt)
  have ltMB := (MB.out.below B_X0.out MB.out.lt).lt
  have hk := (CB.out.below B_X0.out CB.out.lt)
  have k0' := hk.cell (i := 0) rfl
  have k1' := hk.cell (i := 1) rfl
  have k2' := hk.cell (i := 2) rfl
  cases hV : validB m
  · skip
    go_wp2
    go_ret
    exact ⟨rfl, BW.out⟩
  go_wp2_with fail
  refine (fk.out _ BW.out).mono ?_
  rintro e w4 ⟨rfl, b4⟩
  replace BW := Lib.hid (BW.out.trans (b4.mono BW.out.size))
  replace B_X0 := Lib.hid (B_X0.out.trans (b4.mono B_X0.out.size))
  clear b4
  clear c0 c1 c2 c3 c4 c5 c6 c7 c8 c9 c10 ltMB hk k0' k1' k2'
  obtain ⟨c0, c1, c2, c3, c4, c5, c6, c7, c8, c9, c10⟩ := msn_cells (m := m) (MB.out.below B_X0.out MB.out.lt)
  have ltMB := (MB.out.below B_X0.out MB.out.lt).lt
  have hk := (CB.out.below B_X0.out CB.out.lt)
  have k0' := hk.cell (i := 0) rfl
  have k1' := hk.cell (i := 1) rfl
  have k2' := hk.cell (i := 2) rfl
  by_cases hF : frmB m c = true
  rotate_left
  · have e1 : chkE m c = 1 := if_neg hF
    have e2 : chkB m c = false := by unfold chkB; rw [Bool.not_eq_true] at hF; rw [hF]; rfl
    rw [e1, e2]
    clear e1 e2 hF
    go_wp2
    go_ret
    exact ⟨rfl, BW.out⟩
  have e1 : chkE m c = 0 := if_pos hF
  rw [e1]
  clear e1
  cases hC : chkB m c
  · go_wp2
    go_ret
    exact ⟨rfl, BW.out⟩
  clear c0 c1 c2 c3 c4 c5 c6 c7 c8 c9 c10 ltMB hk k0' k1' k2'
  replace MB := Lib.hid (MB.out.below B_X0.out MB.out.lt)
  replace CB := Lib.hid (CB.out.below B_X0.out CB.out.lt)
  clear B_X0
  have V := (validB_iff m).1 hV
  have hb0 := V.battery
  have hd0 := V.deadline
  have hs0 := V.start
  have wp : IntKind.i64.wrap (p : Int) = (p : Int) := IntWalk.i64_in _ (by omega)
  have wq : IntKind.i64.wrap (q : Int) = (q : Int) := IntWalk.i64_in _ (by omega)
  have wr' : IntKind.i64.wrap (r : Int) = (r : Int) := IntWalk.i64_in _ (by omega)
  obtain ⟨b, hb⟩ : ∃ b, m.battery + (p : Int) = b := ⟨_, rfl⟩
  obtain ⟨d, hdd⟩ : ∃ d, m.deadline + (q : Int) = d := ⟨_, rfl⟩
  obtain ⟨s0, hs1⟩ : ∃ s, m.start - (r : Int) = s := ⟨_, rfl⟩
  obtain ⟨s, hs⟩ : ∃ s, max 0 s0 = s := ⟨_, rfl⟩
  have wb : IntKind.i64.wrap (m.battery + (p : Int)) = b := by rw [hb]; exact IntWalk.i64_in _ (by omega)
  have wd : IntKind.i64.wrap (m.deadline + (q : Int)) = d := by rw [hdd]; exact IntWalk.i64_in _ (by omega)
  have ws : IntKind.i64.wrap (m.start - (r : Int)) = s0 := by rw [hs1]; exact IntWalk.i64_in _ (by omega)
  have L0 := Lib.hid (fun h : validB (mdM m m.rocks b d s) = true => md_check m m.rocks b d s (fun _ _ h => h) (by omega) (by omega) (by omega) h c hC)
  have L1 := L0.out
  simp only [mdM] at L1
  replace L0 := Lib.hid L1
  have gv := fv2.out b d s
  have gk := fk2.out b d s
  replace gv := Lib.hid gv
  replace gk := Lib.hid gk
  clear V hV hF hC fv2 fk2 L1 hb0 hd0 hs0 hb hdd hs1
  have hMB := MB.out
  have e2 := hMB.cell (i := 2) rfl
  have e9 := hMB.cell (i := 9) rfl
  have e10 := hMB.cell (i := 10) rfl
  have z2 := cells_free hMB 2
  have z9 := cells_free hMB 9
  have z10 := cells_free hMB 10
  have ltM := hMB.lt
  have HM := Lib.hid hMB
  clear hMB
  go_upto_region 8 with fail
  clear e2 e9 e10 z2 z9 z10
  generalize hZ : World.setCell (World.setCell (World.setCell w4 _ _) _ _) _ _ = Z
  have HZ := ((HM.out.set 9 (.int .i64 b)).set 10 (.int .i64 d)).set 2 (.int .i64 s)
  have BZ := ((BW.out.setCell (p := ⟨w.heap.size, 9, none⟩) (Nat.le_refl _) (.int .i64 b)).setCell (p := ⟨w.heap.size, 10, none⟩) (Nat.le_refl _) (.int .i64 d)).setCell (p := ⟨w.heap.size, 2, none⟩) (Nat.le_refl _) (.int .i64 s)
  have hne : w.heap.size + 1 ≠ w.heap.size := by omega
  have HC2 : Has Z (w.heap.size + 1) _ _ := (by rw [← hZ]; iterate 3 (rw [Below.heap_setCell _ _ _ _ (by exact hne)]) : Z.heap[w.heap.size + 1]? = w4.heap[w.heap.size + 1]?).trans CB.out
  rw [hZ] at HZ BZ
  clear hZ
  simp only [List.setIfInBounds_toArray, List.set_cons_zero, List.set_cons_succ] at HZ
  replace BW := Lib.hid BZ
  replace MB := Lib.hid HZ
  replace CB := Lib.hid HC2
  clear BZ HZ HC2 HM hne ltM
  obtain ⟨c0, c1, c2, c3, c4, c5, c6, c7, c8, c9, c10⟩ := msn_cells (m := { m with battery := b, deadline := d, start := s }) MB.out
  have ltMB := MB.out.lt
  have hk := CB.out
  have k0' := hk.cell (i := 0) rfl
  have k1' := hk.cell (i := 1) rfl
  have k2' := hk.cell (i := 2) rfl
  go_wp2_with fail
  refine (gv.out _ BW.out).mono ?_
  rintro e w5 ⟨rfl, b5⟩
  replace BW := Lib.hid (BW.out.trans (b5.mono BW.out.size))
  have B_Z := Lib.hid b5
  clear b5
  clear c0 c1 c2 c3 c4 c5 c6 c7 c8 c9 c10 ltMB hk k0' k1' k2'
  obtain ⟨c0, c1, c2, c3, c4, c5, c6, c7, c8, c9, c10⟩ := msn_cells (m := { m with battery := b, deadline := d, start := s }) (MB.out.below B_Z.out MB.out.lt)
  have ltMB := (MB.out.below B_Z.out MB.out.lt).lt
  have hk := (CB.out.below B_Z.out CB.out.lt)
  have k0' := hk.cell (i := 0) rfl
  have k1' := hk.cell (i := 1) rfl
  have k2' := hk.cell (i := 2) rfl
  generalize hVg : validB _ = bv
  cases bv
  · skip
    go_wp2
    go_ret
    exact ⟨rfl, BW.out⟩
  obtain ⟨l1, l2⟩ := L0.out hVg
  have gk' := gk.out
  rw [l1, l2] at gk'
  replace gk := Lib.hid gk'
  clear gk' l1 l2 hVg
  go_wp2_with fail
  refine (gk.out _ BW.out).mono ?_
  rintro e w6 ⟨rfl, b6⟩
  replace BW := Lib.hid (BW.out.trans (b6.mono BW.out.size))
  replace B_Z := Lib.hid (B_Z.out.trans (b6.mono B_Z.out.size))
  clear b6
  clear c0 c1 c2 c3 c4 c5 c6 c7 c8 c9 c10 ltMB hk k0' k1' k2'
  obtain ⟨c0, c1, c2, c3, c4, c5, c6, c7, c8, c9, c10⟩ := msn_cells (m := { m with battery := b, deadline := d, start := s }) (MB.out.below B_Z.out MB.out.lt)
  have ltMB := (MB.out.below B_Z.out MB.out.lt).lt
  have hk := (CB.out.below B_Z.out CB.out.lt)
  have k0' := hk.cell (i := 0) rfl
  have k1' := hk.cell (i := 1) rfl
  have k2' := hk.cell (i := 2) rfl
  go_wp2
  go_ret
  exact ⟨rfl, BW.out⟩
end Go.Proofs.YtdkeiadpnnleoaaGreat.certMore
