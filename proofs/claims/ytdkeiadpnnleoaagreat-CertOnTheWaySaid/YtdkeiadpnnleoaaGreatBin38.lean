/- The walk of the law: Each place on the straight way between places of both circles of a right certificate's passage is covered by its Corridor, and .. -/
import Derived.Test.YtdkeiadpnnleoaaGreatBin32
import Derived.Test.YtdkeiadpnnleoaaGreatBin35
import Derived.Test.YtdkeiadpnnleoaaGreatBin30
import Derived.Test.YtdkeiadpnnleoaaGreatBin36
import Derived.Test.YtdkeiadpnnleoaaGreatBin15
import Derived.Test.YtdkeiadpnnleoaaGreatBin25
import Derived.Test.YtdkeiadpnnleoaaGreatBin33
import Derived.Test.YtdkeiadpnnleoaaGreatBin37
namespace Go.Proofs.YtdkeiadpnnleoaaGreat.certOnTheWay
open Go.RowKit
attribute [local irreducible] wpQuiet
theorem chk_split {m : Msn} {c : Crt} (h : chkB m c = true) : frmB m c = true ∧ ∀ i,i < c.psg.length → lgB m c i = true:=by
  unfold chkB at h
  rwa [Bool.and_eq_true,decide_eq_true_eq] at h
theorem way_place {m : Msn} (V : VMsn m) {k : Nat} (hk : k < m.ways.length) : placeP (atW m k) = true:=by
  have:=atW_near V hk
  unfold placeP placeB
  rw [decide_eq_true_eq]
  omega
theorem rocks_at {m : Msn} (V : VMsn m) {j : Nat} (hj : j < m.rocks.length) : goValid (rk m.rocks j) = true:=by
  have h:=V.rocks
  unfold rocksB at h
  exact of_decide_eq_true h j hj
theorem one_in {c : Crt} {i : Nat} (hi : i < c.psg.length) (hgv : goValid (pgd c.psg i).cor = true) {z : Pt} (pz : placeP z = true) (hz : hasB (pgd c.psg i).cor z = true) : cvB c i [[z]] = true ∧ cvE c i [[z]] = 0:=by
  have h1 : goValid [z] = true:=by rw [goValid_one]; exact pz
  obtain ⟨t1,t2⟩:=cv_one (c:=c) (i:=i) hi hgv h1
  refine ⟨?_,t2⟩
  rw [t1]
  exact within_of h1 hgv fun k hk => by obtain rfl : k = 0:=(by simp at hk; omega); exact hz
theorem tri_bd {x y z k n M : Int} (hn : 0 < n) (hk : 0 ≤ k) (hkn : k ≤ n) (e : n * z = (n - k) * x + k * y) (x1 : -M ≤ x) (x2 : x ≤ M) (y1 : -M ≤ y) (y2 : y ≤ M) : -M ≤ z ∧ z ≤ M:=by
  have a1 : (n - k) * x ≤ (n - k) * M:=Int.mul_le_mul_of_nonneg_left x2 (by omega)
  have a2 : k * y ≤ k * M:=Int.mul_le_mul_of_nonneg_left y2 hk
  have a3 : (n - k) * -M ≤ (n - k) * x:=Int.mul_le_mul_of_nonneg_left x1 (by omega)
  have a4 : k * -M ≤ k * y:=Int.mul_le_mul_of_nonneg_left y1 hk
  have e1 : (n - k) * M + k * M = n * M:=by rw [← Int.add_mul]; congr 1; omega
  have e2 : (n - k) * -M + k * -M = n * -M:=by rw [← Int.add_mul]; congr 1; omega
  exact ⟨Int.le_of_mul_le_mul_left (by omega : n * -M ≤ n * z) hn,Int.le_of_mul_le_mul_left (by omega : n * z ≤ n * M) hn⟩
theorem step_eq {a b k n q : Int} (h : ((b - a) * k).tmod n = 0) (hq : ((b - a) * k).tdiv n = q) : n * (a + q) = (n - k) * a + k * b:=by
  have e:=Int.mul_tdiv_add_tmod ((b - a) * k) n
  rw [h,hq,Int.add_zero] at e
  rw [Int.mul_add,e,Int.sub_mul,Int.sub_mul]
  have : a * k = k * a:=Int.mul_comm _ _
  have : b * k = k * b:=Int.mul_comm _ _
  omega
theorem onway_law {m : Msn} {c : Crt} {i : Nat} (V : VMsn m) (_hi : i + 1 < m.ways.length) (hgv : goValid (pgd c.psg i).cor = true) (h4 : lg4 m c i = true) {x y z : Pt} {k n : Nat} (hn : 0 < n) (hkn : k ≤ n) (hx : placeP x = true) (hy : placeP y = true)
    (ex : (n : Int) * z.x = ((n : Int) - k) * x.x + k * y.x) (ey : (n : Int) * z.y = ((n : Int) - k) * x.y + k * y.y)
    (nx : (x.x - (atW m i).x) * (x.x - (atW m i).x) + (x.y - (atW m i).y) * (x.y - (atW m i).y) ≤ (pgd c.psg i).fr * (pgd c.psg i).fr) (ny : (y.x - (atW m (i + 1)).x) * (y.x - (atW m (i + 1)).x) + (y.y - (atW m (i + 1)).y) * (y.y - (atW m (i + 1)).y) ≤ (pgd c.psg i).tw * (pgd c.psg i).tw) :
    placeP z = true ∧ hasB (pgd c.psg i).cor z = true ∧ ∀ j,j < m.rocks.length → inside (rk m.rocks j) z = false:=by
  have px:=placeB_true hx
  have py:=placeB_true hy
  have b1:=tri_bd (M:=500000) (by omega) (by omega) (by omega) ex px.1 px.2.1 py.1 py.2.1
  have b2:=tri_bd (M:=500000) (by omega) (by omega) (by omega) ey px.2.2.1 px.2.2.2 py.2.2.1 py.2.2.2
  have pz : placeP z = true:=by unfold placeP placeB; rw [decide_eq_true_eq]; omega
  unfold lg4 at h4
  simp only [Bool.and_eq_true,decide_eq_true_eq,Bool.not_eq_true'] at h4
  obtain ⟨h0,hw,hf⟩:=h4
  have hin:=cor_straight h0 (p:=⟨x.x - (atW m i).x,x.y - (atW m i).y⟩) (q:=⟨y.x - (atW m (i + 1)).x,y.y - (atW m (i + 1)).y⟩) nx ny (s:=(n : Int) - k) (t:=k) (x:=z.x) (y:=z.y) (by omega) (by omega) (by omega)
    (by show ((n : Int) - k + k) * z.x = ((n : Int) - k) * ((atW m i).x + (x.x - (atW m i).x)) + k * ((atW m (i + 1)).x + (y.x - (atW m (i + 1)).x)); rw [show (n : Int) - k + k = n by omega,show (atW m i).x + (x.x - (atW m i).x) = x.x by omega,show (atW m (i + 1)).x + (y.x - (atW m (i + 1)).x) = y.x by omega]; exact ex)
    (by show ((n : Int) - k + k) * z.y = ((n : Int) - k) * ((atW m i).y + (x.y - (atW m i).y)) + k * ((atW m (i + 1)).y + (y.y - (atW m (i + 1)).y)); rw [show (n : Int) - k + k = n by omega,show (atW m i).y + (x.y - (atW m i).y) = x.y by omega,show (atW m (i + 1)).y + (y.y - (atW m (i + 1)).y) = y.y by omega]; exact ey)
  have e2 : corL (atW m i) (pgd c.psg i).fr (atW m (i + 1)) (pgd c.psg i).tw = corH (atW m i) (pgd c.psg i).fr.toNat (atW m (i + 1)) (pgd c.psg i).tw.toNat:=if_pos h0
  rw [← e2] at hin
  obtain ⟨go,-,-⟩:=within_split hw
  have ho : GoValid (corL (atW m i) (pgd c.psg i).fr (atW m (i + 1)) (pgd c.psg i).tw):=by simpa [goValid] using go
  have hz : hasB (pgd c.psg i).cor z = true:=within_has hw ((hasB_iff ho pz).2 (inside_of_inH ho.1 hin))
  refine ⟨pz,hz,fun j hj => ?_⟩
  have hr : goValid (rk m.rocks j) = true:=rocks_at V hj
  have ht : touchB (pgd c.psg i).cor (rk m.rocks j) = false:=by
    have ok : okRocks (pgd c.psg i).cor m.rocks = true:=by unfold okRocks; rw [hgv,Bool.true_and]; exact V.rocks
    have h2:=hf
    unfold firB at h2
    rw [if_pos ⟨V.nr,ok⟩] at h2
    exact (hit_none _).1 h2 j hj
  have h3:=clear_has hgv hr ht hz
  have gr : GoValid (rk m.rocks j):=by simpa [goValid] using hr
  cases hc : inside (rk m.rocks j) z
  · rfl
  · rw [(hasB_iff gr pz).2 hc] at h3; cases h3
set_option linter.unusedSimpArgs false in
set_option linter.unusedVariables false in
set_option maxRecDepth 8000 in
set_option maxHeartbeats 6400000 in
theorem walk (w : World) (m : Msn) (vw vh vr : Value) (c : Crt) (vs vp ve : Value) (g xx xy yx yy kk nn : Int) (hm : MsnAt w.heap.size w m vw vh vr) (hc : CrtAt w.heap.size w c vs vp ve) (hg0 : (Lit.int .u8 g).wf = true) (hk0 : (Lit.int .u8 kk).wf = true) (hn0 : (Lit.int .u8 nn).wf = true) :
    Calls Tryz.prog 8 #[.agg (msnCells m vw vh vr),.agg #[vs,vp,ve],.int .u8 g,.agg #[.int .i64 xx,.int .i64 xy],.agg #[.int .i64 yx,.int .i64 yy],.int .u8 kk,.int .u8 nn] w fun e w' => e = .returned (.bool true) ∧ Below w.heap.size w w':=by
  obtain ⟨g,rfl,hg⟩:=u8_bd hg0
  obtain ⟨kk,rfl,hkk⟩:=u8_bd hk0
  obtain ⟨nn,rfl,hnn⟩:=u8_bd hn0
  have hd:=Lib.hid (fun w1 => head36_any w1)
  have ff:=fun w1 (B : Below w.heap.size w w1) => few36_any m vw vh vr c vs vp ve w1 ((hm.below B).mono B.size) ((hc.below B).mono B.size)
  have fv:=fun w1 (B : Below w.heap.size w w1) => rValid31_any m vw vh vr w1 ((hm.below B).mono B.size)
  have fk:=fun w1 (B : Below w.heap.size w w1) => check_any m vw vh vr c vs vp ve w1 ((hm.below B).mono B.size) ((hc.below B).mono B.size)
  have fx:=fun w1 => rplace_any xx xy w1
  have fy:=fun w1 => rplace_any yx yy w1
  have fc:=fun (i : Int) vr' r w1 (B : Below w.heap.size w w1) h => covers_any c vs vp ve vr' i r w1 ((hc.below B).mono B.size) h
  obtain ⟨⟨hwl,a1,cap1,rfl,hcw⟩,⟨-,a2,cap2,rfl,-⟩,⟨hrl,a3,cap3,rfl,hcr⟩⟩:=hm
  obtain ⟨⟨hsl,aS,cS,rfl,hcs⟩,⟨hpl,ap,cp,rfl,hcp⟩,⟨hel,ar,cr,rfl,hce⟩⟩:=hc
  unfold msnCells at *
  have HCW:=Lib.hid hcw
  have HCP:=Lib.hid hcp
  have HCR:=Lib.hid hcr
  clear hcw hcr hcs hcp hce hwl hrl hsl hel
  replace ff:=Lib.hid ff
  replace fv:=Lib.hid fv
  replace fk:=Lib.hid fk
  replace fx:=Lib.hid fx
  replace fy:=Lib.hid fy
  replace fc:=Lib.hid fc
  have BW:=Lib.hid (Below.refl w.heap.size w)
  clear hg0 hk0 hn0
  go_enter Tryz.func8,Tryz.ntmps8
  go_wp2_with fail
  generalize hXX0 : World.alloc (World.alloc (World.alloc (World.alloc w _) _) _) _ = X0
  obtain ⟨q0,q1,q2,q3,hA,hzX0⟩:=box4 hXX0
  clear hXX0
  have BW:=Lib.hid hA
  clear hA
  have MB:=Lib.hid q0
  clear q0
  have CB:=Lib.hid q1
  clear q1
  have XB:=Lib.hid q2
  clear q2
  have YB:=Lib.hid q3
  clear q3
  clear hzX0
  obtain ⟨c0,c1,c2,c3,c4,c5,c6,c7,c8,c9,c10⟩:=msn_cells (m:=m) MB.out
  have ltMB:=MB.out.lt
  have hk:=CB.out
  have k0':=hk.cell (i:=0) rfl
  have k1':=hk.cell (i:=1) rfl
  have k2':=hk.cell (i:=2) rfl
  have hx:=XB.out
  have x0':=hx.cell (i:=0) rfl
  have x1':=hx.cell (i:=1) rfl
  have hy:=YB.out
  have y0':=hy.cell (i:=0) rfl
  have y1':=hy.cell (i:=1) rfl
  refine (hd.out X0).mono ?_
  rintro e w1 ⟨rfl,b1⟩
  replace BW:=Lib.hid (BW.out.trans (b1.mono BW.out.size))
  have B_X0:=Lib.hid b1
  clear b1
  clear c0 c1 c2 c3 c4 c5 c6 c7 c8 c9 c10 ltMB hk k0' k1' k2' hx x0' x1' hy y0' y1'
  obtain ⟨c0,c1,c2,c3,c4,c5,c6,c7,c8,c9,c10⟩:=msn_cells (m:=m) (MB.out.below B_X0.out MB.out.lt)
  have ltMB:=(MB.out.below B_X0.out MB.out.lt).lt
  have hk:=(CB.out.below B_X0.out CB.out.lt)
  have k0':=hk.cell (i:=0) rfl
  have k1':=hk.cell (i:=1) rfl
  have k2':=hk.cell (i:=2) rfl
  have hx:=(XB.out.below B_X0.out XB.out.lt)
  have x0':=hx.cell (i:=0) rfl
  have x1':=hx.cell (i:=1) rfl
  have hy:=(YB.out.below B_X0.out YB.out.lt)
  have y0':=hy.cell (i:=0) rfl
  have y1':=hy.cell (i:=1) rfl
  go_wp2_with fail
  refine (ff.out _ BW.out).mono ?_
  rintro e w2 ⟨rfl,b2⟩
  replace BW:=Lib.hid (BW.out.trans (b2.mono BW.out.size))
  replace B_X0:=Lib.hid (B_X0.out.trans (b2.mono B_X0.out.size))
  clear b2
  clear c0 c1 c2 c3 c4 c5 c6 c7 c8 c9 c10 ltMB hk k0' k1' k2' hx x0' x1' hy y0' y1'
  obtain ⟨c0,c1,c2,c3,c4,c5,c6,c7,c8,c9,c10⟩:=msn_cells (m:=m) (MB.out.below B_X0.out MB.out.lt)
  have ltMB:=(MB.out.below B_X0.out MB.out.lt).lt
  have hk:=(CB.out.below B_X0.out CB.out.lt)
  have k0':=hk.cell (i:=0) rfl
  have k1':=hk.cell (i:=1) rfl
  have k2':=hk.cell (i:=2) rfl
  have hx:=(XB.out.below B_X0.out XB.out.lt)
  have x0':=hx.cell (i:=0) rfl
  have x1':=hx.cell (i:=1) rfl
  have hy:=(YB.out.below B_X0.out YB.out.lt)
  have y0':=hy.cell (i:=0) rfl
  have y1':=hy.cell (i:=1) rfl
  cases hfew : fewB m && fewC c
  · skip
    go_wp2
    go_ret
    exact ⟨rfl,BW.out⟩
  obtain ⟨hfm,hfc⟩ : fewB m = true ∧ fewC c = true:=by rwa [Bool.and_eq_true] at hfew
  clear hfew
  clear hfm hfc
  go_wp2_with fail
  refine (fv.out _ BW.out).mono ?_
  rintro e w3 ⟨rfl,b3⟩
  replace BW:=Lib.hid (BW.out.trans (b3.mono BW.out.size))
  replace B_X0:=Lib.hid (B_X0.out.trans (b3.mono B_X0.out.size))
  clear b3
  clear c0 c1 c2 c3 c4 c5 c6 c7 c8 c9 c10 ltMB hk k0' k1' k2' hx x0' x1' hy y0' y1'
  obtain ⟨c0,c1,c2,c3,c4,c5,c6,c7,c8,c9,c10⟩:=msn_cells (m:=m) (MB.out.below B_X0.out MB.out.lt)
  have ltMB:=(MB.out.below B_X0.out MB.out.lt).lt
  have hk:=(CB.out.below B_X0.out CB.out.lt)
  have k0':=hk.cell (i:=0) rfl
  have k1':=hk.cell (i:=1) rfl
  have k2':=hk.cell (i:=2) rfl
  have hx:=(XB.out.below B_X0.out XB.out.lt)
  have x0':=hx.cell (i:=0) rfl
  have x1':=hx.cell (i:=1) rfl
  have hy:=(YB.out.below B_X0.out YB.out.lt)
  have y0':=hy.cell (i:=0) rfl
  have y1':=hy.cell (i:=1) rfl
  cases hV : validB m
  · skip
    go_wp2
    go_ret
    exact ⟨rfl,BW.out⟩
  go_wp2_with fail
  refine (fx.out w3).mono ?_
  rintro e w4 ⟨rfl,b4⟩
  replace BW:=Lib.hid (BW.out.trans (b4.mono BW.out.size))
  replace B_X0:=Lib.hid (B_X0.out.trans (b4.mono B_X0.out.size))
  clear b4
  clear c0 c1 c2 c3 c4 c5 c6 c7 c8 c9 c10 ltMB hk k0' k1' k2' hx x0' x1' hy y0' y1'
  obtain ⟨c0,c1,c2,c3,c4,c5,c6,c7,c8,c9,c10⟩:=msn_cells (m:=m) (MB.out.below B_X0.out MB.out.lt)
  have ltMB:=(MB.out.below B_X0.out MB.out.lt).lt
  have hk:=(CB.out.below B_X0.out CB.out.lt)
  have k0':=hk.cell (i:=0) rfl
  have k1':=hk.cell (i:=1) rfl
  have k2':=hk.cell (i:=2) rfl
  have hx:=(XB.out.below B_X0.out XB.out.lt)
  have x0':=hx.cell (i:=0) rfl
  have x1':=hx.cell (i:=1) rfl
  have hy:=(YB.out.below B_X0.out YB.out.lt)
  have y0':=hy.cell (i:=0) rfl
  have y1':=hy.cell (i:=1) rfl
  cases hPx : placeB xx xy
  · skip
    go_wp2
    go_ret
    exact ⟨rfl,BW.out⟩
  go_wp2_with fail
  refine (fy.out w4).mono ?_
  rintro e w5 ⟨rfl,b5⟩
  replace BW:=Lib.hid (BW.out.trans (b5.mono BW.out.size))
  replace B_X0:=Lib.hid (B_X0.out.trans (b5.mono B_X0.out.size))
  clear b5
  clear c0 c1 c2 c3 c4 c5 c6 c7 c8 c9 c10 ltMB hk k0' k1' k2' hx x0' x1' hy y0' y1'
  obtain ⟨c0,c1,c2,c3,c4,c5,c6,c7,c8,c9,c10⟩:=msn_cells (m:=m) (MB.out.below B_X0.out MB.out.lt)
  have ltMB:=(MB.out.below B_X0.out MB.out.lt).lt
  have hk:=(CB.out.below B_X0.out CB.out.lt)
  have k0':=hk.cell (i:=0) rfl
  have k1':=hk.cell (i:=1) rfl
  have k2':=hk.cell (i:=2) rfl
  have hx:=(XB.out.below B_X0.out XB.out.lt)
  have x0':=hx.cell (i:=0) rfl
  have x1':=hx.cell (i:=1) rfl
  have hy:=(YB.out.below B_X0.out YB.out.lt)
  have y0':=hy.cell (i:=0) rfl
  have y1':=hy.cell (i:=1) rfl
  cases hPy : placeB yx yy
  · skip
    go_wp2
    go_ret
    exact ⟨rfl,BW.out⟩
  by_cases hnz : nn = 0
  · skip
    subst hnz
    have d : (((0 : Nat) : Int) == 0) = true:=rfl
    go_wp2
    go_ret
    exact ⟨rfl,BW.out⟩
  have dn0 : ((nn : Int) == 0) = false:=by rw [beq_eq_false_iff_ne]; omega
  by_cases hkn : kk ≤ nn
  rotate_left
  · skip
    have d1 : decide ((kk : Int) > (nn : Int)) = true:=by rw [decide_eq_true_eq]; omega
    have d2 : decide ((nn : Int) < (kk : Int)) = true:=by rw [decide_eq_true_eq]; omega
    have d3 : decide (nn < kk) = true:=by rw [decide_eq_true_eq]; omega
    go_wp2
    go_ret
    exact ⟨rfl,BW.out⟩
  have d1 : decide ((kk : Int) > (nn : Int)) = false:=by rw [decide_eq_false_iff_not]; omega
  have d2 : decide ((nn : Int) < (kk : Int)) = false:=by rw [decide_eq_false_iff_not]; omega
  have d3 : decide (nn < kk) = false:=by rw [decide_eq_false_iff_not]; omega
  go_wp2_with fail
  refine (fk.out _ BW.out).mono ?_
  rintro e w6 ⟨rfl,b6⟩
  replace BW:=Lib.hid (BW.out.trans (b6.mono BW.out.size))
  replace B_X0:=Lib.hid (B_X0.out.trans (b6.mono B_X0.out.size))
  clear b6
  clear c0 c1 c2 c3 c4 c5 c6 c7 c8 c9 c10 ltMB hk k0' k1' k2' hx x0' x1' hy y0' y1'
  obtain ⟨c0,c1,c2,c3,c4,c5,c6,c7,c8,c9,c10⟩:=msn_cells (m:=m) (MB.out.below B_X0.out MB.out.lt)
  have ltMB:=(MB.out.below B_X0.out MB.out.lt).lt
  have hk:=(CB.out.below B_X0.out CB.out.lt)
  have k0':=hk.cell (i:=0) rfl
  have k1':=hk.cell (i:=1) rfl
  have k2':=hk.cell (i:=2) rfl
  have hx:=(XB.out.below B_X0.out XB.out.lt)
  have x0':=hx.cell (i:=0) rfl
  have x1':=hx.cell (i:=1) rfl
  have hy:=(YB.out.below B_X0.out YB.out.lt)
  have y0':=hy.cell (i:=0) rfl
  have y1':=hy.cell (i:=1) rfl
  by_cases hF : frmB m c = true
  rotate_left
  · have e1 : chkE m c = 1:=if_neg hF
    have e2 : chkB m c = false:=by unfold chkB; rw [Bool.not_eq_true] at hF; rw [hF]; rfl
    rw [e1,e2]
    clear e1 e2 hF
    go_wp2
    go_ret
    exact ⟨rfl,BW.out⟩
  have e1 : chkE m c = 0:=if_pos hF
  rw [e1]
  clear e1
  cases hC : chkB m c
  · go_wp2
    go_ret
    exact ⟨rfl,BW.out⟩
  clear d1 d2 d3 dn0
  have V:=(validB_iff m).1 hV
  obtain ⟨hok,hl1,hl2,hal⟩:=frm_split hF
  obtain ⟨-,hleg⟩:=chk_split hC
  obtain ⟨n,hn⟩ : ∃ n,c.psg.length = n:=⟨_,rfl⟩
  have hn1 : n + 1 = m.ways.length:=by have:=V.n2; omega
  have hn41:=V.n41
  have n0 : 0 < n:=by have:=V.n2; omega
  have jw : IntKind.i64.wrap ((m.ways.length : Int) - 1) = (n : Int):=by rw [show (m.ways.length : Int) - 1 = (n : Int) by omega]; exact IntWalk.i64_in _ (by omega)
  have dnn : ((n : Int) == (n : Int)) = true:=by simp
  have jg : IntKind.i64.wrap (g : Int) = (g : Int):=IntWalk.i64_in _ (by omega)
  have jk : IntKind.i64.wrap (kk : Int) = (kk : Int):=IntWalk.i64_in _ (by omega)
  have jn : IntKind.i64.wrap (nn : Int) = (nn : Int):=IntWalk.i64_in _ (by omega)
  obtain ⟨i,hi,hin,-⟩:=mod_at (i:=g) (n:=n) n0
  have dz : ((n : Int) == 0) = false:=by rw [beq_eq_false_iff_ne]; omega
  have nz : ¬ ((n : Int) = 0):=by omega
  have ji : IntKind.i64.wrap (i : Int) = (i : Int):=IntWalk.i64_in _ (by omega)
  have hi1 : i + 1 < m.ways.length:=by omega
  obtain ⟨b,o,rfl,hb,hcp⟩:=HCP.out.resolve_left (by intro h; rw [h] at hn; simp at hn; omega)
  obtain ⟨vc,x0,hvc,x1,x2,x3,x4⟩:=hcp i (by omega)
  obtain ⟨hgv,r1,r2,r3,r4,-⟩:=okP_split (hal i (by omega))
  have h4 : lg4 m c i = true:=by have:=hleg i (by omega); unfold lgB at this; simp only [Bool.and_eq_true] at this; exact this.2.2.2
  obtain ⟨zx,hzx⟩ : ∃ z,xx + ((yx - xx) * (kk : Int)).tdiv (nn : Int) = z:=⟨_,rfl⟩
  obtain ⟨zy,hzy⟩ : ∃ z,xy + ((yy - xy) * (kk : Int)).tdiv (nn : Int) = z:=⟨_,rfl⟩
  obtain ⟨ob,hob⟩ : ∃ b,(decide (((yx - xx) * (kk : Int)).tmod (nn : Int) = 0) && decide (((yy - xy) * (kk : Int)).tmod (nn : Int) = 0)) = b:=⟨_,rfl⟩
  have fo:=fun w1 => on36_any ⟨xx,xy⟩ ⟨yx,yy⟩ kk nn w1 hPx hPy (by omega) (by omega) (by omega)
  simp only [hzx,hzy,hob] at fo
  have fn1:=fun w1 => near36_any ⟨xx,xy⟩ (atW m i) (pgd c.psg i).fr w1 hPx (way_place V (by omega)) r1
  have fn2:=fun w1 => near36_any ⟨yx,yy⟩ (atW m (i + 1)) (pgd c.psg i).tw w1 hPy (way_place V hi1) r2
  obtain ⟨b1,hb1⟩ : ∃ b,decide ((xx - (atW m i).x) * (xx - (atW m i).x) + (xy - (atW m i).y) * (xy - (atW m i).y) ≤ (pgd c.psg i).fr * (pgd c.psg i).fr) = b:=⟨_,rfl⟩
  obtain ⟨b2,hb2⟩ : ∃ b,decide ((yx - (atW m (i + 1)).x) * (yx - (atW m (i + 1)).x) + (yy - (atW m (i + 1)).y) * (yy - (atW m (i + 1)).y) ≤ (pgd c.psg i).tw * (pgd c.psg i).tw) = b:=⟨_,rfl⟩
  simp only [hb1] at fn1
  simp only [hb2] at fn2
  have L : b1 = true → b2 = true → ob = true → placeP ⟨zx,zy⟩ = true ∧ (cvB c i [[⟨zx,zy⟩]] = true ∧ cvE c i [[⟨zx,zy⟩]] = 0) ∧ ∀ j,j < m.rocks.length → inside (rk m.rocks j) ⟨zx,zy⟩ = false:=fun h1 h2 h3 => by
    have h3':=hob.trans h3
    rw [Bool.and_eq_true,decide_eq_true_eq,decide_eq_true_eq] at h3'
    obtain ⟨l1,l2,l3⟩:=onway_law V hi1 hgv h4 (x:=⟨xx,xy⟩) (y:=⟨yx,yy⟩) (z:=⟨zx,zy⟩) (k:=kk) (n:=nn) (by omega) hkn hPx hPy (by rw [← hzx]; exact step_eq h3'.1 rfl) (by rw [← hzy]; exact step_eq h3'.2 rfl) (of_decide_eq_true (hb1.trans h1)) (of_decide_eq_true (hb2.trans h2))
    exact ⟨l1,one_in (by omega) hgv l1 l2,l3⟩
  replace L:=Lib.hid L
  have HGV:=Lib.hid (fun j (hj : j < m.rocks.length) => (show GoValid (rk m.rocks j) by have h:=rocks_at V hj; simpa [goValid] using h))
  have xl32 : m.rocks.length ≤ 100:=V.nr
  unfold atW at fn1 fn2
  obtain ⟨bw,ow,rfl,hbw,hcw⟩:=HCW.out.resolve_left (by intro h; rw [h] at hi1; simp at hi1)
  obtain ⟨y1,y2,-⟩:=hcw i (by omega)
  obtain ⟨y3,y4,-⟩:=hcw (i + 1) hi1
  obtain ⟨au,cu,rfl⟩:=hvc.len
  have HY:=Lib.hid (And.intro y1 (And.intro y2 (And.intro y3 y4)))
  simp only at fn1 fn2
  generalize (wy m.ways i).x = px at *
  generalize (wy m.ways i).y = py at *
  generalize (wy m.ways (i + 1)).x = qx at *
  generalize (wy m.ways (i + 1)).y = qy at *
  clear hzx hzy hob hb1 hb2 hPx hPy
  obtain ⟨⟨pc,fr,tw,tm,en⟩,hpp⟩ : ∃ p,pgd c.psg i = p:=⟨_,rfl⟩
  simp only [hpp] at x1 x2 x3 x4 r1 r2 fn1 fn2
  replace fo:=Lib.hid fo
  replace fn1:=Lib.hid fn1
  replace fn2:=Lib.hid fn2
  have ii1 : IntKind.i64.wrap ((i : Int) + 1) = ((i + 1 : Nat) : Int):=by rw [show (i : Int) + 1 = ((i + 1 : Nat) : Int) by omega]; exact IntWalk.i64_in _ (by omega)
  have il : (i : Int) < m.ways.length:=by omega
  have il1 : (i : Int) + 1 < m.ways.length:=by omega
  have il2 : ((i + 1 : Nat) : Int) < m.ways.length:=by omega
  have i0 : (0 : Int) ≤ i:=by omega
  have i1 : (0 : Int) ≤ (i : Int) + 1:=by omega
  have inn : (i : Int) < (n : Int):=by omega
  have HI:=Lib.hid hi
  rw [hn] at *
  clear V hok hl1 hl2 hal hleg hcp hgv h4 hcw hvc y1 y2 y3 y4 hV hF hC hpp r3 r4
  clear c0 c1 c2 c3 c4 c5 c6 c7 c8 c9 c10 ltMB hk k0' k1' k2' hx x0' x1' hy y0' y1'
  obtain ⟨c0,c1,c2,c3,c4,c5,c6,c7,c8,c9,c10⟩:=msn_cells (m:=m) (MB.out.below B_X0.out MB.out.lt)
  have ltMB:=(MB.out.below B_X0.out MB.out.lt).lt
  have hk:=(CB.out.below B_X0.out CB.out.lt)
  have k0':=hk.cell (i:=0) rfl
  have k1':=hk.cell (i:=1) rfl
  have k2':=hk.cell (i:=2) rfl
  have hx:=(XB.out.below B_X0.out XB.out.lt)
  have x0':=hx.cell (i:=0) rfl
  have x1':=hx.cell (i:=1) rfl
  have hy:=(YB.out.below B_X0.out YB.out.lt)
  have y0':=hy.cell (i:=0) rfl
  have y1':=hy.cell (i:=1) rfl
  replace x0:=(BW.out.cell (p:=⟨b,o + i * 5,none⟩) hb).trans x0
  replace x1:=(BW.out.cell (p:=⟨b,o + i * 5 + 1,none⟩) hb).trans x1
  replace x2:=(BW.out.cell (p:=⟨b,o + i * 5 + 2,none⟩) hb).trans x2
  replace x3:=(BW.out.cell (p:=⟨b,o + i * 5 + 3,none⟩) hb).trans x3
  replace x4:=(BW.out.cell (p:=⟨b,o + i * 5 + 4,none⟩) hb).trans x4
  go_upto_region 9 with fail
  generalize hXX8 : World.alloc w6 _ = X8
  obtain ⟨q0,hA,hzX8⟩:=box1 hXX8
  clear hXX8
  replace BW:=Lib.hid (BW.out.trans (hA.mono BW.out.size))
  replace B_X0:=Lib.hid (B_X0.out.trans (hA.mono B_X0.out.size))
  clear hA
  have PB:=Lib.hid q0
  clear q0
  clear hzX8 x0 x1 x2 x3 x4
  clear c0 c1 c2 c3 c4 c5 c6 c7 c8 c9 c10 ltMB hk k0' k1' k2' hx x0' x1' hy y0' y1'
  have hx:=(XB.out.below B_X0.out XB.out.lt)
  have x0':=hx.cell (i:=0) rfl
  have x1':=hx.cell (i:=1) rfl
  have hy:=(YB.out.below B_X0.out YB.out.lt)
  have y0':=hy.cell (i:=0) rfl
  have y1':=hy.cell (i:=1) rfl
  go_wp2_with fail
  refine (fo.out X8).mono ?_
  rintro e w7 ⟨rfl,b7⟩
  replace BW:=Lib.hid (BW.out.trans (b7.mono BW.out.size))
  replace B_X0:=Lib.hid (B_X0.out.trans (b7.mono B_X0.out.size))
  have B_X8:=Lib.hid b7
  clear b7
  clear hx x0' x1' hy y0' y1'
  have hx:=(XB.out.below B_X0.out XB.out.lt)
  have x0':=hx.cell (i:=0) rfl
  have x1':=hx.cell (i:=1) rfl
  have hy:=(YB.out.below B_X0.out YB.out.lt)
  have y0':=hy.cell (i:=0) rfl
  have y1':=hy.cell (i:=1) rfl
  go_upto_region 10 with fail
  generalize hXX9 : World.alloc w7 _ = X9
  obtain ⟨q0,hA,hzX9⟩:=box1 hXX9
  clear hXX9
  replace BW:=Lib.hid (BW.out.trans (hA.mono BW.out.size))
  replace B_X0:=Lib.hid (B_X0.out.trans (hA.mono B_X0.out.size))
  replace B_X8:=Lib.hid (B_X8.out.trans (hA.mono B_X8.out.size))
  clear hA
  have ZB:=Lib.hid q0
  clear q0
  clear hzX9
  clear hx x0' x1' hy y0' y1'
  have m0:=Low.fact (show X9.cell? ⟨w.heap.size,0,none⟩ = some (.slice (some ⟨bw,ow,none⟩) m.ways.length (m.ways.length + cap1)) from (MB.out.below B_X0.out MB.out.lt).cell (i:=0) rfl)
  have p0:=Low.fact (show X9.cell? ⟨w.heap.size + 1 + 1,0,none⟩ = some (.int .i64 xx) from (XB.out.below B_X0.out XB.out.lt).cell (i:=0) rfl)
  have p1:=Low.fact (show X9.cell? ⟨w.heap.size + 1 + 1,1,none⟩ = some (.int .i64 xy) from (XB.out.below B_X0.out XB.out.lt).cell (i:=1) rfl)
  have q0:=Low.fact (show X9.cell? ⟨w.heap.size + 1 + 1 + 1,0,none⟩ = some (.int .i64 yx) from (YB.out.below B_X0.out YB.out.lt).cell (i:=0) rfl)
  have q1:=Low.fact (show X9.cell? ⟨w.heap.size + 1 + 1 + 1,1,none⟩ = some (.int .i64 yy) from (YB.out.below B_X0.out YB.out.lt).cell (i:=1) rfl)
  have l1:=Low.fact (show X9.cell? ⟨w6.heap.size,1,none⟩ = some (.int .i64 fr) from (PB.out.below B_X8.out PB.out.lt).cell (i:=1) rfl)
  have l2:=Low.fact (show X9.cell? ⟨w6.heap.size,2,none⟩ = some (.int .i64 tw) from (PB.out.below B_X8.out PB.out.lt).cell (i:=2) rfl)
  have y1:=Low.fact (show X9.cell? ⟨bw,ow + i * 5,none⟩ = some (.int .i64 px) from (BW.out.cell (p:=⟨bw,ow + i * 5,none⟩) hbw).trans HY.out.1)
  have y2:=Low.fact (show X9.cell? ⟨bw,ow + i * 5 + 1,none⟩ = some (.int .i64 py) from (BW.out.cell (p:=⟨bw,ow + i * 5 + 1,none⟩) hbw).trans HY.out.2.1)
  have y3:=Low.fact (show X9.cell? ⟨bw,ow + (i + 1) * 5,none⟩ = some (.int .i64 qx) from (BW.out.cell (p:=⟨bw,ow + (i + 1) * 5,none⟩) hbw).trans HY.out.2.2.1)
  have y4:=Low.fact (show X9.cell? ⟨bw,ow + (i + 1) * 5 + 1,none⟩ = some (.int .i64 qy) from (BW.out.cell (p:=⟨bw,ow + (i + 1) * 5 + 1,none⟩) hbw).trans HY.out.2.2.2)
  cases b1
  · skip
    (refine wp_region_low (by kernel_rfl) (by kernel_rfl) ?_; (iterate 12 (apply quiet_want; (case hw => rfl); (case hval => (intro w1 hw1; have hcx:=Low.cells hw1; simp only [Oper.quietAt]; go_simp; first | done | (first | (go_at_call 58; with_reducible exact (Low.calls hw1 (fn1.out _)))) | rfl | exact ⟨rfl,rfl⟩)); simp only [Act.put,List.setIfInBounds_toArray,List.set_cons_zero,List.set_cons_succ])); (iterate 12 (apply quiet_skip; (case hw => rfl); simp only [Act.put,List.setIfInBounds_toArray,List.set_cons_zero,List.set_cons_succ])); (iterate 2 (apply quiet_want; (case hw => rfl); (case hval => (intro w1 hw1; have hcx:=Low.cells hw1; simp only [Oper.quietAt]; go_simp; first | done | (first | (go_at_call 58; with_reducible exact (Low.calls hw1 (fn1.out _)))) | rfl | exact ⟨rfl,rfl⟩)); simp only [Act.put,List.setIfInBounds_toArray,List.set_cons_zero,List.set_cons_succ])); (iterate 2 (apply quiet_skip; (case hw => rfl); simp only [Act.put,List.setIfInBounds_toArray,List.set_cons_zero,List.set_cons_succ])); (iterate 1 (apply quiet_want; (case hw => rfl); (case hval => (intro w1 hw1; have hcx:=Low.cells hw1; simp only [Oper.quietAt]; go_simp; first | done | (first | (go_at_call 58; with_reducible exact (Low.calls hw1 (fn1.out _)))) | rfl | exact ⟨rfl,rfl⟩)); simp only [Act.put,List.setIfInBounds_toArray,List.set_cons_zero,List.set_cons_succ])); refine wpQuiet_nil ?_; intro w2 hw2)
    obtain ⟨wl,hwl⟩ : ∃ x,x = w2:=⟨_,rfl⟩
    subst hwl
    have bl:=hw2.out
    clear hw2 m0 p0 p1 q0 q1 l1 l2 y1 y2 y3 y4
    replace BW:=Lib.hid (BW.out.trans (bl.mono BW.out.size))
    replace B_X0:=Lib.hid (B_X0.out.trans (bl.mono B_X0.out.size))
    replace B_X8:=Lib.hid (B_X8.out.trans (bl.mono B_X8.out.size))
    have B_X9:=Lib.hid bl
    clear bl
    go_wp2
    go_ret
    exact ⟨rfl,BW.out⟩
  cases b2
  · skip
    (refine wp_region_low (by kernel_rfl) (by kernel_rfl) ?_; (iterate 26 (apply quiet_want; (case hw => rfl); (case hval => (intro w1 hw1; have hcx:=Low.cells hw1; simp only [Oper.quietAt]; go_simp; first | done | (first | (go_at_call 58; with_reducible exact (Low.calls hw1 (fn1.out _))) | (go_at_call 58; with_reducible exact (Low.calls hw1 (fn2.out _)))) | rfl | exact ⟨rfl,rfl⟩)); simp only [Act.put,List.setIfInBounds_toArray,List.set_cons_zero,List.set_cons_succ])); (iterate 2 (apply quiet_skip; (case hw => rfl); simp only [Act.put,List.setIfInBounds_toArray,List.set_cons_zero,List.set_cons_succ])); (iterate 1 (apply quiet_want; (case hw => rfl); (case hval => (intro w1 hw1; have hcx:=Low.cells hw1; simp only [Oper.quietAt]; go_simp; first | done | (first | (go_at_call 58; with_reducible exact (Low.calls hw1 (fn1.out _))) | (go_at_call 58; with_reducible exact (Low.calls hw1 (fn2.out _)))) | rfl | exact ⟨rfl,rfl⟩)); simp only [Act.put,List.setIfInBounds_toArray,List.set_cons_zero,List.set_cons_succ])); refine wpQuiet_nil ?_; intro w2 hw2)
    obtain ⟨wl,hwl⟩ : ∃ x,x = w2:=⟨_,rfl⟩
    subst hwl
    have bl:=hw2.out
    clear hw2 m0 p0 p1 q0 q1 l1 l2 y1 y2 y3 y4
    replace BW:=Lib.hid (BW.out.trans (bl.mono BW.out.size))
    replace B_X0:=Lib.hid (B_X0.out.trans (bl.mono B_X0.out.size))
    replace B_X8:=Lib.hid (B_X8.out.trans (bl.mono B_X8.out.size))
    have B_X9:=Lib.hid bl
    clear bl
    go_wp2
    go_ret
    exact ⟨rfl,BW.out⟩
  cases ob
  · skip
    (refine wp_region_low (by kernel_rfl) (by kernel_rfl) ?_; (iterate 29 (apply quiet_want; (case hw => rfl); (case hval => (intro w1 hw1; have hcx:=Low.cells hw1; simp only [Oper.quietAt]; go_simp; first | done | (first | (go_at_call 58; with_reducible exact (Low.calls hw1 (fn1.out _))) | (go_at_call 58; with_reducible exact (Low.calls hw1 (fn2.out _)))) | rfl | exact ⟨rfl,rfl⟩)); simp only [Act.put,List.setIfInBounds_toArray,List.set_cons_zero,List.set_cons_succ])); refine wpQuiet_nil ?_; intro w2 hw2)
    obtain ⟨wl,hwl⟩ : ∃ x,x = w2:=⟨_,rfl⟩
    subst hwl
    have bl:=hw2.out
    clear hw2 m0 p0 p1 q0 q1 l1 l2 y1 y2 y3 y4
    replace BW:=Lib.hid (BW.out.trans (bl.mono BW.out.size))
    replace B_X0:=Lib.hid (B_X0.out.trans (bl.mono B_X0.out.size))
    replace B_X8:=Lib.hid (B_X8.out.trans (bl.mono B_X8.out.size))
    have B_X9:=Lib.hid bl
    clear bl
    go_wp2
    go_ret
    exact ⟨rfl,BW.out⟩
  (refine wp_region_low (by kernel_rfl) (by kernel_rfl) ?_; (iterate 29 (apply quiet_want; (case hw => rfl); (case hval => (intro w1 hw1; have hcx:=Low.cells hw1; simp only [Oper.quietAt]; go_simp; first | done | (first | (go_at_call 58; with_reducible exact (Low.calls hw1 (fn1.out _))) | (go_at_call 58; with_reducible exact (Low.calls hw1 (fn2.out _)))) | rfl | exact ⟨rfl,rfl⟩)); simp only [Act.put,List.setIfInBounds_toArray,List.set_cons_zero,List.set_cons_succ])); refine wpQuiet_nil ?_; intro w2 hw2)
  obtain ⟨wl,hwl⟩ : ∃ x,x = w2:=⟨_,rfl⟩
  subst hwl
  have bl:=hw2.out
  clear hw2 m0 p0 p1 q0 q1 l1 l2 y1 y2 y3 y4
  replace BW:=Lib.hid (BW.out.trans (bl.mono BW.out.size))
  replace B_X0:=Lib.hid (B_X0.out.trans (bl.mono B_X0.out.size))
  replace B_X8:=Lib.hid (B_X8.out.trans (bl.mono B_X8.out.size))
  have B_X9:=Lib.hid bl
  clear bl
  obtain ⟨pz,⟨t1,t2⟩,hins⟩:=L.out rfl rfl rfl
  have gc:=fun vq w1 B h => fc.out i vq [[⟨zx,zy⟩]] w1 B h
  rw [t1,t2] at gc
  replace gc:=Lib.hid gc
  replace pz:=Lib.hid pz
  replace hins:=Lib.hid hins
  clear t1 t2 L
  have hk:=(CB.out.below B_X0.out CB.out.lt)
  have k0':=hk.cell (i:=0) rfl
  have k1':=hk.cell (i:=1) rfl
  have k2':=hk.cell (i:=2) rfl
  have hz:=(ZB.out.below B_X9.out ZB.out.lt)
  have z0':=hz.cell (i:=0) rfl
  have z1':=hz.cell (i:=1) rfl
  go_wp2_with fail
  generalize hXX12 : World.alloc (World.alloc wl _) _ = X12
  obtain ⟨q0,q1,hA,hzX12⟩:=box2 hXX12
  clear hXX12
  replace BW:=Lib.hid (BW.out.trans (hA.mono BW.out.size))
  replace B_X0:=Lib.hid (B_X0.out.trans (hA.mono B_X0.out.size))
  replace B_X8:=Lib.hid (B_X8.out.trans (hA.mono B_X8.out.size))
  replace B_X9:=Lib.hid (B_X9.out.trans (hA.mono B_X9.out.size))
  clear hA
  have QA:=Lib.hid q0
  clear q0
  have QB:=Lib.hid q1
  clear q1
  clear hzX12
  clear hk k0' k1' k2' hz z0' z1'
  refine (gc.out _ _ BW.out (RocksAt.has (ls:=[[⟨zx,zy⟩]]) (cap:=0) QB.out (by simp) fun j hj => by obtain rfl : j = 0:=(by simp at hj; omega); exact ⟨_,rfl,PtsAt.has (l:=[⟨zx,zy⟩]) (cap:=0) QA.out (by simp) rfl⟩)).mono ?_
  rintro e w8 ⟨rfl,b8⟩
  replace BW:=Lib.hid (BW.out.trans (b8.mono BW.out.size))
  replace B_X0:=Lib.hid (B_X0.out.trans (b8.mono B_X0.out.size))
  replace B_X8:=Lib.hid (B_X8.out.trans (b8.mono B_X8.out.size))
  replace B_X9:=Lib.hid (B_X9.out.trans (b8.mono B_X9.out.size))
  have B_X12:=Lib.hid b8
  clear b8
  obtain ⟨c0,c1,c2,c3,c4,c5,c6,c7,c8,c9,c10⟩:=msn_cells (m:=m) (MB.out.below B_X0.out MB.out.lt)
  have ltMB:=(MB.out.below B_X0.out MB.out.lt).lt
  go_wp2
  have hZB:=Lib.hid (ZB.out.below B_X9.out ZB.out.lt)
  clear c0 c1 c2 c3 c4 c5 c6 c7 c8 c9 c10 ltMB
  go_loopw [15,146] (fun a j wr => ∃ k : Nat,k ≤ m.rocks.length ∧ a = .bool true ∧ j = .int .i64 (k : Int) ∧ Below w8.heap.size w8 wr) (fun _ j _ => m.rocks.length - (intOf j).toNat)
  case atStart => exact ⟨0,Nat.zero_le _,rfl,rfl,Below.refl _ _⟩
  case round =>
    obtain ⟨k,hk,rfl,rfl,hB⟩:=hrel
    obtain ⟨wo,hwo⟩ : ∃ x,x = wr:=⟨_,rfl⟩
    subst hwo
    have BB:=Lib.hid hB
    replace BW:=Lib.hid (BW.out.trans (hB.mono BW.out.size))
    clear hB
    have hZO:=Lib.hid (hZB.out.below BB.out hZB.out.lt)
    by_cases hlt : k < m.rocks.length
    · obtain ⟨b5,o5,rfl,hb5,hcc⟩:=HCR.out.resolve_left (by intro h; rw [h] at hlt; simp at hlt)
      obtain ⟨uu,huu,hpu⟩:=hcc k hlt
      have e0:=(BW.out.cell (p:=⟨b5,o5 + k,none⟩) hb5).trans huu
      have HPU:=Lib.hid ((hpu.below BW.out).mono BW.out.size)
      obtain ⟨a6,c6,rfl⟩:=HPU.out.len
      have gg:=fun w1 (B : Below wo.heap.size wo w1) => rinside_any _ _ ⟨zx,zy⟩ w1 ((HPU.out.below B).mono B.size) (HGV.out k hlt) pz.out
      rw [hins.out k hlt] at gg
      replace gg:=Lib.hid gg
      have dk : decide ((k : Int) < (m.rocks.length : Int)) = true:=by rw [decide_eq_true_eq]; omega
      have kl : (k : Int) < m.rocks.length:=by omega
      have k0 : (0 : Int) ≤ k:=by omega
      have BR:=Lib.hid (Below.refl wo.heap.size wo)
      clear hcc huu hpu
      have hz:=hZO.out
      have z0':=hz.cell (i:=0) rfl
      have z1':=hz.cell (i:=1) rfl
      go_wp2_with fail
      refine (gg.out _ BR.out).mono ?_
      rintro e w9 ⟨rfl,b9⟩
      replace BW:=Lib.hid (BW.out.trans (b9.mono BW.out.size))
      have BR:=Lib.hid b9
      clear b9
      clear hz z0' z1'
      have hz:=(hZO.out.below BR.out hZO.out.lt)
      have z0':=hz.cell (i:=0) rfl
      have z1':=hz.cell (i:=1) rfl
      go_wp2
      go_roundw
      case rel => exact ⟨k + 1,by omega,rfl,by go_num,BB.out.trans (BR.out.mono BB.out.size)⟩
      case measure => simp [intOf]; omega
    obtain rfl : k = m.rocks.length:=by omega
    have jj : decide ((m.rocks.length : Int) < (m.rocks.length : Int)) = false:=by simp
    go_wp2
    go_ret
    exact ⟨rfl,BW.out⟩
end Go.Proofs.YtdkeiadpnnleoaaGreat.certOnTheWay
