/- The walk of the law: A further rock that touches a corridor of a right certificate makes it wrong; with a rock less it stays right. -/
import Derived.Test.YtpimbaaahcemhaaGreatBin34
import Derived.Test.YtpimbaaahcemhaaGreatBin37
import Derived.Test.YtpimbaaahcemhaaGreatBin32
import Derived.Test.YtpimbaaahcemhaaGreatBin12
import Derived.Test.YtpimbaaahcemhaaGreatBin18
import Derived.Test.YtpimbaaahcemhaaGreatBin10
import Derived.Test.YtpimbaaahcemhaaGreatBin35
import Derived.Test.YtpimbaaahcemhaaGreatBin38
namespace Go.Proofs.YtpimbaaahcemhaaGreat.certRocks
open Go.RowKit
attribute [local irreducible] wpQuiet
theorem few_rocks {m:Msn} (h:fewB m=true):m.rocks.length≤12:=by
 simp only [fewB,Bool.and_eq_true,decide_eq_true_eq] at h
 omega
theorem chk_split {m:Msn} {c:Crt} (h:chkB m c=true):frmB m c=true∧∀ i,i<c.psg.length→lgB m c i=true:=by
 unfold chkB at h
 rwa [Bool.and_eq_true,decide_eq_true_eq] at h
def rkM (m:Msn) (R:List (List Pt)):Msn:={ m with rocks:=R }
theorem rk_last (ls:List (List Pt)) (r:List Pt):rk (ls++[r]) ls.length=r:=by unfold rk;simp
theorem more_law {m:Msn} {c:Crt} {r:List Pt} (hV:validB (rkM m (m.rocks++[r]))=true) (hF:frmB m c=true) :
  chkE (rkM m (m.rocks++[r])) c=0∧∀ i,i<c.psg.length→touchB (pgd c.psg i).cor r=true→chkB (rkM m (m.rocks++[r])) c=false:=by
 obtain⟨f1,f2,f3,f4⟩:=frm_split hF
 have hF':frmB (rkM m (m.rocks++[r])) c=true:=by
  unfold frmB
  have hr:radOkB (rkM m (m.rocks++[r])) c.stops=true:=by
   unfold radOkB
   rw [hV,Bool.true_and]
   exact (radOk_two f1).2
  rw [hr,Bool.true_and]
  show (decide (c.psg.length=m.ways.length - 1) && decide (c.ret.length=m.ways.length - 1) && decide (∀ j,j<c.psg.length→okP c j=true))=true
  rw [decide_eq_true f2,decide_eq_true f3,decide_eq_true f4]
  rfl
 refine⟨by unfold chkE;rw [hF'];rfl,fun i hi ht=>?_⟩
 cases hB:chkB (rkM m (m.rocks++[r])) c
 ·rfl
 ·have h:=(chk_split hB).2 i hi
  have V:=(validB_iff _).1 hV
  unfold lgB lg4 at h
  simp only [Bool.and_eq_true,Bool.not_eq_true'] at h
  have h2:=h.2.2.2.2.2
  have ok:okRocks (pgd c.psg i).cor (rkM m (m.rocks++[r])).rocks=true:=by unfold okRocks;rw [(okP_split (f4 i hi)).1,Bool.true_and];exact V.rocks
  unfold firB at h2
  rw [if_pos ⟨V.nr,ok⟩] at h2
  have h3:=(hit_none _).1 h2 m.rocks.length (by show _<(m.rocks++[r]).length;simp)
  rw [show rk (rkM m (m.rocks++[r])).rocks m.rocks.length=r from rk_last _ _,ht] at h3
  cases h3
theorem fewer_law {m:Msn} {c:Crt} {R:List (List Pt)} (hF:Fewer R m.rocks) (hV:validB m=true) (h:chkB m c=true):chkB (rkM m R) c=true∧chkE (rkM m R) c=0:=by
 have V:=(validB_iff m).1 hV
 exact md_check m R m.battery m.deadline m.start (fun _ _ h=>fir_fewer hF V.rocks V.nr h) (Int.le_refl _) (Int.le_refl _) (Int.le_refl _) (ea_valid hF V V.battery V.deadline) c h
theorem fewer_cut (ls:List (List Pt)) {k:Nat} (hk:k<ls.length):Fewer (ls.take k++ls.drop (k+1)) ls:=by
 refine⟨by rw [List.length_append,List.length_take,List.length_drop];omega,fun j hj=>?_⟩
 rw [List.length_append,List.length_take,List.length_drop] at hj
 have e1:(ls.take k).length=k:=by rw [List.length_take];omega
 by_cases e:j<k
 ·refine⟨j,by omega,?_⟩
  rw [← rk_takeK (ls:=ls) e]
  simp only [rk,List.getD_eq_getElem?_getD]
  rw [List.getElem?_append_left (by omega)]
 ·refine⟨k+1+(j - k),by omega,?_⟩
  rw [← rk_dropK (ls:=ls)]
  simp only [rk,List.getD_eq_getElem?_getD]
  rw [List.getElem?_append_right (by omega),e1]
set_option linter.unusedSimpArgs false in
set_option linter.unusedVariables false in
set_option maxRecDepth 8000 in
set_option maxHeartbeats 6400000 in
theorem walk (w : World) (m : Msn) (vw vh vr : Value) (c : Crt) (vs vp ve : Value) (vx : Value) (x : List Pt) (g : Int) (hm : MsnAt w.heap.size w m vw vh vr) (hmr : m.rocks.length ≤ 5864062014634) (hc : CrtAt w.heap.size w c vs vp ve) (hx : PtsAt w.heap.size w vx x) (hg0 : (Lit.int .u8 g).wf = true) :
  Calls Tryz.prog 5 #[.agg (msnCells m vw vh vr),.agg #[vs,vp,ve],vx,.int .u8 g] w fun e w'=>e=.returned (.bool true)∧Below w.heap.size w w':=by
 obtain⟨g,rfl,hg⟩:=u8_bd hg0
 have hd:=Lib.hid (fun w1=>head36_any w1)
 have fk:=fun w1 (B:Below w.heap.size w w1)=>check_any m vw vh vr c vs vp ve w1 ((hm.below B).mono B.size) ((hc.below B).mono B.size)
 have f7:=fun w1 (B:Below w.heap.size w w1)=>rvalid_any vx x w1 ((hx.below B).mono B.size)
 rw [← go_eq_ref] at f7
 have HX:=Lib.hid hx
 have HC0:=Lib.hid hc
 have MM:=Lib.hid hm
 obtain⟨⟨hwl,a1,cap1,rfl,hcw⟩,⟨-,a2,cap2,rfl,-⟩,⟨hrl,a3,cap3,rfl,hcr⟩⟩:=hm
 obtain⟨⟨hsl,aS,cS,rfl,hcs⟩,⟨hpl,ap,cp,rfl,hcp⟩,⟨hel,ar,cr,rfl,hce⟩⟩:=hc
 unfold msnCells at *
 obtain⟨hxl,a6,cap6,rfl,-⟩:=hx
 have HCP:=Lib.hid hcp
 have HCR:=Lib.hid hcr
 clear hcw hcr hcs hcp hce hwl hrl hsl hpl hel hxl
 replace fk:=Lib.hid fk
 replace f7:=Lib.hid f7
 have BW:=Lib.hid (Below.refl w.heap.size w)
 clear hg0
 go_enter Tryz.func5,Tryz.ntmps5
 go_wp2_with fail
 generalize hXX0:World.alloc (World.alloc w _) _=X0
 obtain⟨q0,q1,hA,hzX0⟩:=box2 hXX0
 clear hXX0
 have BW:=Lib.hid hA
 clear hA
 have MB:=Lib.hid q0
 clear q0
 have CB:=Lib.hid q1
 clear q1
 clear hzX0
 obtain⟨c0,c1,c2,c3,c4,c5,c6,c7,c8,c9,c10⟩:=msn_cells (m:=m) MB.out
 have ltMB:=MB.out.lt
 have hk:=CB.out
 have k0':=hk.cell (i:=0) rfl
 have k1':=hk.cell (i:=1) rfl
 have k2':=hk.cell (i:=2) rfl
 refine (hd.out X0).mono ?_
 rintro e w1 ⟨rfl,b1⟩
 replace BW:=Lib.hid (BW.out.trans (b1.mono BW.out.size))
 have B_X0:=Lib.hid b1
 clear b1
 clear c0 c1 c2 c3 c4 c5 c6 c7 c8 c9 c10 ltMB hk k0' k1' k2'
 obtain⟨c0,c1,c2,c3,c4,c5,c6,c7,c8,c9,c10⟩:=msn_cells (m:=m) (MB.out.below B_X0.out MB.out.lt)
 have ltMB:=(MB.out.below B_X0.out MB.out.lt).lt
 have hk:=(CB.out.below B_X0.out CB.out.lt)
 have k0':=hk.cell (i:=0) rfl
 have k1':=hk.cell (i:=1) rfl
 have k2':=hk.cell (i:=2) rfl
 go_upto_region 3 with fail
 generalize hX2:World.alloc w1 _=X2
 obtain⟨q0,hA0,hz2⟩:=box1 hX2
 clear hX2
 clear c0 c1 c2 c3 c4 c5 c6 c7 c8 c9 c10 ltMB hk k0' k1' k2'
 have EB0:=Lib.hid q0
 have hmb:=(MB.out.below B_X0.out MB.out.lt)
 have lm:X2.cell? ⟨w.heap.size,3,none⟩=some (.slice a3 m.rocks.length (m.rocks.length+cap3)):=(hmb.below hA0 hmb.lt).cell (i:=3) rfl
 have ltm:w.heap.size<X2.heap.size:=Nat.lt_of_lt_of_le hmb.lt hA0.size
 have B2:=Lib.hid (BW.out.trans (hA0.mono BW.out.size))
 have A0:=Lib.hid hA0
 have hA:=Lib.hid ((Below.refl X2.heap.size X2).alloc (Nat.le_refl _) (.cells #[] 23))
 have hr:=Lib.hid (World.ownsRow_lit (base:=X2.heap.size) (e:=23) (size:=1) X2 #[] 0 (Nat.le_refl _) (by unfold maxLen;omega) (by simp))
 have hP:=Lib.hid (MM.out.2.2.below (B2.out.trans (hA.out.mono B2.out.size)))
 clear q0 hA0 hmb hz2
 go_upto_region 4 with (first | (at_builtin;refine wpList_append_rocks rfl _ _ rfl X2.heap.size _ 0 [] rfl hr.out _ m.rocks rfl w.heap.size hP.out (by omega) hA.out.size ?_;intro news v5 w5 n5 r5 g5 o5;clear o5;simp only [Nat.zero_add,List.nil_append] at r5;have R5:=Lib.hid r5;have B5:=Lib.hid (hA.out.trans (app_below hr.out g5 (Nat.le_refl _) hA.out.size));have N5:=Lib.hid (n5.below ((app_below hr.out g5 (Nat.le_refl _) hA.out.size).mono B2.out.size));obtain⟨a5,c5,hv5⟩:=row_slice' r5;subst hv5;clear r5 g5 n5) | (at_builtin;refine wpList_append_rock (u:=.slice a6 x.length (x.length+cap6)) rfl rfl _ _ rfl X2.heap.size _ _ _ rfl R5.out rfl (by omega) B5.out.size ?_;intro v7 w7 r7 b7;have R7:=Lib.hid r7;have B7:=Lib.hid b7;have HE7:=Lib.hid (EB0.out.below (B5.out.trans b7) EB0.out.lt);have l7:w7.cell? ⟨w1.heap.size,3,none⟩=some (.slice a3 m.rocks.length (m.rocks.length+cap3)):=HE7.out.cell (i:=3) rfl;have f7':=cells_free HE7.out 3;have lt7:=HE7.out.lt;obtain⟨a7,c7,hv7⟩:=row_slice' r7;subst hv7;clear r7 b7) | fail)
 clear l7 f7' lm
 generalize hZ:World.setCell w7 _ _=Z
 obtain⟨n7,hn7⟩:∃ n,m.rocks.length+1=n:=⟨_,rfl⟩
 have HZ:=HE7.out.set 3 (.slice a7 (m.rocks.length+1) c7)
 have BZ7:=(Below.refl w1.heap.size w7).setCell (p:=⟨w1.heap.size,3,none⟩) (Nat.le_refl _) (.slice a7 (m.rocks.length+1) c7)
 have RZ:=ownsRow_setCell_below R7.out (a:=⟨w1.heap.size,3,none⟩) EB0.out.lt (.slice a7 (m.rocks.length+1) c7)
 rw [hZ] at HZ BZ7 RZ
 rw [hn7] at HZ RZ
 clear hZ
 simp only [List.setIfInBounds_toArray,List.set_cons_zero,List.set_cons_succ] at HZ
 have bZ:=A0.out.trans (((B5.out.trans B7.out).mono (Nat.le_of_lt EB0.out.lt)).trans BZ7)
 have EB:=Lib.hid HZ
 have N7:=((N5.out.below (B7.out.mono B2.out.size)).app (RksR.one (HX.out.below (B2.out.trans ((B5.out.trans B7.out).mono B2.out.size))))).below (BZ7.mono BW.out.size)
 clear HZ BZ7
 replace BW:=Lib.hid (BW.out.trans (bZ.mono BW.out.size))
 replace B_X0:=Lib.hid (B_X0.out.trans (bZ.mono B_X0.out.size))
 clear bZ
 have M2:=Lib.hid (show MsnAt Z.heap.size Z (rkM m (m.rocks++[x])) _ _ (.slice a7 n7 c7) from⟨(MM.out.1.below BW.out).mono BW.out.size,(MM.out.2.1.below BW.out).mono BW.out.size,(N7.mono BW.out.size).rocks (by rw [show (m.rocks++[x]).length=n7 by simp;omega];exact RZ) (by simp;omega)⟩)
 have BZ:=Lib.hid (Below.refl Z.heap.size Z)
 have ff2:=fun w1 (B:Below Z.heap.size Z w1) (B0:Below w.heap.size w w1)=>few36_any (rkM m (m.rocks++[x])) _ _ _ c _ _ _ w1 ((M2.out.below B).mono B.size) ((HC0.out.below B0).mono B0.size)
 have fv2:=fun w1 (B:Below Z.heap.size Z w1)=>rValid31_any (rkM m (m.rocks++[x])) _ _ _ w1 ((M2.out.below B).mono B.size)
 have fk2:=fun w1 (B:Below Z.heap.size Z w1) (B0:Below w.heap.size w w1)=>check_any (rkM m (m.rocks++[x])) _ _ _ c _ _ _ w1 ((M2.out.below B).mono B.size) ((HC0.out.below B0).mono B0.size)
 obtain⟨fb,hfb⟩:∃ b,(fewB (rkM m (m.rocks++[x])) && fewC c)=b:=⟨_,rfl⟩
 obtain⟨vb,hvb⟩:∃ b,validB (rkM m (m.rocks++[x]))=b:=⟨_,rfl⟩
 obtain⟨kb,hkb⟩:∃ b,chkB (rkM m (m.rocks++[x])) c=b:=⟨_,rfl⟩
 obtain⟨ke,hke⟩:∃ b,chkE (rkM m (m.rocks++[x])) c=b:=⟨_,rfl⟩
 simp only [hfb] at ff2
 simp only [hvb] at fv2
 simp only [hkb,hke] at fk2
 dsimp only [msnCells,rkM] at ff2 fv2 fk2
 replace hfb:=Lib.hid hfb
 replace hvb:=Lib.hid hvb
 replace hkb:=Lib.hid hkb
 replace hke:=Lib.hid hke
 replace ff2:=Lib.hid ff2
 replace fv2:=Lib.hid fv2
 replace fk2:=Lib.hid fk2
 clear M2 N7 RZ N5 R5 R7 B5 B7 HE7 hA hr hP hn7 A0 EB0 B2
 obtain⟨c0,c1,c2,c3,c4,c5,c6,c7,c8,c9,c10⟩:=msn_cells (m:=m) (MB.out.below B_X0.out MB.out.lt)
 have ltMB:=(MB.out.below B_X0.out MB.out.lt).lt
 have hk:=(CB.out.below B_X0.out CB.out.lt)
 have k0':=hk.cell (i:=0) rfl
 have k1':=hk.cell (i:=1) rfl
 have k2':=hk.cell (i:=2) rfl
 have hd:=EB.out
 have d0':=hd.cell (i:=0) rfl
 have d1':=hd.cell (i:=1) rfl
 have d2':=hd.cell (i:=2) rfl
 have d3':=hd.cell (i:=3) rfl
 have d4':=hd.cell (i:=4) rfl
 have d5':=hd.cell (i:=5) rfl
 have d6':=hd.cell (i:=6) rfl
 have d7':=hd.cell (i:=7) rfl
 have d8':=hd.cell (i:=8) rfl
 have d9':=hd.cell (i:=9) rfl
 have d10':=hd.cell (i:=10) rfl
 have ltd:=hd.lt
 go_wp2_with fail
 refine (ff2.out _ BZ.out BW.out).mono ?_
 rintro e w2 ⟨rfl,b2⟩
 replace BW:=Lib.hid (BW.out.trans (b2.mono BW.out.size))
 replace B_X0:=Lib.hid (B_X0.out.trans (b2.mono B_X0.out.size))
 have BZ:=Lib.hid b2
 clear b2
 clear c0 c1 c2 c3 c4 c5 c6 c7 c8 c9 c10 ltMB hk k0' k1' k2' hd d0' d1' d2' d3' d4' d5' d6' d7' d8' d9' d10' ltd
 obtain⟨c0,c1,c2,c3,c4,c5,c6,c7,c8,c9,c10⟩:=msn_cells (m:=m) (MB.out.below B_X0.out MB.out.lt)
 have ltMB:=(MB.out.below B_X0.out MB.out.lt).lt
 have hk:=(CB.out.below B_X0.out CB.out.lt)
 have k0':=hk.cell (i:=0) rfl
 have k1':=hk.cell (i:=1) rfl
 have k2':=hk.cell (i:=2) rfl
 have hd:=(EB.out.below BZ.out EB.out.lt)
 have d0':=hd.cell (i:=0) rfl
 have d1':=hd.cell (i:=1) rfl
 have d2':=hd.cell (i:=2) rfl
 have d3':=hd.cell (i:=3) rfl
 have d4':=hd.cell (i:=4) rfl
 have d5':=hd.cell (i:=5) rfl
 have d6':=hd.cell (i:=6) rfl
 have d7':=hd.cell (i:=7) rfl
 have d8':=hd.cell (i:=8) rfl
 have d9':=hd.cell (i:=9) rfl
 have d10':=hd.cell (i:=10) rfl
 have ltd:=hd.lt
 cases fb
 ·skip
  go_wp2
  go_ret
  exact⟨rfl,BW.out⟩
 go_wp2_with fail
 refine (f7.out _ BW.out).mono ?_
 rintro e w3 ⟨rfl,b3⟩
 replace BW:=Lib.hid (BW.out.trans (b3.mono BW.out.size))
 replace B_X0:=Lib.hid (B_X0.out.trans (b3.mono B_X0.out.size))
 replace BZ:=Lib.hid (BZ.out.trans (b3.mono BZ.out.size))
 clear b3
 clear c0 c1 c2 c3 c4 c5 c6 c7 c8 c9 c10 ltMB hk k0' k1' k2' hd d0' d1' d2' d3' d4' d5' d6' d7' d8' d9' d10' ltd
 obtain⟨c0,c1,c2,c3,c4,c5,c6,c7,c8,c9,c10⟩:=msn_cells (m:=m) (MB.out.below B_X0.out MB.out.lt)
 have ltMB:=(MB.out.below B_X0.out MB.out.lt).lt
 have hk:=(CB.out.below B_X0.out CB.out.lt)
 have k0':=hk.cell (i:=0) rfl
 have k1':=hk.cell (i:=1) rfl
 have k2':=hk.cell (i:=2) rfl
 have hd:=(EB.out.below BZ.out EB.out.lt)
 have d0':=hd.cell (i:=0) rfl
 have d1':=hd.cell (i:=1) rfl
 have d2':=hd.cell (i:=2) rfl
 have d3':=hd.cell (i:=3) rfl
 have d4':=hd.cell (i:=4) rfl
 have d5':=hd.cell (i:=5) rfl
 have d6':=hd.cell (i:=6) rfl
 have d7':=hd.cell (i:=7) rfl
 have d8':=hd.cell (i:=8) rfl
 have d9':=hd.cell (i:=9) rfl
 have d10':=hd.cell (i:=10) rfl
 have ltd:=hd.lt
 cases hgx:goValid x
 ·skip
  go_wp2
  go_ret
  exact⟨rfl,BW.out⟩
 go_wp2_with fail
 refine (fv2.out _ BZ.out).mono ?_
 rintro e w4 ⟨rfl,b4⟩
 replace BW:=Lib.hid (BW.out.trans (b4.mono BW.out.size))
 replace B_X0:=Lib.hid (B_X0.out.trans (b4.mono B_X0.out.size))
 replace BZ:=Lib.hid (BZ.out.trans (b4.mono BZ.out.size))
 clear b4
 clear c0 c1 c2 c3 c4 c5 c6 c7 c8 c9 c10 ltMB hk k0' k1' k2' hd d0' d1' d2' d3' d4' d5' d6' d7' d8' d9' d10' ltd
 obtain⟨c0,c1,c2,c3,c4,c5,c6,c7,c8,c9,c10⟩:=msn_cells (m:=m) (MB.out.below B_X0.out MB.out.lt)
 have ltMB:=(MB.out.below B_X0.out MB.out.lt).lt
 have hk:=(CB.out.below B_X0.out CB.out.lt)
 have k0':=hk.cell (i:=0) rfl
 have k1':=hk.cell (i:=1) rfl
 have k2':=hk.cell (i:=2) rfl
 have hd:=(EB.out.below BZ.out EB.out.lt)
 have d0':=hd.cell (i:=0) rfl
 have d1':=hd.cell (i:=1) rfl
 have d2':=hd.cell (i:=2) rfl
 have d3':=hd.cell (i:=3) rfl
 have d4':=hd.cell (i:=4) rfl
 have d5':=hd.cell (i:=5) rfl
 have d6':=hd.cell (i:=6) rfl
 have d7':=hd.cell (i:=7) rfl
 have d8':=hd.cell (i:=8) rfl
 have d9':=hd.cell (i:=9) rfl
 have d10':=hd.cell (i:=10) rfl
 have ltd:=hd.lt
 cases vb
 ·skip
  go_wp2
  go_ret
  exact⟨rfl,BW.out⟩
 go_wp2_with fail
 refine (fk.out _ BW.out).mono ?_
 rintro e w5 ⟨rfl,b5⟩
 replace BW:=Lib.hid (BW.out.trans (b5.mono BW.out.size))
 replace B_X0:=Lib.hid (B_X0.out.trans (b5.mono B_X0.out.size))
 replace BZ:=Lib.hid (BZ.out.trans (b5.mono BZ.out.size))
 clear b5
 clear c0 c1 c2 c3 c4 c5 c6 c7 c8 c9 c10 ltMB hk k0' k1' k2' hd d0' d1' d2' d3' d4' d5' d6' d7' d8' d9' d10' ltd
 obtain⟨c0,c1,c2,c3,c4,c5,c6,c7,c8,c9,c10⟩:=msn_cells (m:=m) (MB.out.below B_X0.out MB.out.lt)
 have ltMB:=(MB.out.below B_X0.out MB.out.lt).lt
 have hk:=(CB.out.below B_X0.out CB.out.lt)
 have k0':=hk.cell (i:=0) rfl
 have k1':=hk.cell (i:=1) rfl
 have k2':=hk.cell (i:=2) rfl
 have hd:=(EB.out.below BZ.out EB.out.lt)
 have d0':=hd.cell (i:=0) rfl
 have d1':=hd.cell (i:=1) rfl
 have d2':=hd.cell (i:=2) rfl
 have d3':=hd.cell (i:=3) rfl
 have d4':=hd.cell (i:=4) rfl
 have d5':=hd.cell (i:=5) rfl
 have d6':=hd.cell (i:=6) rfl
 have d7':=hd.cell (i:=7) rfl
 have d8':=hd.cell (i:=8) rfl
 have d9':=hd.cell (i:=9) rfl
 have d10':=hd.cell (i:=10) rfl
 have ltd:=hd.lt
 by_cases hF:frmB m c=true
 rotate_left
 ·have e1:chkE m c=1:=if_neg hF
  have e2:chkB m c=false:=by unfold chkB;rw [Bool.not_eq_true] at hF;rw [hF];rfl
  rw [e1,e2]
  clear e1 e2 hF
  go_wp2
  go_ret
  exact⟨rfl,BW.out⟩
 have e1:chkE m c=0:=if_pos hF
 rw [e1]
 clear e1
 cases hC:chkB m c
 ·go_wp2
  go_ret
  exact⟨rfl,BW.out⟩
 have h11:m.rocks.length≤11:=by
  have h:=hfb.out
  rw [Bool.and_eq_true] at h
  have:=few_rocks h.1
  simp [rkM] at this
  omega
 obtain⟨hok,hl1,-,hal⟩:=frm_split hF
 have hV:=(radOk_two hok).1
 have V:=(validB_iff m).1 hV
 have hl40:c.psg.length≤40:=by have:=V.n41;omega
 obtain⟨L1,L2⟩:=more_law hvb.out hF
 simp only [hkb.out] at L2
 obtain rfl:ke=0:=hke.out.symm.trans L1
 have hce:chkE m c=0:=if_pos hF
 have fk3:=fk.out
 simp only [hC,hce] at fk3
 replace fk3:=Lib.hid fk3
 replace L2:=Lib.hid L2
 have HAL:=Lib.hid (fun i hi=>(okP_split (hal i hi)).1)
 have HGX:=Lib.hid hgx
 have HVC:=Lib.hid (And.intro hV hC)
 clear fk hfb hvb hkb hke L1 hce hal hok hl1 V hV hC hF hgx ff2 fv2 f7
 go_wp2_with fail
 refine (fk2.out _ BZ.out BW.out).mono ?_
 rintro e w6 ⟨rfl,b6⟩
 replace BW:=Lib.hid (BW.out.trans (b6.mono BW.out.size))
 replace B_X0:=Lib.hid (B_X0.out.trans (b6.mono B_X0.out.size))
 replace BZ:=Lib.hid (BZ.out.trans (b6.mono BZ.out.size))
 clear b6
 clear c0 c1 c2 c3 c4 c5 c6 c7 c8 c9 c10 ltMB hk k0' k1' k2' hd d0' d1' d2' d3' d4' d5' d6' d7' d8' d9' d10' ltd
 obtain⟨c0,c1,c2,c3,c4,c5,c6,c7,c8,c9,c10⟩:=msn_cells (m:=m) (MB.out.below B_X0.out MB.out.lt)
 have ltMB:=(MB.out.below B_X0.out MB.out.lt).lt
 have hk:=(CB.out.below B_X0.out CB.out.lt)
 have k0':=hk.cell (i:=0) rfl
 have k1':=hk.cell (i:=1) rfl
 have k2':=hk.cell (i:=2) rfl
 have hd:=(EB.out.below BZ.out EB.out.lt)
 have d0':=hd.cell (i:=0) rfl
 have d1':=hd.cell (i:=1) rfl
 have d2':=hd.cell (i:=2) rfl
 have d3':=hd.cell (i:=3) rfl
 have d4':=hd.cell (i:=4) rfl
 have d5':=hd.cell (i:=5) rfl
 have d6':=hd.cell (i:=6) rfl
 have d7':=hd.cell (i:=7) rfl
 have d8':=hd.cell (i:=8) rfl
 have d9':=hd.cell (i:=9) rfl
 have d10':=hd.cell (i:=10) rfl
 have ltd:=hd.lt
 clear fk2
 go_wp2
 have hMB:=Lib.hid (MB.out.below B_X0.out MB.out.lt)
 have hCB:=Lib.hid (CB.out.below B_X0.out CB.out.lt)
 clear c0 c1 c2 c3 c4 c5 c6 c7 c8 c9 c10 ltMB hk k0' k1' k2' hd d0' d1' d2' d3' d4' d5' d6' d7' d8' d9' d10' ltd
 go_loopw [15,74] (fun a j wr=>∃ (k:Nat) (t:Bool),k≤c.psg.length∧a=.bool t∧j=.int .i64 (k:Int)∧(t=true→kb=false)∧Below w6.heap.size w6 wr) (fun _ j _=>c.psg.length - (intOf j).toNat)
 case atStart=>exact⟨0,false,Nat.zero_le _,rfl,rfl,(fun h=>by cases h),Below.refl _ _⟩
 case round =>
  obtain⟨k,t,hk,rfl,rfl,ht,hB⟩:=hrel
  obtain⟨wo,hwo⟩:∃ x,x=wr:=⟨_,rfl⟩
  subst hwo
  have BB:=Lib.hid hB
  replace BW:=Lib.hid (BW.out.trans (hB.mono BW.out.size))
  clear hB
  by_cases hlt:k<c.psg.length
  ·obtain⟨b5,o5,rfl,hb5,hcc⟩:=HCP.out.resolve_left (by intro h;rw [h] at hlt;simp at hlt)
   obtain⟨vc,x0,hvc,x1,x2,x3,x4⟩:=hcc k hlt
   replace x0:=(BW.out.cell (p:=⟨b5,o5+k*5,none⟩) hb5).trans x0
   replace x1:=(BW.out.cell (p:=⟨b5,o5+k*5+1,none⟩) hb5).trans x1
   replace x2:=(BW.out.cell (p:=⟨b5,o5+k*5+2,none⟩) hb5).trans x2
   replace x3:=(BW.out.cell (p:=⟨b5,o5+k*5+3,none⟩) hb5).trans x3
   replace x4:=(BW.out.cell (p:=⟨b5,o5+k*5+4,none⟩) hb5).trans x4
   have gt:=fun w1 (B:Below wo.heap.size wo w1)=>touches_any vc _ _ x w1 ((((hvc.below BW.out).mono BW.out.size).below B).mono B.size) (((HX.out.below (BW.out.trans (B.mono BW.out.size))).mono (BW.out.trans (B.mono BW.out.size)).size)) (HAL.out k hlt) HGX.out
   obtain⟨au,cu,rfl⟩:=hvc.len
   obtain⟨tb,htb⟩:∃ b,touchB (pgd c.psg k).cor x=b:=⟨_,rfl⟩
   simp only [htb] at gt
   have htk:Hid (tb=true→kb=false):=fun h=>L2.out k hlt (htb.trans h)
   replace gt:=Lib.hid gt
   replace ht:=Lib.hid ht
   obtain⟨⟨pc,fr,tw,tm,en⟩,hpp⟩:∃ p,pgd c.psg k=p:=⟨_,rfl⟩
   simp only [hpp] at x0 x1 x2 x3 x4 gt ⊢
   have dk:decide ((k:Int)<(c.psg.length:Int))=true:=by rw [decide_eq_true_eq];omega
   have kl:(k:Int)<c.psg.length:=by omega
   have k0:(0:Int)≤k:=by omega
   have BR:=Lib.hid (Below.refl wo.heap.size wo)
   clear hcc hvc htb hpp
   go_upto_region 14 with fail
   generalize hXX8:World.alloc wo _=X8
   obtain⟨q0,hA,hzX8⟩:=box1 hXX8
   clear hXX8
   replace BW:=Lib.hid (BW.out.trans (hA.mono BW.out.size))
   have BR:=Lib.hid hA
   clear hA
   have PB:=Lib.hid q0
   clear q0
   clear hzX8 x0 x1 x2 x3 x4
   have hPB:=PB.out
   have p0':=hPB.cell (i:=0) rfl
   have p1':=hPB.cell (i:=1) rfl
   have p2':=hPB.cell (i:=2) rfl
   have p3':=hPB.cell (i:=3) rfl
   have p4':=hPB.cell (i:=4) rfl
   cases t
   rotate_left
   ·skip
    go_wp2
    go_roundw
    case rel=>exact⟨k+1,true,by omega,rfl,by go_num,ht.out,BB.out.trans (BR.out.mono BB.out.size)⟩
    case measure=>simp [intOf];omega
   go_wp2_with fail
   refine (gt.out _ BR.out).mono ?_
   rintro e w7 ⟨rfl,b7⟩
   replace BW:=Lib.hid (BW.out.trans (b7.mono BW.out.size))
   replace BR:=Lib.hid (BR.out.trans (b7.mono BR.out.size))
   have B_X8:=Lib.hid b7
   clear b7
   clear hPB p0' p1' p2' p3' p4'
   have hPB:=(PB.out.below B_X8.out PB.out.lt)
   have p0':=hPB.cell (i:=0) rfl
   have p1':=hPB.cell (i:=1) rfl
   have p2':=hPB.cell (i:=2) rfl
   have p3':=hPB.cell (i:=3) rfl
   have p4':=hPB.cell (i:=4) rfl
   go_wp2
   go_roundw
   case rel=>exact⟨k+1,tb,by omega,rfl,by go_num,htk.out,BB.out.trans (BR.out.mono BB.out.size)⟩
   case measure=>simp [intOf];omega
  obtain rfl:k=c.psg.length:=by omega
  have jj:decide ((c.psg.length:Int)<(c.psg.length:Int))=false:=by simp
  go_upto_region 16 with fail
  go_cut [93] from 86 (fun b wx=>b=.bool false∧wx=wo)
  case first =>
   have ht':(t && kb)=false:=by
    cases t
    ·rfl
    ·exact ht rfl
   clear ht
   cases t <;> cases kb <;> first | (exact absurd ht' (by decide)) | (go_wp2_with fail;go_meet;exact⟨rfl,rfl⟩)
  case rest =>
   obtain⟨rfl,hwx⟩:=hcut
   rw [hwx]
   clear hwx wc
   have hMO:=Lib.hid (hMB.out.below BB.out hMB.out.lt)
   have hCO:=Lib.hid (hCB.out.below BB.out hCB.out.lt)
   clear hMB hCB BB ht
   obtain⟨c0,c1,c2,c3,c4,c5,c6,c7,c8,c9,c10⟩:=msn_cells (m:=m) hMO.out
   have lthMO:=hMO.out.lt
   have hk:=hCO.out
   have k0':=hk.cell (i:=0) rfl
   have k1':=hk.cell (i:=1) rfl
   have k2':=hk.cell (i:=2) rfl
   have HSW:=Lib.hid (show w.heap.size≤wo.heap.size from BW.out.size)
   go_upto_region 19 with fail
   generalize hXXF:World.alloc wo _=XF
   obtain⟨q0,hA,hzXF⟩:=box1 hXXF
   clear hXXF
   replace BW:=Lib.hid (BW.out.trans (hA.mono BW.out.size))
   have B_wo:=Lib.hid hA
   clear hA
   have FB:=Lib.hid q0
   clear q0
   clear hzXF
   clear c0 c1 c2 c3 c4 c5 c6 c7 c8 c9 c10 lthMO hk k0' k1' k2'
   obtain⟨c0,c1,c2,c3,c4,c5,c6,c7,c8,c9,c10⟩:=msn_cells (m:=m) (hMO.out.below B_wo.out hMO.out.lt)
   have lthMO:=(hMO.out.below B_wo.out hMO.out.lt).lt
   have hk:=(hCO.out.below B_wo.out hCO.out.lt)
   have k0':=hk.cell (i:=0) rfl
   have k1':=hk.cell (i:=1) rfl
   have k2':=hk.cell (i:=2) rfl
   have hq:=FB.out
   have q0':=hq.cell (i:=0) rfl
   have q1':=hq.cell (i:=1) rfl
   have q2':=hq.cell (i:=2) rfl
   have q3':=hq.cell (i:=3) rfl
   have q4':=hq.cell (i:=4) rfl
   have q5':=hq.cell (i:=5) rfl
   have q6':=hq.cell (i:=6) rfl
   have q7':=hq.cell (i:=7) rfl
   have q8':=hq.cell (i:=8) rfl
   have q9':=hq.cell (i:=9) rfl
   have q10':=hq.cell (i:=10) rfl
   have ltq:=hq.lt
   by_cases hn0:m.rocks.length=0
   ·skip
    have dq:decide ((m.rocks.length:Int)>0)=false:=by rw [decide_eq_false_iff_not];omega
    have dq2:decide ((0:Int)<(m.rocks.length:Int))=false:=by rw [decide_eq_false_iff_not];omega
    have dq3:¬ ((m.rocks.length:Int)>0):=by omega
    clear hn0
    go_wp2_with fail
    refine (fk3.out _ BW.out).mono ?_
    rintro e w8 ⟨rfl,b8⟩
    replace BW:=Lib.hid (BW.out.trans (b8.mono BW.out.size))
    replace B_wo:=Lib.hid (B_wo.out.trans (b8.mono B_wo.out.size))
    have B_XF:=Lib.hid b8
    clear b8
    clear c0 c1 c2 c3 c4 c5 c6 c7 c8 c9 c10 lthMO hk k0' k1' k2' hq q0' q1' q2' q3' q4' q5' q6' q7' q8' q9' q10' ltq
    obtain⟨c0,c1,c2,c3,c4,c5,c6,c7,c8,c9,c10⟩:=msn_cells (m:=m) (hMO.out.below B_wo.out hMO.out.lt)
    have lthMO:=(hMO.out.below B_wo.out hMO.out.lt).lt
    have hk:=(hCO.out.below B_wo.out hCO.out.lt)
    have k0':=hk.cell (i:=0) rfl
    have k1':=hk.cell (i:=1) rfl
    have k2':=hk.cell (i:=2) rfl
    have hq:=(FB.out.below B_XF.out FB.out.lt)
    have q0':=hq.cell (i:=0) rfl
    have q1':=hq.cell (i:=1) rfl
    have q2':=hq.cell (i:=2) rfl
    have q3':=hq.cell (i:=3) rfl
    have q4':=hq.cell (i:=4) rfl
    have q5':=hq.cell (i:=5) rfl
    have q6':=hq.cell (i:=6) rfl
    have q7':=hq.cell (i:=7) rfl
    have q8':=hq.cell (i:=8) rfl
    have q9':=hq.cell (i:=9) rfl
    have q10':=hq.cell (i:=10) rfl
    have ltq:=hq.lt
    go_wp2
    go_ret
    exact⟨rfl,BW.out⟩
   obtain⟨b5,o5,rfl,hb5,-⟩:=HCR.out.resolve_left (by intro h;rw [h] at hn0;simp at hn0)
   have hn1:0<m.rocks.length:=by omega
   have dq:decide ((m.rocks.length:Int)>0)=true:=by rw [decide_eq_true_eq];omega
   have dq2:decide ((0:Int)<(m.rocks.length:Int))=true:=by rw [decide_eq_true_eq];omega
   have dq3:(m.rocks.length:Int)>0:=by omega
   have jg:IntKind.i64.wrap (g:Int)=(g:Int):=IntWalk.i64_in _ (by omega)
   obtain⟨i,hi,hin,-⟩:=mod_at (i:=g) (n:=m.rocks.length) hn1
   have dz:((m.rocks.length:Int) == 0)=false:=by rw [beq_eq_false_iff_ne];omega
   have nz:¬ ((m.rocks.length:Int)=0):=by omega
   have ji:IntKind.i64.wrap (i:Int)=(i:Int):=IntWalk.i64_in _ (by omega)
   have ii1:IntKind.i64.wrap ((i:Int)+1)=((i+1:Nat):Int):=by rw [show (i:Int)+1=((i+1:Nat):Int) by omega];exact IntWalk.i64_in _ (by omega)
   clear hn0
   go_upto_region 22 with fail
   clear c0 c1 c2 c3 c4 c5 c6 c7 c8 c9 c10 lthMO hk k0' k1' k2' hq q0' q1' q2' q3' q4' q5' q6' q7' q8' q9' q10' ltq
   clear hi jg dz nz dq dq2 dq3
   have l3:XF.cell? ⟨w.heap.size,3,none⟩=some (.slice (some ⟨b5,o5,none⟩) m.rocks.length (m.rocks.length+cap3)):=(hMO.out.below B_wo.out hMO.out.lt).cell (i:=3) rfl
   have bd1:(0:Int)≤(i:Int):=by omega
   have bd2:(i:Int)≤((m.rocks.length+cap3:Nat):Int):=by omega
   have bd3:(0:Int)≤((i+1:Nat):Int):=by omega
   have bd4:((i+1:Nat):Int)≤(m.rocks.length:Int):=by omega
   have bd5:i≤m.rocks.length+cap3:=by omega
   have bd6:i+1≤m.rocks.length:=by omega
   have bd7:(i:Int)≤(m.rocks.length:Int)+(cap3:Int):=by omega
   have bd8:(i:Int)+1≤(m.rocks.length:Int):=by omega
   have bd9:(0:Int)≤(i:Int)+1:=by omega
   obtain⟨i0,HI0⟩:∃ z,z=i+1:=⟨_,rfl⟩
   obtain⟨ad,HAD⟩:∃ ad:Addr,(m.rocks.length+cap3=i+1∧ad=⟨b5,o5,none⟩)∨(¬ (m.rocks.length+cap3=i+1)∧ad=⟨b5,o5+(i+1),none⟩):=by
    by_cases e:m.rocks.length+cap3=i+1
    ·exact⟨_,.inl ⟨e,rfl⟩⟩
    ·exact⟨_,.inr ⟨e,rfl⟩⟩
   have T1:=Lib.hid (show RocksAt w.heap.size w (.slice (some ⟨b5,o5,none⟩) i (m.rocks.length+cap3)) (m.rocks.take i) from MM.out.2.2.takeK (by omega) (by omega))
   have T2:=Lib.hid (show RocksAt w.heap.size w (.slice (some ad) (m.rocks.length - (i+1)) (m.rocks.length+cap3 - (i+1))) (m.rocks.drop (i+1)) by
    rcases HAD with⟨e,rfl⟩ | ⟨e,rfl⟩
    ·rw [show m.rocks.drop (i+1)=[] from List.drop_eq_nil_of_le (by omega),show m.rocks.length - (i+1)=0 by omega,show m.rocks.length+cap3 - (i+1)=0 by omega]
     exact⟨by simp,_,0,rfl,.inl rfl⟩
    ·exact MM.out.2.2.dropK (by omega) (by omega))
   replace HAD:=Lib.hid HAD
   clear i0 HI0
   refine (wpIn_wide (n:=9)).1 ?_
   refine wpIn_region_sched (lets_wide _) 13 (fun X=>Below XF.heap.size XF X) (by kernel_rfl) (by kernel_rfl) (by kernel_rfl) fun hH inv0=>?_
   have hD:=Below.drew (Below.refl XF.heap.size XF)
   generalize hXX9:XF.drew=X9 at *
   clear hXX9
   replace BW:=Lib.hid (BW.out.trans (hD.mono BW.out.size))
   replace B_wo:=Lib.hid (B_wo.out.trans (hD.mono B_wo.out.size))
   have B_XF:=Lib.hid hD
   clear hD
   refine sched_take hH (i:=1) (v:=.pointer (some ⟨w.heap.size,3,none⟩)) (drop_get rfl) (by omega) inv0 (by kernel_rfl) (by kernel_rfl) rfl (fun X hX=>?_) fun inv1=>?_
   ·go_simp
   simp only [Act.put,List.setIfInBounds_toArray,List.set_cons_zero,List.set_cons_succ]
   clear inv0
   refine sched_take hH (i:=2) (v:=.slice (some ⟨b5,o5,none⟩) m.rocks.length (m.rocks.length+cap3)) (drop_get rfl) (by omega) inv1 (by kernel_rfl) (by kernel_rfl) rfl (fun X hX=>?_) fun inv2=>?_
   ·have r0:=(hX.cell (p:=⟨w.heap.size,3,none⟩) (World.block_lt_of_cell? _ _ l3)).trans l3;go_simp
   simp only [Act.put,List.setIfInBounds_toArray,List.set_cons_zero,List.set_cons_succ]
   clear inv1
   refine sched_take hH (i:=3) (v:=.int .i64 (i:Int)) (drop_get rfl) (by omega) inv2 (by kernel_rfl) (by kernel_rfl) rfl (fun X hX=>?_) fun inv3=>?_
   ·go_simp
   simp only [Act.put,List.setIfInBounds_toArray,List.set_cons_zero,List.set_cons_succ]
   clear inv2
   refine sched_take hH (i:=4) (v:=.slice (some ⟨b5,o5,none⟩) i (m.rocks.length+cap3)) (drop_get rfl) (by omega) inv3 (by kernel_rfl) (by kernel_rfl) rfl (fun X hX=>?_) fun inv4=>?_
   ·go_simp
   simp only [Act.put,List.setIfInBounds_toArray,List.set_cons_zero,List.set_cons_succ]
   clear inv3
   refine sched_take hH (i:=6) (v:=.pointer (some ⟨w.heap.size,3,none⟩)) (drop_get rfl) (by omega) inv4 (by kernel_rfl) (by kernel_rfl) rfl (fun X hX=>?_) fun inv5=>?_
   ·go_simp
   simp only [Act.put,List.setIfInBounds_toArray,List.set_cons_zero,List.set_cons_succ]
   clear inv4
   refine sched_take hH (i:=7) (v:=.slice (some ⟨b5,o5,none⟩) m.rocks.length (m.rocks.length+cap3)) (drop_get rfl) (by omega) inv5 (by kernel_rfl) (by kernel_rfl) rfl (fun X hX=>?_) fun inv6=>?_
   ·have r0:=(hX.cell (p:=⟨w.heap.size,3,none⟩) (World.block_lt_of_cell? _ _ l3)).trans l3;go_simp
   simp only [Act.put,List.setIfInBounds_toArray,List.set_cons_zero,List.set_cons_succ]
   clear inv5
   refine sched_take hH (i:=8) (v:=.int .i64 (i:Int)) (drop_get rfl) (by omega) inv6 (by kernel_rfl) (by kernel_rfl) rfl (fun X hX=>?_) fun inv7=>?_
   ·go_simp
   simp only [Act.put,List.setIfInBounds_toArray,List.set_cons_zero,List.set_cons_succ]
   clear inv6
   refine sched_take hH (i:=9) (v:=.int .i64 ((i+1:Nat):Int)) (drop_get rfl) (by omega) inv7 (by kernel_rfl) (by kernel_rfl) rfl (fun X hX=>?_) fun inv8=>?_
   ·go_simp
   simp only [Act.put,List.setIfInBounds_toArray,List.set_cons_zero,List.set_cons_succ]
   clear inv7
   refine sched_take hH (i:=10) (v:=.slice (some ad) (m.rocks.length - (i+1)) (m.rocks.length+cap3 - (i+1))) (drop_get rfl) (by omega) inv8 (by kernel_rfl) (by kernel_rfl) rfl (fun X hX=>?_) fun inv9=>?_
   ·rcases HAD.out with⟨hq1,rfl⟩ | ⟨hq1,rfl⟩ <;> go_simp
   simp only [Act.put,List.setIfInBounds_toArray,List.set_cons_zero,List.set_cons_succ]
   clear inv8
   clear l3
   have SBW:=BW
   have SB_wo:=B_wo
   have SB_XF:=B_XF
   have inv10:=HeadInv.put2 inv9 (j:=0) (by kernel_rfl) (by omega)
   clear inv9
   refine sched_all (rs:=[0]) (by kernel_rfl) (by simp) B_XF.out (by simp) (fun i hi'=>?_)
   simp only [List.mem_cons,List.not_mem_nil,or_false] at hi'
   subst hi'
   refine okOp_run (drop_get rfl) rfl (v:=.slice (some ⟨X9.heap.size,0,none⟩) 0 0) (w':=X9.alloc (.cells #[] 23)) (by go_simp) ?_
   simp only [Act.put,List.setIfInBounds_toArray,List.set_cons_zero,List.set_cons_succ]
   have hr:=World.ownsRow_lit (base:=X9.heap.size) (e:=23) (size:=1) X9 #[] 0 (Nat.le_refl _) (by unfold maxLen;omega) (by simp)
   have bA:=Lib.hid ((Below.refl X9.heap.size X9).alloc (Nat.le_refl _) (.cells #[] 23))
   generalize X9.alloc (.cells #[] 23)=XA at *
   replace BW:=Lib.hid (SBW.out.trans (bA.out.mono SBW.out.size))
   replace B_wo:=Lib.hid (SB_wo.out.trans (bA.out.mono SB_wo.out.size))
   replace B_XF:=Lib.hid (SB_XF.out.trans (bA.out.mono SB_XF.out.size))
   have inv11:=HeadInv.put2 inv10 (j:=5) (by kernel_rfl) (by omega)
   clear inv10
   refine sched_all (rs:=[5]) (by kernel_rfl) (by simp) B_XF.out (by simp) (fun i hi'=>?_)
   simp only [List.mem_cons,List.not_mem_nil,or_false] at hi'
   subst hi'
   refine okOp_append_rocks (drop_get rfl) rfl (.tmp 104) (.tmp 108) rfl X9.heap.size _ _ _ rfl hr ⟨b5,o5,none⟩ i (m.rocks.length+cap3) rfl w.heap.size (m.rocks.take i) (by rw [List.length_take];omega) (T1.out.below BW.out) (by omega) bA.out.size ?_
   intro ne1 v1 XB n1 r1 b1
   simp only [Act.put,List.setIfInBounds_toArray,List.set_cons_zero,List.set_cons_succ]
   have bB:=Lib.hid (bA.out.trans b1)
   replace BW:=Lib.hid (SBW.out.trans (bB.out.mono SBW.out.size))
   replace B_wo:=Lib.hid (SB_wo.out.trans (bB.out.mono SB_wo.out.size))
   replace B_XF:=Lib.hid (SB_XF.out.trans (bB.out.mono SB_XF.out.size))
   obtain⟨v1a,v1c,rfl⟩:=row_slice' r1
   have inv12:=HeadInv.put2 inv11 (j:=11) (by kernel_rfl) (by omega)
   clear inv11
   refine sched_all (rs:=[11]) (by kernel_rfl) (by simp) B_XF.out (by simp) (fun i hi'=>?_)
   simp only [List.mem_cons,List.not_mem_nil,or_false] at hi'
   subst hi'
   refine okOp_append_rocks (drop_get rfl) rfl (.tmp 109) (.tmp 114) rfl X9.heap.size _ _ _ rfl r1 ad (m.rocks.length - (i+1)) (m.rocks.length+cap3 - (i+1)) rfl w.heap.size (m.rocks.drop (i+1)) (by rw [List.length_drop]) (T2.out.below BW.out) (by omega) bB.out.size ?_
   intro ne2 v2 XC n2 r2 b2
   simp only [Act.put,List.setIfInBounds_toArray,List.set_cons_zero,List.set_cons_succ]
   simp only [Nat.zero_add,List.nil_append] at r2
   have bC:=Lib.hid (bB.out.trans b2)
   have hsz:w.heap.size≤X9.heap.size:=SBW.out.size
   have hsF:wo.heap.size<X9.heap.size:=Nat.lt_of_lt_of_le FB.out.lt SB_XF.out.size
   have NN:=(n1.below ((b1.trans b2).mono hsz)).app (n2.below (b2.mono hsz))
   obtain⟨v2a,v2c,rfl⟩:=row_slice' r2
   replace BW:=Lib.hid (SBW.out.trans (bC.out.mono SBW.out.size))
   replace B_wo:=Lib.hid (SB_wo.out.trans (bC.out.mono SB_wo.out.size))
   replace B_XF:=Lib.hid (SB_XF.out.trans (bC.out.mono SB_XF.out.size))
   have inv13:=HeadInv.put2 inv12 (j:=12) (by kernel_rfl) (by omega)
   clear inv12
   refine sched_all (rs:=[12]) (by kernel_rfl) (by simp) B_XF.out (by simp) (fun i hi'=>?_)
   simp only [List.mem_cons,List.not_mem_nil,or_false] at hi'
   subst hi'
   refine okOp_run (drop_get rfl) rfl (v:=.pointer (some ⟨wo.heap.size,3,none⟩)) (w':=XC) (by go_simp) ?_
   simp only [Act.put,List.setIfInBounds_toArray,List.set_cons_zero,List.set_cons_succ]
   clear inv13 hH
   refine sched_done (by kernel_rfl) B_XF.out ?_
   simp only [List.drop_succ_cons,List.drop_zero]
   have hfb:=(FB.out.below B_XF.out FB.out.lt)
   have l9:XC.cell? ⟨wo.heap.size,3,none⟩=some (.slice (some ⟨b5,o5,none⟩) m.rocks.length (m.rocks.length+cap3)):=hfb.cell (i:=3) rfl
   have z9:=cells_free hfb 3
   have ltF:=hfb.lt
   gi_wp2
   clear l9 z9 ltF
   generalize hZ9:World.setCell XC _ _=Z9
   obtain⟨n9,hn9⟩:∃ n,i+(m.rocks.length - (i+1))=n:=⟨_,rfl⟩
   have HZ:=hfb.set 3 (.slice v2a (i+(m.rocks.length - (i+1))) v2c)
   have bz:=(Below.refl wo.heap.size XC).setCell (p:=⟨wo.heap.size,3,none⟩) (Nat.le_refl _) (.slice v2a (i+(m.rocks.length - (i+1))) v2c)
   have RZ:=ownsRow_setCell_below r2 (a:=⟨wo.heap.size,3,none⟩) hsF (.slice v2a (i+(m.rocks.length - (i+1))) v2c)
   rw [hZ9] at HZ bz RZ
   rw [hn9] at HZ RZ
   clear hZ9
   simp only [List.setIfInBounds_toArray,List.set_cons_zero,List.set_cons_succ] at HZ
   replace BW:=Lib.hid (BW.out.trans (bz.mono HSW.out))
   replace B_wo:=Lib.hid (B_wo.out.trans bz)
   have NN9:=NN.below (bz.mono HSW.out)
   replace FB:=Lib.hid HZ
   have M3:=Lib.hid (show MsnAt Z9.heap.size Z9 (rkM m (m.rocks.take i++m.rocks.drop (i+1))) _ _ (.slice v2a n9 v2c) from⟨(MM.out.1.below BW.out).mono BW.out.size,(MM.out.2.1.below BW.out).mono BW.out.size,(NN9.mono BW.out.size).rocks (by rw [show (m.rocks.take i++m.rocks.drop (i+1)).length=n9 by rw [List.length_append,List.length_take,List.length_drop];omega];exact RZ) (by rw [List.length_append,List.length_take,List.length_drop];omega)⟩)
   have BZ9:=Lib.hid (Below.refl Z9.heap.size Z9)
   have gk:=fun w1 (B:Below Z9.heap.size Z9 w1) (B0:Below w.heap.size w w1)=>check_any (rkM m (m.rocks.take i++m.rocks.drop (i+1))) _ _ _ c _ _ _ w1 ((M3.out.below B).mono B.size) ((HC0.out.below B0).mono B0.size)
   obtain⟨L3,L4⟩:=fewer_law (fewer_cut m.rocks hin) HVC.out.1 HVC.out.2
   simp only [L3,L4] at gk
   dsimp only [msnCells,rkM] at gk
   replace gk:=Lib.hid gk
   clear HZ bz RZ hfb NN NN9 M3 L3 L4 hn9 n1 n2 r1 r2 b1 b2 hr bA bB bC hsz hsF T1 T2 HAD bd1 bd2 bd3 bd4 bd5 bd6 bd7 bd8 bd9
   clear SBW
   clear SB_wo
   clear SB_XF
   clear B_XF
   have hk:=(hCO.out.below B_wo.out hCO.out.lt)
   have k0':=hk.cell (i:=0) rfl
   have k1':=hk.cell (i:=1) rfl
   have k2':=hk.cell (i:=2) rfl
   have hq:=FB.out
   have q0':=hq.cell (i:=0) rfl
   have q1':=hq.cell (i:=1) rfl
   have q2':=hq.cell (i:=2) rfl
   have q3':=hq.cell (i:=3) rfl
   have q4':=hq.cell (i:=4) rfl
   have q5':=hq.cell (i:=5) rfl
   have q6':=hq.cell (i:=6) rfl
   have q7':=hq.cell (i:=7) rfl
   have q8':=hq.cell (i:=8) rfl
   have q9':=hq.cell (i:=9) rfl
   have q10':=hq.cell (i:=10) rfl
   have ltq:=hq.lt
   go_wp2_with fail
   refine (gk.out _ BZ9.out BW.out).mono ?_
   rintro e w9 ⟨rfl,b9⟩
   replace BW:=Lib.hid (BW.out.trans (b9.mono BW.out.size))
   replace B_wo:=Lib.hid (B_wo.out.trans (b9.mono B_wo.out.size))
   have BZ9:=Lib.hid b9
   clear b9
   clear hk k0' k1' k2' hq q0' q1' q2' q3' q4' q5' q6' q7' q8' q9' q10' ltq
   have hk:=(hCO.out.below B_wo.out hCO.out.lt)
   have k0':=hk.cell (i:=0) rfl
   have k1':=hk.cell (i:=1) rfl
   have k2':=hk.cell (i:=2) rfl
   have hq:=(FB.out.below BZ9.out FB.out.lt)
   have q0':=hq.cell (i:=0) rfl
   have q1':=hq.cell (i:=1) rfl
   have q2':=hq.cell (i:=2) rfl
   have q3':=hq.cell (i:=3) rfl
   have q4':=hq.cell (i:=4) rfl
   have q5':=hq.cell (i:=5) rfl
   have q6':=hq.cell (i:=6) rfl
   have q7':=hq.cell (i:=7) rfl
   have q8':=hq.cell (i:=8) rfl
   have q9':=hq.cell (i:=9) rfl
   have q10':=hq.cell (i:=10) rfl
   have ltq:=hq.lt
   go_wp2
   go_ret
   exact⟨rfl,BW.out⟩
end Go.Proofs.YtpimbaaahcemhaaGreat.certRocks
