/- package cert: Check. -/
import Derived.Test.YtpimbaaahcemhaaGreatBin33
import Derived.Test.YtpimbaaahcemhaaGreatBin32
namespace Go.Proofs.YtpimbaaahcemhaaGreat
open Go.RowKit
attribute [local irreducible] wpQuiet
theorem bef_bd {m:Msn} (V:VMsn m) {c:Crt} (hal:∀ j,j<c.psg.length→okP c j=true) {k:Nat} (hk:k<c.psg.length) (hk1:k<m.ways.length):(0≤befT m c k∧befT m c k≤1000000000000)∧0≤befE m c k∧befE m c k≤1000000000000:=by
 unfold befT befE
 by_cases h0:k=0
 ·simp [h0]
 rw [if_neg h0,if_neg h0]
 obtain⟨-,-,-,r3,r4,-⟩:=okP_split (hal (k - 1) (by omega))
 obtain⟨-,-,-,-,g1,g2,g3,g4,-⟩:=wayB_true (waysB_at V.ways (j:=k) hk1)
 have hid0:=V.idle
 have hmul:=Int.mul_nonneg hid0.1 g3
 have hmul2:m.idle*(wy m.ways k).wait≤1000*100000:=Int.mul_le_mul hid0.2 g4 g3 (by omega)
 split <;> omega
set_option linter.unusedSimpArgs false in
set_option linter.unusedVariables false in
set_option maxRecDepth 8000 in
set_option maxHeartbeats 6400000 in
theorem check_any (m : Msn) (vw vh vr : Value) (c : Crt) (vs vp ve : Value) (w : World) (hm : MsnAt w.heap.size w m vw vh vr) (hc : CrtAt w.heap.size w c vs vp ve) :
  Calls Tryz.prog 13 #[.agg (msnCells m vw vh vr),.agg #[vs,vp,ve]] w fun e w'=>e=.returned (.tuple #[.bool (chkB m c),.int .i64 (chkE m c)])∧Below w.heap.size w w':=by
 have ff:=fun w1 (B:Below w.heap.size w w1)=>formed_any m vw vh vr c vs vp ve w1 ((hm.below B).mono B.size) ((hc.below B).mono B.size)
 have HC:chkB m c=(frmB m c && decide (∀ i,i<c.psg.length→lgB m c i=true)):=rfl
 have HE:chkE m c=if frmB m c=true then 0 else 1:=rfl
 have hfs:=fun h=>frm_split (m:=m) (c:=c) h
 have fb:=fun w1 (B:Below w.heap.size w w1) hF i hi=>before_any m vw vh vr c vs vp ve w1 ((hm.below B).mono B.size) ((hc.below B).mono B.size) hF i hi
 have fl:=fun w1 (B:Below w.heap.size w w1) (i j:Nat) hV hi hj=>leg_nat (m:=m) (a:=i) (b:=j) hV hi hj ▸ leg_all m vw vh vr i j w1 ((hm.below B).mono B.size)
 have fc:=fun w1 (B:Below w.heap.size w w1) (i j:Nat)=>pcost_all m vw vh vr i j w1 ((hm.below B).mono B.size)
 have fh:=fun w1 (B:Below w.heap.size w w1) hV k hk=>phome_yes m vw vh vr k w1 ((hm.below B).mono B.size) hV hk
 have g3:=fun w1 (B:Below w.heap.size w w1) bp bc bi bm u vs vp ar cr p l i hi hV hi1=>chk3_any bp bc bi bm u vs vp ar cr p l i hi m vw vh vr w1 ((hm.below B).mono B.size) hV hi1
 have g4:=fun w1 (B:Below w.heap.size w w1) bm bi bp u p i hi1 n41=>chk4_any bm bi bp u p i m vw vh vr w1 ((hm.below B).mono B.size) hi1 n41
 generalize chkB m c=cb at *
 generalize chkE m c=ce at *
 have hir:=hc.2.2
 obtain⟨⟨-,a1,cap1,rfl,-⟩,⟨-,a2,cap2,rfl,-⟩,⟨-,a3,cap3,rfl,-⟩⟩:=hm
 obtain⟨⟨-,aS,cS,rfl,-⟩,⟨-,ap,cp,rfl,hcp⟩,⟨-,ar,cr,rfl,-⟩⟩:=hc
 unfold msnCells at *
 have HCP:=Lib.hid hcp
 have HIR:=Lib.hid hir
 replace ff:=Lib.hid ff
 replace fb:=Lib.hid fb
 replace fl:=Lib.hid fl
 replace fc:=Lib.hid fc
 replace fh:=Lib.hid fh
 replace g3:=Lib.hid g3
 replace g4:=Lib.hid g4
 replace HC:=Lib.hid HC
 replace HE:=Lib.hid HE
 clear hcp hir
 have BW:=Lib.hid (Below.refl w.heap.size w)
 go_enter Tryz.func13,Tryz.ntmps13
 go_wp2_with fail
 generalize hXX0:World.alloc (World.alloc w _) _=X0
 obtain⟨q0,q1,hA,hzX0⟩:=box2 hXX0
 clear hXX0
 have BW:=Lib.hid hA
 clear hA
 have MB:=Lib.hid q0
 clear q0
 have CB:=Lib.hid q1
 clear q1
 clear hzX0
 obtain⟨c0,c1,c2,c3,c4,c5,c6,c7,c8,c9,c10⟩:=msn_cells (m:=m) MB.out
 have hcb:=CB.out
 have e0:=hcb.cell (i:=0) rfl
 have e1:=hcb.cell (i:=1) rfl
 have e2:=hcb.cell (i:=2) rfl
 refine (ff.out _ BW.out).mono ?_
 rintro e w1 ⟨rfl,b1⟩
 replace BW:=Lib.hid (BW.out.trans (b1.mono BW.out.size))
 have B_X0:=Lib.hid b1
 clear b1
 clear c0 c1 c2 c3 c4 c5 c6 c7 c8 c9 c10 hcb e0 e1 e2
 obtain⟨c0,c1,c2,c3,c4,c5,c6,c7,c8,c9,c10⟩:=msn_cells (m:=m) (MB.out.below B_X0.out MB.out.lt)
 have hcb:=(CB.out.below B_X0.out CB.out.lt)
 have e0:=hcb.cell (i:=0) rfl
 have e1:=hcb.cell (i:=1) rfl
 have e2:=hcb.cell (i:=2) rfl
 cases hF:frmB m c
 ·have HV:=Lib.hid (And.intro (show cb=false by rw [HC.out,hF];rfl) (show ce=1 by rw [HE.out,hF];rfl))
  go_wp2
  go_ret2
  exact⟨by rw [HV.out.1,HV.out.2];rfl,BW.out⟩
 have HCE:=Lib.hid (show ce=0 by rw [HE.out,hF];rfl)
 have HCB:=Lib.hid (show cb=decide (∀ i,i<c.psg.length→lgB m c i=true) by rw [HC.out,hF];rfl)
 obtain⟨hok,hl1,hl2,hal⟩:=hfs hF
 obtain⟨hV,-⟩:=radOk_two hok
 have V:=(validB_iff m).1 hV
 have n41:=V.n41
 have gb:=Lib.hid (fun w1 B i hi=>fb.out w1 B hF i hi)
 have gl:=Lib.hid (fun w1 B i j hi hj=>fl.out w1 B i j hV hi hj)
 have gh:=Lib.hid (fun w1 B k hk=>fh.out w1 B hV k hk)
 have VV:=Lib.hid V
 have HV0:=Lib.hid hV
 have HL:=Lib.hid hl2
 have HAL:=Lib.hid hal
 obtain⟨n,hn⟩:∃ n,c.psg.length=n:=⟨_,rfl⟩
 have hnw:n+1≤m.ways.length:=by have:=V.n2;omega
 have HN:=Lib.hid hn
 clear hok hl1 hl2 hal hV V hF hfs HC HE ff fb fl fh
 rw [hn] at e1
 go_wp2
 have hMB:=Lib.hid (MB.out.below B_X0.out MB.out.lt)
 have hCB:=Lib.hid (CB.out.below B_X0.out CB.out.lt)
 clear c0 c1 c2 c3 c4 c5 c6 c7 c8 c9 c10 hcb e0 e1 e2 hn
 go_loopw [31] (fun i wr=>∃ k:Nat,k≤n∧i=.int .i64 k∧(∀ j,j<k→lgB m c j=true)∧Below w1.heap.size w1 wr) (fun i _=>n - (intOf i).toNat)
 case atStart=>exact⟨0,Nat.zero_le _,rfl,fun j h=>by omega,Below.refl _ _⟩
 case round =>
  obtain⟨k,hk,rfl,hall,hB⟩:=hrel
  obtain⟨wo,hwo⟩:∃ x,x=wr:=⟨_,rfl⟩
  subst hwo
  have HA:=Lib.hid hall
  have BB:=Lib.hid hB
  replace BW:=Lib.hid (BW.out.trans (hB.mono BW.out.size))
  clear hall hB
  by_cases hlt:k<n
  ·obtain⟨b,o,rfl,hb,hc⟩:=HCP.out.resolve_left (by intro h;have:=HN.out;rw [h] at this;simp at this;omega)
   obtain⟨u,x0,hu,x1,x2,x3,x4⟩:=hc k (by rw [HN.out];exact hlt)
   replace x0:=(BW.out.cell (p:=⟨b,o+k*5,none⟩) hb).trans x0
   replace x1:=(BW.out.cell (p:=⟨b,o+k*5+1,none⟩) hb).trans x1
   replace x2:=(BW.out.cell (p:=⟨b,o+k*5+2,none⟩) hb).trans x2
   replace x3:=(BW.out.cell (p:=⟨b,o+k*5+3,none⟩) hb).trans x3
   replace x4:=(BW.out.cell (p:=⟨b,o+k*5+4,none⟩) hb).trans x4
   have HU:=Lib.hid ((hu.below BW.out).mono BW.out.size)
   obtain⟨au,cu,rfl⟩:=HU.out.len
   obtain⟨hgv,r1,r2,r3,r4,r5⟩:=okP_split (HAL.out k (by rw [HN.out];exact hlt))
   have hk1:k+1<m.ways.length:=by omega
   have hno:=Lib.hid (fun h:lgB m c k=false=>show cb=false by
    rw [HCB.out,decide_eq_false_iff_not]
    intro h'
    rw [h' k (by rw [HN.out];exact hlt)] at h
    cases h)
   have hsp:Hid (lgB m c k=(lg1 m c k && (lg2 m c k && (lg3 m c k && lg4 m c k)))):=rfl
   have hMO:=Lib.hid (hMB.out.below BB.out hMB.out.lt)
   have hCO:=Lib.hid (hCB.out.below BB.out hCB.out.lt)
   have gB:=Lib.hid (fun w1 B=>gb.out w1 B k (by rw [HN.out];exact hlt))
   have gL:=Lib.hid (fun w1 B=>gl.out w1 B k (k+1) (by omega) hk1)
   have gC:=fun w1 B=>fc.out w1 B k (k+1)
   have okl:=okL_mk HV0.out (a:=k) (b:=k+1) (by omega) hk1
   simp only [pT,pE,legE,okl,if_true,Int.toNat_natCast] at gC
   clear okl
   have gH:=Lib.hid (fun w1 B=>gh.out w1 B (k+1) hk1)
   have hte:=homeTE_bd VV.out hk1 _ (Nat.le_refl (dep m (k+1)))
   have hgb:=gLeg_bd VV.out.leg VV.out.ways (i:=k) (j:=k+1) (by omega) hk1
   have heb:=eLeg_bd VV.out (i:=k) (j:=k+1) (by omega) hk1
   have hbf:=bef_bd VV.out HAL.out (k:=k) (by rw [HN.out];exact hlt) (by omega)
   have htb:=tLeg_bd VV.out.leg VV.out.ways (i:=k) (j:=k+1) (by omega) hk1
   have L1:Hid (lg1 m c k=(decide (befR m c k≤(pgd c.psg k).fr) && decide ((pgd c.psg k).fr+gLeg m k (k+1)≤(pgd c.psg k).tw))):=rfl
   have L2:Hid (lg2 m c k=(decide (befT m c k+tLeg m k (k+1)≤(pgd c.psg k).tm) && (decide (befE m c k+eLeg m k (k+1)≤(pgd c.psg k).en) && decide (homeE m (k+1) (dep m (k+1))≤c.ret.getD k 0)))):=rfl
   have L3:Hid (lg3 m c k=(decide ((pgd c.psg k).en+c.ret.getD k 0≤m.battery) && decide (kpsE m k (pgd c.psg k).fr (pgd c.psg k).tw (pgd c.psg k).tm (pgd c.psg k).en=0))):=rfl
   have L4:Hid (lg4 m c k=(decide (corE (atW m k) (pgd c.psg k).fr (atW m (k+1)) (pgd c.psg k).tw=0) && (withinB (corL (atW m k) (pgd c.psg k).fr (atW m (k+1)) (pgd c.psg k).tw) (pgd c.psg k).cor && !firB (pgd c.psg k).cor m.rocks))):=rfl
   generalize lg1 m c k=l1 at *
   generalize lg2 m c k=l2 at *
   generalize lg3 m c k=l3 at *
   generalize lg4 m c k=l4 at *
   generalize befR m c k=bR at *
   generalize befT m c k=bT at *
   generalize befE m c k=bE at *
   generalize gLeg m k (k+1)=lg at *
   generalize tLeg m k (k+1)=lt at *
   generalize dLeg m k (k+1)=ld at *
   generalize eLeg m k (k+1)=le at *
   generalize homeT m (k+1) (dep m (k+1))=hT at *
   generalize homeE m (k+1) (dep m (k+1))=hE at *
   have hir:Hid (k<c.ret.length):=by show k<c.ret.length;have:=HL.out;omega
   have R5:=Lib.hid r5
   have HP:=Lib.hid hte
   generalize pgd c.psg k=p at *
   clear hgv r5 hte hc hu
   replace gC:=Lib.hid gC
   have dk:decide ((k:Int)<(n:Int))=true:=by rw [decide_eq_true_eq];omega
   have kl:(k:Int)<(n:Int):=by omega
   have k0:(0:Int)≤(k:Int):=by omega
   have jw:IntKind.i64.wrap ((k:Int)+1)=((k+1:Nat):Int):=by rw [show (k:Int)+1=((k+1:Nat):Int) by omega];exact IntWalk.i64_in _ (by omega)
   have BR:=Lib.hid (Below.refl wo.heap.size wo)
   go_upto_region 6 with fail
   clear x0 x1 x2 x3 x4
   generalize hXY0:World.alloc (World.alloc wo _) _=Y0
   obtain⟨q0,q1,hA,hzY0⟩:=box2 hXY0
   clear hXY0
   replace BW:=Lib.hid (BW.out.trans (hA.mono BW.out.size))
   have BR:=Lib.hid hA
   clear hA
   have IB:=Lib.hid q0
   clear q0
   have PB:=Lib.hid q1
   clear q1
   obtain⟨c0,c1,c2,c3,c4,c5,c6,c7,c8,c9,c10⟩:=msn_cells (m:=m) (hMO.out.below BR.out hMO.out.lt)
   have hcb:=(hCO.out.below BR.out hCO.out.lt)
   have e0:=hcb.cell (i:=0) rfl
   have e1:=hcb.cell (i:=1) rfl
   have e2:=hcb.cell (i:=2) rfl
   have i0:=IB.out.cell (i:=0) rfl
   go_wp2_with fail
   refine (gB.out _ BW.out).mono ?_
   rintro e w2 ⟨rfl,b2⟩
   replace BW:=Lib.hid (BW.out.trans (b2.mono BW.out.size))
   replace BR:=Lib.hid (BR.out.trans (b2.mono BR.out.size))
   have B_Y0:=Lib.hid b2
   clear b2
   clear c0 c1 c2 c3 c4 c5 c6 c7 c8 c9 c10 hcb e0 e1 e2 i0
   obtain⟨c0,c1,c2,c3,c4,c5,c6,c7,c8,c9,c10⟩:=msn_cells (m:=m) (hMO.out.below BR.out hMO.out.lt)
   have hcb:=(hCO.out.below BR.out hCO.out.lt)
   have e0:=hcb.cell (i:=0) rfl
   have e1:=hcb.cell (i:=1) rfl
   have e2:=hcb.cell (i:=2) rfl
   have i0:=(IB.out.below B_Y0.out IB.out.lt).cell (i:=0) rfl
   clear c0 c1 c2 c3 c4 c5 c6 c7 c8 c9 c10 hcb e0 e1 e2 i0
   go_upto_region 7 with fail
   generalize hXY1:World.alloc (World.alloc (World.alloc w2 _) _) _=Y1
   obtain⟨q0,q1,q2,hA,hzY1⟩:=box3 hXY1
   clear hXY1
   replace BW:=Lib.hid (BW.out.trans (hA.mono BW.out.size))
   replace BR:=Lib.hid (BR.out.trans (hA.mono BR.out.size))
   replace B_Y0:=Lib.hid (B_Y0.out.trans (hA.mono B_Y0.out.size))
   clear hA
   have FB:=Lib.hid q0
   clear q0
   have TB:=Lib.hid q1
   clear q1
   have EB:=Lib.hid q2
   clear q2
   obtain⟨c0,c1,c2,c3,c4,c5,c6,c7,c8,c9,c10⟩:=msn_cells (m:=m) (hMO.out.below BR.out hMO.out.lt)
   have i0:=(IB.out.below B_Y0.out IB.out.lt).cell (i:=0) rfl
   go_wp2_with fail
   refine (gL.out _ BW.out).mono ?_
   rintro e w3 ⟨rfl,b3⟩
   replace BW:=Lib.hid (BW.out.trans (b3.mono BW.out.size))
   replace BR:=Lib.hid (BR.out.trans (b3.mono BR.out.size))
   replace B_Y0:=Lib.hid (B_Y0.out.trans (b3.mono B_Y0.out.size))
   have B_Y1:=Lib.hid b3
   clear b3
   clear c0 c1 c2 c3 c4 c5 c6 c7 c8 c9 c10 i0
   obtain⟨c0,c1,c2,c3,c4,c5,c6,c7,c8,c9,c10⟩:=msn_cells (m:=m) (hMO.out.below BR.out hMO.out.lt)
   have i0:=(IB.out.below B_Y0.out IB.out.lt).cell (i:=0) rfl
   clear c0 c1 c2 c3 c4 c5 c6 c7 c8 c9 c10 i0
   go_upto_region 8 with fail
   generalize hXY2:World.alloc w3 _=Y2
   obtain⟨q0,hA,hzY2⟩:=box1 hXY2
   clear hXY2
   replace BW:=Lib.hid (BW.out.trans (hA.mono BW.out.size))
   replace BR:=Lib.hid (BR.out.trans (hA.mono BR.out.size))
   replace B_Y0:=Lib.hid (B_Y0.out.trans (hA.mono B_Y0.out.size))
   replace B_Y1:=Lib.hid (B_Y1.out.trans (hA.mono B_Y1.out.size))
   clear hA
   have GB:=Lib.hid q0
   clear q0
   obtain⟨c0,c1,c2,c3,c4,c5,c6,c7,c8,c9,c10⟩:=msn_cells (m:=m) (hMO.out.below BR.out hMO.out.lt)
   have i0:=(IB.out.below B_Y0.out IB.out.lt).cell (i:=0) rfl
   go_wp2_with fail
   refine (gC.out _ BW.out).mono ?_
   rintro e w4 ⟨rfl,b4⟩
   replace BW:=Lib.hid (BW.out.trans (b4.mono BW.out.size))
   replace BR:=Lib.hid (BR.out.trans (b4.mono BR.out.size))
   replace B_Y0:=Lib.hid (B_Y0.out.trans (b4.mono B_Y0.out.size))
   replace B_Y1:=Lib.hid (B_Y1.out.trans (b4.mono B_Y1.out.size))
   have B_Y2:=Lib.hid b4
   clear b4
   clear c0 c1 c2 c3 c4 c5 c6 c7 c8 c9 c10 i0
   obtain⟨c0,c1,c2,c3,c4,c5,c6,c7,c8,c9,c10⟩:=msn_cells (m:=m) (hMO.out.below BR.out hMO.out.lt)
   have i0:=(IB.out.below B_Y0.out IB.out.lt).cell (i:=0) rfl
   clear c0 c1 c2 c3 c4 c5 c6 c7 c8 c9 c10 i0
   go_upto_region 9 with fail
   generalize hXY3:World.alloc (World.alloc w4 _) _=Y3
   obtain⟨q0,q1,hA,hzY3⟩:=box2 hXY3
   clear hXY3
   replace BW:=Lib.hid (BW.out.trans (hA.mono BW.out.size))
   replace BR:=Lib.hid (BR.out.trans (hA.mono BR.out.size))
   replace B_Y0:=Lib.hid (B_Y0.out.trans (hA.mono B_Y0.out.size))
   replace B_Y1:=Lib.hid (B_Y1.out.trans (hA.mono B_Y1.out.size))
   replace B_Y2:=Lib.hid (B_Y2.out.trans (hA.mono B_Y2.out.size))
   clear hA
   have AB:=Lib.hid q0
   clear q0
   have KB:=Lib.hid q1
   clear q1
   obtain⟨c0,c1,c2,c3,c4,c5,c6,c7,c8,c9,c10⟩:=msn_cells (m:=m) (hMO.out.below BR.out hMO.out.lt)
   have i0:=(IB.out.below B_Y0.out IB.out.lt).cell (i:=0) rfl
   go_wp2_with fail
   refine (gH.out _ BW.out).mono ?_
   rintro e w5 ⟨rfl,b5⟩
   replace BW:=Lib.hid (BW.out.trans (b5.mono BW.out.size))
   replace BR:=Lib.hid (BR.out.trans (b5.mono BR.out.size))
   replace B_Y0:=Lib.hid (B_Y0.out.trans (b5.mono B_Y0.out.size))
   replace B_Y1:=Lib.hid (B_Y1.out.trans (b5.mono B_Y1.out.size))
   replace B_Y2:=Lib.hid (B_Y2.out.trans (b5.mono B_Y2.out.size))
   have B_Y3:=Lib.hid b5
   clear b5
   clear c0 c1 c2 c3 c4 c5 c6 c7 c8 c9 c10 i0
   obtain⟨c0,c1,c2,c3,c4,c5,c6,c7,c8,c9,c10⟩:=msn_cells (m:=m) (hMO.out.below BR.out hMO.out.lt)
   have i0:=(IB.out.below B_Y0.out IB.out.lt).cell (i:=0) rfl
   clear c0 c1 c2 c3 c4 c5 c6 c7 c8 c9 c10 i0
   go_upto_region 10 with fail
   generalize hXY4:World.alloc w5 _=Y4
   obtain⟨q0,hA,hzY4⟩:=box1 hXY4
   clear hXY4
   replace BW:=Lib.hid (BW.out.trans (hA.mono BW.out.size))
   replace BR:=Lib.hid (BR.out.trans (hA.mono BR.out.size))
   replace B_Y0:=Lib.hid (B_Y0.out.trans (hA.mono B_Y0.out.size))
   replace B_Y1:=Lib.hid (B_Y1.out.trans (hA.mono B_Y1.out.size))
   replace B_Y2:=Lib.hid (B_Y2.out.trans (hA.mono B_Y2.out.size))
   replace B_Y3:=Lib.hid (B_Y3.out.trans (hA.mono B_Y3.out.size))
   clear hA
   have HB:=Lib.hid q0
   clear q0
   go_wp2
   generalize hXY5:World.alloc Y4 _=Y5
   obtain⟨q0,hA,hzY5⟩:=box1 hXY5
   clear hXY5
   replace BW:=Lib.hid (BW.out.trans (hA.mono BW.out.size))
   replace BR:=Lib.hid (BR.out.trans (hA.mono BR.out.size))
   replace B_Y0:=Lib.hid (B_Y0.out.trans (hA.mono B_Y0.out.size))
   replace B_Y1:=Lib.hid (B_Y1.out.trans (hA.mono B_Y1.out.size))
   replace B_Y2:=Lib.hid (B_Y2.out.trans (hA.mono B_Y2.out.size))
   replace B_Y3:=Lib.hid (B_Y3.out.trans (hA.mono B_Y3.out.size))
   have B_Y4:=Lib.hid hA
   clear hA
   have SL:=Lib.hid q0
   clear q0
   refine wp_loop_rounds 5 ?_
   replace SL:=SL.out
   rw [hzY4] at SL
   replace SL:=Lib.hid SL
   have s0:Y5.cell? ⟨w5.heap.size+1,0,none⟩=some (.func (.func 45) #[] #[.pointer (some ⟨wo.heap.size+1,0,none⟩),.pointer (some ⟨w2.heap.size,0,none⟩),.pointer (some ⟨w3.heap.size,0,none⟩)]):=SL.out.cell (i:=0) rfl
   have s1:Y5.cell? ⟨w5.heap.size+1,1,none⟩=some (.func (.func 46) #[] #[.pointer (some ⟨wo.heap.size+1,0,none⟩),.pointer (some ⟨w2.heap.size+1,0,none⟩),.pointer (some ⟨w4.heap.size,0,none⟩),.pointer (some ⟨w2.heap.size+1+1,0,none⟩),.pointer (some ⟨w4.heap.size+1,0,none⟩),.pointer (some ⟨w.heap.size+1,0,none⟩),.pointer (some ⟨wo.heap.size,0,none⟩),.pointer (some ⟨w5.heap.size,0,none⟩)]):=SL.out.cell (i:=1) rfl
   have s2:Y5.cell? ⟨w5.heap.size+1,2,none⟩=some (.func (.func 47) #[] #[.pointer (some ⟨wo.heap.size+1,0,none⟩),.pointer (some ⟨w.heap.size+1,0,none⟩),.pointer (some ⟨wo.heap.size,0,none⟩),.pointer (some ⟨w.heap.size,0,none⟩)]):=SL.out.cell (i:=2) rfl
   have s3:Y5.cell? ⟨w5.heap.size+1,3,none⟩=some (.func (.func 48) #[] #[.pointer (some ⟨w.heap.size,0,none⟩),.pointer (some ⟨wo.heap.size,0,none⟩),.pointer (some ⟨wo.heap.size+1,0,none⟩)]):=SL.out.cell (i:=3) rfl
   have ltSL:=SL.out.lt
   rw [rounds_succ]
   go_wp2_with fail
   have gg:=chk1_any _ _ _ _ p bR lg Y5 (PB.out.below B_Y0.out PB.out.lt) (FB.out.below B_Y1.out FB.out.lt) (GB.out.below B_Y2.out GB.out.lt) r1 hgb
   rw [← L1.out] at gg
   replace gg:=Lib.hid gg
   refine (gg.out).mono ?_
   rintro e w6 ⟨rfl,b6⟩
   replace BW:=Lib.hid (BW.out.trans (b6.mono BW.out.size))
   replace BR:=Lib.hid (BR.out.trans (b6.mono BR.out.size))
   replace B_Y0:=Lib.hid (B_Y0.out.trans (b6.mono B_Y0.out.size))
   replace B_Y1:=Lib.hid (B_Y1.out.trans (b6.mono B_Y1.out.size))
   replace B_Y2:=Lib.hid (B_Y2.out.trans (b6.mono B_Y2.out.size))
   replace B_Y3:=Lib.hid (B_Y3.out.trans (b6.mono B_Y3.out.size))
   replace B_Y4:=Lib.hid (B_Y4.out.trans (b6.mono B_Y4.out.size))
   have B_Y5:=Lib.hid b6
   clear b6
   clear gg
   clear s0 s1 s2 s3 ltSL
   have s0:w6.cell? ⟨w5.heap.size+1,0,none⟩=some (.func (.func 45) #[] #[.pointer (some ⟨wo.heap.size+1,0,none⟩),.pointer (some ⟨w2.heap.size,0,none⟩),.pointer (some ⟨w3.heap.size,0,none⟩)]):=(SL.out.below B_Y5.out SL.out.lt).cell (i:=0) rfl
   have s1:w6.cell? ⟨w5.heap.size+1,1,none⟩=some (.func (.func 46) #[] #[.pointer (some ⟨wo.heap.size+1,0,none⟩),.pointer (some ⟨w2.heap.size+1,0,none⟩),.pointer (some ⟨w4.heap.size,0,none⟩),.pointer (some ⟨w2.heap.size+1+1,0,none⟩),.pointer (some ⟨w4.heap.size+1,0,none⟩),.pointer (some ⟨w.heap.size+1,0,none⟩),.pointer (some ⟨wo.heap.size,0,none⟩),.pointer (some ⟨w5.heap.size,0,none⟩)]):=(SL.out.below B_Y5.out SL.out.lt).cell (i:=1) rfl
   have s2:w6.cell? ⟨w5.heap.size+1,2,none⟩=some (.func (.func 47) #[] #[.pointer (some ⟨wo.heap.size+1,0,none⟩),.pointer (some ⟨w.heap.size+1,0,none⟩),.pointer (some ⟨wo.heap.size,0,none⟩),.pointer (some ⟨w.heap.size,0,none⟩)]):=(SL.out.below B_Y5.out SL.out.lt).cell (i:=2) rfl
   have s3:w6.cell? ⟨w5.heap.size+1,3,none⟩=some (.func (.func 48) #[] #[.pointer (some ⟨w.heap.size,0,none⟩),.pointer (some ⟨wo.heap.size,0,none⟩),.pointer (some ⟨wo.heap.size+1,0,none⟩)]):=(SL.out.below B_Y5.out SL.out.lt).cell (i:=3) rfl
   have ltSL:=(SL.out.below B_Y5.out SL.out.lt).lt
   cases l1
   ·have HV:=Lib.hid (hno.out (by rw [hsp.out];rfl))
    go_wp2
    go_ret2
    exact⟨by rw [HV.out,HCE.out];rfl,BW.out⟩
   go_wp2
   rw [rounds_succ]
   go_wp2_with fail
   have gg:=chk2_any _ _ _ _ _ _ _ _ _ _ _ _ _ p c.ret k hir.out bT lt bE le hE w6 (PB.out.below B_Y0.out PB.out.lt) (TB.out.below B_Y1.out TB.out.lt) (AB.out.below B_Y3.out AB.out.lt) (EB.out.below B_Y1.out EB.out.lt) (KB.out.below B_Y3.out KB.out.lt) (hCO.out.below BR.out hCO.out.lt) (IB.out.below B_Y0.out IB.out.lt) (HB.out.below B_Y4.out HB.out.lt) ((HIR.out.below BW.out).mono BW.out.size) hbf.1 ⟨htb.1,by omega⟩ hbf.2 ⟨heb.2.2.2.2.1,by omega⟩
   rw [← L2.out] at gg
   replace gg:=Lib.hid gg
   refine (gg.out).mono ?_
   rintro e w7 ⟨rfl,b7⟩
   replace BW:=Lib.hid (BW.out.trans (b7.mono BW.out.size))
   replace BR:=Lib.hid (BR.out.trans (b7.mono BR.out.size))
   replace B_Y0:=Lib.hid (B_Y0.out.trans (b7.mono B_Y0.out.size))
   replace B_Y1:=Lib.hid (B_Y1.out.trans (b7.mono B_Y1.out.size))
   replace B_Y2:=Lib.hid (B_Y2.out.trans (b7.mono B_Y2.out.size))
   replace B_Y3:=Lib.hid (B_Y3.out.trans (b7.mono B_Y3.out.size))
   replace B_Y4:=Lib.hid (B_Y4.out.trans (b7.mono B_Y4.out.size))
   replace B_Y5:=Lib.hid (B_Y5.out.trans (b7.mono B_Y5.out.size))
   clear b7
   clear gg
   clear s0 s1 s2 s3 ltSL
   have s0:w7.cell? ⟨w5.heap.size+1,0,none⟩=some (.func (.func 45) #[] #[.pointer (some ⟨wo.heap.size+1,0,none⟩),.pointer (some ⟨w2.heap.size,0,none⟩),.pointer (some ⟨w3.heap.size,0,none⟩)]):=(SL.out.below B_Y5.out SL.out.lt).cell (i:=0) rfl
   have s1:w7.cell? ⟨w5.heap.size+1,1,none⟩=some (.func (.func 46) #[] #[.pointer (some ⟨wo.heap.size+1,0,none⟩),.pointer (some ⟨w2.heap.size+1,0,none⟩),.pointer (some ⟨w4.heap.size,0,none⟩),.pointer (some ⟨w2.heap.size+1+1,0,none⟩),.pointer (some ⟨w4.heap.size+1,0,none⟩),.pointer (some ⟨w.heap.size+1,0,none⟩),.pointer (some ⟨wo.heap.size,0,none⟩),.pointer (some ⟨w5.heap.size,0,none⟩)]):=(SL.out.below B_Y5.out SL.out.lt).cell (i:=1) rfl
   have s2:w7.cell? ⟨w5.heap.size+1,2,none⟩=some (.func (.func 47) #[] #[.pointer (some ⟨wo.heap.size+1,0,none⟩),.pointer (some ⟨w.heap.size+1,0,none⟩),.pointer (some ⟨wo.heap.size,0,none⟩),.pointer (some ⟨w.heap.size,0,none⟩)]):=(SL.out.below B_Y5.out SL.out.lt).cell (i:=2) rfl
   have s3:w7.cell? ⟨w5.heap.size+1,3,none⟩=some (.func (.func 48) #[] #[.pointer (some ⟨w.heap.size,0,none⟩),.pointer (some ⟨wo.heap.size,0,none⟩),.pointer (some ⟨wo.heap.size+1,0,none⟩)]):=(SL.out.below B_Y5.out SL.out.lt).cell (i:=3) rfl
   have ltSL:=(SL.out.below B_Y5.out SL.out.lt).lt
   cases l2
   ·have HV:=Lib.hid (hno.out (by rw [hsp.out];rfl))
    go_wp2
    go_ret2
    exact⟨by rw [HV.out,HCE.out];rfl,BW.out⟩
   go_wp2
   rw [rounds_succ]
   go_wp2_with fail
   have gg:=g3.out w7 BW.out _ _ _ _ _ _ _ _ _ p c.ret k hir.out HV0.out hk1 (PB.out.below B_Y0.out PB.out.lt) (hCO.out.below BR.out hCO.out.lt) (IB.out.below B_Y0.out IB.out.lt) (hMO.out.below BR.out hMO.out.lt) ((HIR.out.below BW.out).mono BW.out.size) r3 r4 R5.out
   rw [← L3.out] at gg
   replace gg:=Lib.hid gg
   refine (gg.out).mono ?_
   rintro e w8 ⟨rfl,b8⟩
   replace BW:=Lib.hid (BW.out.trans (b8.mono BW.out.size))
   replace BR:=Lib.hid (BR.out.trans (b8.mono BR.out.size))
   replace B_Y0:=Lib.hid (B_Y0.out.trans (b8.mono B_Y0.out.size))
   replace B_Y1:=Lib.hid (B_Y1.out.trans (b8.mono B_Y1.out.size))
   replace B_Y2:=Lib.hid (B_Y2.out.trans (b8.mono B_Y2.out.size))
   replace B_Y3:=Lib.hid (B_Y3.out.trans (b8.mono B_Y3.out.size))
   replace B_Y4:=Lib.hid (B_Y4.out.trans (b8.mono B_Y4.out.size))
   replace B_Y5:=Lib.hid (B_Y5.out.trans (b8.mono B_Y5.out.size))
   clear b8
   clear gg
   clear s0 s1 s2 s3 ltSL
   have s0:w8.cell? ⟨w5.heap.size+1,0,none⟩=some (.func (.func 45) #[] #[.pointer (some ⟨wo.heap.size+1,0,none⟩),.pointer (some ⟨w2.heap.size,0,none⟩),.pointer (some ⟨w3.heap.size,0,none⟩)]):=(SL.out.below B_Y5.out SL.out.lt).cell (i:=0) rfl
   have s1:w8.cell? ⟨w5.heap.size+1,1,none⟩=some (.func (.func 46) #[] #[.pointer (some ⟨wo.heap.size+1,0,none⟩),.pointer (some ⟨w2.heap.size+1,0,none⟩),.pointer (some ⟨w4.heap.size,0,none⟩),.pointer (some ⟨w2.heap.size+1+1,0,none⟩),.pointer (some ⟨w4.heap.size+1,0,none⟩),.pointer (some ⟨w.heap.size+1,0,none⟩),.pointer (some ⟨wo.heap.size,0,none⟩),.pointer (some ⟨w5.heap.size,0,none⟩)]):=(SL.out.below B_Y5.out SL.out.lt).cell (i:=1) rfl
   have s2:w8.cell? ⟨w5.heap.size+1,2,none⟩=some (.func (.func 47) #[] #[.pointer (some ⟨wo.heap.size+1,0,none⟩),.pointer (some ⟨w.heap.size+1,0,none⟩),.pointer (some ⟨wo.heap.size,0,none⟩),.pointer (some ⟨w.heap.size,0,none⟩)]):=(SL.out.below B_Y5.out SL.out.lt).cell (i:=2) rfl
   have s3:w8.cell? ⟨w5.heap.size+1,3,none⟩=some (.func (.func 48) #[] #[.pointer (some ⟨w.heap.size,0,none⟩),.pointer (some ⟨wo.heap.size,0,none⟩),.pointer (some ⟨wo.heap.size+1,0,none⟩)]):=(SL.out.below B_Y5.out SL.out.lt).cell (i:=3) rfl
   have ltSL:=(SL.out.below B_Y5.out SL.out.lt).lt
   cases l3
   ·have HV:=Lib.hid (hno.out (by rw [hsp.out];rfl))
    go_wp2
    go_ret2
    exact⟨by rw [HV.out,HCE.out];rfl,BW.out⟩
   go_wp2
   rw [rounds_succ]
   go_wp2_with fail
   have gg:=g4.out w8 BW.out _ _ _ _ p k hk1 n41 (PB.out.below B_Y0.out PB.out.lt) (IB.out.below B_Y0.out IB.out.lt) (hMO.out.below BR.out hMO.out.lt) ((HU.out.below BR.out).mono BR.out.size)
   rw [← L4.out] at gg
   replace gg:=Lib.hid gg
   refine (gg.out).mono ?_
   rintro e w9 ⟨rfl,b9⟩
   replace BW:=Lib.hid (BW.out.trans (b9.mono BW.out.size))
   replace BR:=Lib.hid (BR.out.trans (b9.mono BR.out.size))
   replace B_Y0:=Lib.hid (B_Y0.out.trans (b9.mono B_Y0.out.size))
   replace B_Y1:=Lib.hid (B_Y1.out.trans (b9.mono B_Y1.out.size))
   replace B_Y2:=Lib.hid (B_Y2.out.trans (b9.mono B_Y2.out.size))
   replace B_Y3:=Lib.hid (B_Y3.out.trans (b9.mono B_Y3.out.size))
   replace B_Y4:=Lib.hid (B_Y4.out.trans (b9.mono B_Y4.out.size))
   replace B_Y5:=Lib.hid (B_Y5.out.trans (b9.mono B_Y5.out.size))
   clear b9
   clear gg
   clear s0 s1 s2 s3 ltSL
   have s0:w9.cell? ⟨w5.heap.size+1,0,none⟩=some (.func (.func 45) #[] #[.pointer (some ⟨wo.heap.size+1,0,none⟩),.pointer (some ⟨w2.heap.size,0,none⟩),.pointer (some ⟨w3.heap.size,0,none⟩)]):=(SL.out.below B_Y5.out SL.out.lt).cell (i:=0) rfl
   have s1:w9.cell? ⟨w5.heap.size+1,1,none⟩=some (.func (.func 46) #[] #[.pointer (some ⟨wo.heap.size+1,0,none⟩),.pointer (some ⟨w2.heap.size+1,0,none⟩),.pointer (some ⟨w4.heap.size,0,none⟩),.pointer (some ⟨w2.heap.size+1+1,0,none⟩),.pointer (some ⟨w4.heap.size+1,0,none⟩),.pointer (some ⟨w.heap.size+1,0,none⟩),.pointer (some ⟨wo.heap.size,0,none⟩),.pointer (some ⟨w5.heap.size,0,none⟩)]):=(SL.out.below B_Y5.out SL.out.lt).cell (i:=1) rfl
   have s2:w9.cell? ⟨w5.heap.size+1,2,none⟩=some (.func (.func 47) #[] #[.pointer (some ⟨wo.heap.size+1,0,none⟩),.pointer (some ⟨w.heap.size+1,0,none⟩),.pointer (some ⟨wo.heap.size,0,none⟩),.pointer (some ⟨w.heap.size,0,none⟩)]):=(SL.out.below B_Y5.out SL.out.lt).cell (i:=2) rfl
   have s3:w9.cell? ⟨w5.heap.size+1,3,none⟩=some (.func (.func 48) #[] #[.pointer (some ⟨w.heap.size,0,none⟩),.pointer (some ⟨wo.heap.size,0,none⟩),.pointer (some ⟨wo.heap.size+1,0,none⟩)]):=(SL.out.below B_Y5.out SL.out.lt).cell (i:=3) rfl
   have ltSL:=(SL.out.below B_Y5.out SL.out.lt).lt
   cases l4
   ·have HV:=Lib.hid (hno.out (by rw [hsp.out];rfl))
    go_wp2
    go_ret2
    exact⟨by rw [HV.out,HCE.out];rfl,BW.out⟩
   go_wp2
   clear s0 s1 s2 s3 ltSL
   rw [rounds_succ]
   go_wp2
   have HV:=Lib.hid (show lgB m c k=true by rw [hsp.out];rfl)
   go_roundw
   case rel =>
    refine⟨k+1,by omega,by go_num,fun j hj=>?_,BB.out.trans (BR.out.mono BB.out.size)⟩
    by_cases e:j=k
    ·rw [e];exact HV.out
    ·exact HA.out j (by omega)
   case measure=>simp [intOf];omega
  obtain rfl:k=n:=by omega
  have jj:decide ((k:Int)<(k:Int))=false:=by simp
  have HV:=Lib.hid (show cb=true by rw [HCB.out,decide_eq_true_eq,HN.out];exact HA.out)
  go_wp2
  go_ret2
  exact⟨by rw [HV.out,HCE.out];rfl,BW.out⟩
end Go.Proofs.YtpimbaaahcemhaaGreat
