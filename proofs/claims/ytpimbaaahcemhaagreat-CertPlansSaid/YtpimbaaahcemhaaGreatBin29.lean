/- package cert: isFormed. | package cert: before. | rows of passages that grow; slices.Clone of integers. | package cert: Covers; the reference's Sam .. -/
import Derived.Test.YtpimbaaahcemhaaGreatBin28
import Derived.Test.YtpimbaaahcemhaaGreatBin25
import Derived.Test.YtpimbaaahcemhaaGreatBin06
import Derived.Test.YtpimbaaahcemhaaGreatBin10
import Derived.Lib.SliceRun
import Derived.ArgAppend
import Derived.Test.YtpimbaaahcemhaaGreatBin09
import Derived.Test.YtpimbaaahcemhaaGreatBin05
import Derived.Test.YtpimbaaahcemhaaGreatBin11
import Derived.Test.YtpimbaaahcemhaaGreatBin24
import Derived.Test.YtpimbaaahcemhaaGreatBin20
import Derived.Test.YtpimbaaahcemhaaGreatBin12
import Derived.Test.YtpimbaaahcemhaaGreatBin22
namespace Go.Proofs.YtpimbaaahcemhaaGreat
open Go.RowKit
attribute [local irreducible] wpQuiet
theorem cwithin_any (n most:Int) (w:World):Calls Tryz.prog 94 #[.int .i64 n,.int .i64 most] w fun e w'=>e=.returned (.bool (wthB n most))∧w'=w:=by
 have H:Hid (wthB n most=decide (0≤n∧n≤most)):=rfl
 by_cases h:0≤n
 ·have d:decide (0≤n)=true:=by rw [decide_eq_true_eq];exact h
  by_cases h2:n≤most
  ·have d2:decide (n≤most)=true:=by rw [decide_eq_true_eq];exact h2
   have HV:=Lib.hid (show wthB n most=true by rw [H.out,decide_eq_true_eq];exact⟨h,h2⟩)
   clear h h2
   go_enter Tryz.func94,Tryz.ntmps94
   go_wp2
   go_ret
   exact⟨by rw [HV.out];rfl,rfl⟩
  ·have d2:decide (n≤most)=false:=by rw [decide_eq_false_iff_not];exact h2
   have HV:=Lib.hid (show wthB n most=false by rw [H.out,decide_eq_false_iff_not];exact fun x=>h2 x.2)
   clear h h2
   go_enter Tryz.func94,Tryz.ntmps94
   go_wp2
   go_ret
   exact⟨by rw [HV.out];rfl,rfl⟩
 ·have d:decide (0≤n)=false:=by rw [decide_eq_false_iff_not];exact h
  have HV:=Lib.hid (show wthB n most=false by rw [H.out,decide_eq_false_iff_not];exact fun x=>h x.1)
  clear h
  go_enter Tryz.func94,Tryz.ntmps94
  go_wp2
  go_ret
  exact⟨by rw [HV.out];rfl,rfl⟩
theorem radE_eq (m:Msn) (l:List Int):rdE m l=if radOkB m l=true then 0 else 1:=by unfold rdE;rfl
theorem radOk_two {m:Msn} {l:List Int} (h:radOkB m l=true):validB m=true∧stopsB m l=true:=by unfold radOkB at h;rwa [Bool.and_eq_true] at h
set_option linter.unusedSimpArgs false in
set_option linter.unusedVariables false in
set_option maxRecDepth 8000 in
set_option maxHeartbeats 6400000 in
theorem formed_any (m : Msn) (vw vh vr : Value) (c : Crt) (vs vp ve : Value) (w : World) (hm : MsnAt w.heap.size w m vw vh vr) (hc : CrtAt w.heap.size w c vs vp ve) :
  Calls Tryz.prog 41 #[.agg (msnCells m vw vh vr),.agg #[vs,vp,ve]] w fun e w'=>e=.returned (.bool (frmB m c))∧Below w.heap.size w w':=by
 have f1:=fun w1 (B:Below w.heap.size w w1)=>radii_all m vw vh vr vs c.stops w1 ((hm.below B).mono B.size) ((hc.1.below B).mono B.size)
 rw [radE_eq] at f1
 have hv2:=fun h=>radOk_two (m:=m) (l:=c.stops) h
 have HF:frmB m c=(radOkB m c.stops && decide (c.psg.length=m.ways.length - 1) && decide (c.ret.length=m.ways.length - 1) && decide (∀ j,j<c.psg.length→okP c j=true)):=rfl
 generalize frmB m c=fb at *
 obtain⟨⟨-,a1,cap1,rfl,-⟩,⟨-,a2,cap2,rfl,-⟩,⟨-,a3,cap3,rfl,-⟩⟩:=hm
 obtain⟨⟨-,aS,cS,rfl,-⟩,⟨-,ap,cp,rfl,hcp⟩,⟨-,ar,cr,rfl,hcr⟩⟩:=hc
 unfold msnCells at *
 have HCP:=Lib.hid hcp
 have HCR:=Lib.hid hcr
 replace f1:=Lib.hid f1
 replace HF:=Lib.hid HF
 clear hcp hcr
 have BW:=Lib.hid (Below.refl w.heap.size w)
 go_enter Tryz.func41,Tryz.ntmps41
 go_wp2_with fail
 generalize hXX0:World.alloc (World.alloc w _) _=X0
 obtain⟨q0,q1,hA,hzX0⟩:=box2 hXX0
 clear hXX0
 have BW:=Lib.hid hA
 clear hA
 have MB:=Lib.hid q0
 clear q0
 have CB:=Lib.hid q1
 clear q1
 clear hzX0
 obtain⟨c0,c1,c2,c3,c4,c5,c6,c7,c8,c9,c10⟩:=msn_cells (m:=m) MB.out
 have hcb:=CB.out
 have e0:=hcb.cell (i:=0) rfl
 have e1:=hcb.cell (i:=1) rfl
 have e2:=hcb.cell (i:=2) rfl
 refine (f1.out _ BW.out).mono ?_
 rintro e w1 ⟨u1,u2,rfl,-,-,b1⟩
 replace BW:=Lib.hid (BW.out.trans (b1.mono BW.out.size))
 have B_X0:=Lib.hid b1
 clear b1
 clear c0 c1 c2 c3 c4 c5 c6 c7 c8 c9 c10 hcb e0 e1 e2
 obtain⟨c0,c1,c2,c3,c4,c5,c6,c7,c8,c9,c10⟩:=msn_cells (m:=m) (MB.out.below B_X0.out MB.out.lt)
 have hcb:=(CB.out.below B_X0.out CB.out.lt)
 have e0:=hcb.cell (i:=0) rfl
 have e1:=hcb.cell (i:=1) rfl
 have e2:=hcb.cell (i:=2) rfl
 cases hok:radOkB m c.stops
 ·have HV:=Lib.hid (show fb=false by rw [HF.out,hok];rfl)
  go_wp2
  go_ret
  exact⟨by rw [HV.out];rfl,BW.out⟩
 obtain⟨hV,-⟩:=hv2 hok
 have V:=(validB_iff m).1 hV
 have n2:=V.n2
 have n41:=V.n41
 have hfb:=Lib.hid (show fb=(decide (c.psg.length=m.ways.length - 1) && decide (c.ret.length=m.ways.length - 1) && decide (∀ j,j<c.psg.length→okP c j=true)) by rw [HF.out,hok];rfl)
 clear hok hV V hv2 HF
 obtain⟨n,hn⟩:∃ n,m.ways.length - 1=n:=⟨_,rfl⟩
 have jw:IntKind.i64.wrap ((m.ways.length:Int) - 1)=(n:Int):=by rw [show (m.ways.length:Int) - 1=(n:Int) by omega];exact IntWalk.i64_in _ (by omega)
 have hn8:n≤40:=by omega
 replace hfb:=hfb.out
 rw [hn] at hfb
 replace hfb:=Lib.hid hfb
 clear hn
 by_cases h1:c.psg.length=n
 rotate_left
 ·have d1:((c.psg.length:Int) == (n:Int))=false:=by rw [beq_eq_false_iff_ne];omega
  have d1':((c.psg.length:Int) != (n:Int))=true:=by rw [bne_iff_ne];omega
  have HV:=Lib.hid (show fb=false by rw [hfb.out,decide_eq_false h1];rfl)
  clear h1
  go_wp2
  go_ret
  exact⟨by rw [HV.out];rfl,BW.out⟩
 by_cases h2:c.ret.length=n
 rotate_left
 ·have d1:((c.psg.length:Int) != (n:Int))=false:=by rw [bne_eq_false_iff_eq];omega
  have d2:((c.ret.length:Int) == (n:Int))=false:=by rw [beq_eq_false_iff_ne];omega
  have d2':((c.ret.length:Int) != (n:Int))=true:=by rw [bne_iff_ne];omega
  have HV:=Lib.hid (show fb=false by rw [hfb.out,decide_eq_false h2];simp)
  clear h1 h2
  go_wp2
  go_ret
  exact⟨by rw [HV.out];rfl,BW.out⟩
 have d1:((c.psg.length:Int) == (n:Int))=true:=by rw [beq_iff_eq];omega
 have d2:((c.ret.length:Int) == (n:Int))=true:=by rw [beq_iff_eq];omega
 have d3:((n:Int) == (n:Int))=true:=by simp
 replace hfb:=hfb.out
 rw [decide_eq_true h1,decide_eq_true h2,Bool.true_and,Bool.true_and,h1] at hfb
 have H1:=Lib.hid h1
 have H2:=Lib.hid h2
 rw [h1] at e1
 rw [h2] at e2
 clear h1 h2 d1 d2
 replace hfb:=Lib.hid hfb
 go_wp2
 have BC:=Lib.hid (Below.refl w1.heap.size w1)
 have hCB:=Lib.hid (CB.out.below B_X0.out CB.out.lt)
 clear c0 c1 c2 c3 c4 c5 c6 c7 c8 c9 c10 hcb e0 e1 e2
 go_loopw [42] (fun i wr=>∃ k:Nat,k≤n∧i=.int .i64 k∧(∀ j,j<k→okP c j=true)∧Below w1.heap.size w1 wr) (fun i _=>n - (intOf i).toNat)
 case atStart=>exact⟨0,Nat.zero_le _,rfl,fun j h=>by omega,Below.refl _ _⟩
 case round =>
  obtain⟨k,hk,rfl,hall,hB⟩:=hrel
  obtain⟨wo,hwo⟩:∃ x,x=wr:=⟨_,rfl⟩
  subst hwo
  have HA:=Lib.hid hall
  have BB:=Lib.hid (And.intro hB (BW.out.trans (hB.mono BW.out.size)))
  clear hall hB
  by_cases hlt:k<n
  ·obtain⟨b,o,rfl,hb,hc⟩:=HCP.out.resolve_left (by intro h;have:=H1.out;rw [h] at this;simp at this;omega)
   obtain⟨u,x0,hu,x1,x2,x3,x4⟩:=hc k (by rw [H1.out];exact hlt)
   obtain⟨b',o',rfl,hb',hc'⟩:=HCR.out.resolve_left (by intro h;have:=H2.out;rw [h] at this;simp at this;omega)
   have x5:=hc' k (by rw [H2.out];exact hlt)
   have hok:Hid (okP c k=(goValid (pgd c.psg k).cor && (wthB (pgd c.psg k).fr 100000 && (wthB (pgd c.psg k).tw 100000 && (wthB (pgd c.psg k).tm 1000000000 && (wthB (pgd c.psg k).en 1000000000 && wthB (c.ret.getD k 0) 1000000000)))))):=rfl
   have hno:=Lib.hid (fun h:okP c k=false=>show fb=false by
    rw [hfb.out,decide_eq_false_iff_not]
    intro h'
    rw [h' k hlt] at h
    cases h)
   generalize pgd c.psg k=p at *
   generalize c.ret.getD k 0=re at *
   replace x0:=(BB.out.2.cell (p:=⟨b,o+k*5,none⟩) hb).trans x0
   replace x1:=(BB.out.2.cell (p:=⟨b,o+k*5+1,none⟩) hb).trans x1
   replace x2:=(BB.out.2.cell (p:=⟨b,o+k*5+2,none⟩) hb).trans x2
   replace x3:=(BB.out.2.cell (p:=⟨b,o+k*5+3,none⟩) hb).trans x3
   replace x4:=(BB.out.2.cell (p:=⟨b,o+k*5+4,none⟩) hb).trans x4
   replace x5:=(BB.out.2.cell (p:=⟨b',o'+k,none⟩) hb').trans x5
   have HU:=Lib.hid ((hu.below BB.out.2).mono BB.out.2.size)
   obtain⟨au,cu,rfl⟩:=HU.out.len
   have HX5:=Lib.hid x5
   have hbz:=BB.out.2.size
   have hbb2:b'<wo.heap.size:=by omega
   have hCX:=Lib.hid (hCB.out.below BB.out.1 hCB.out.lt)
   have dk:decide ((k:Int)<(n:Int))=true:=by rw [decide_eq_true_eq];omega
   have kl:(k:Int)<(n:Int):=by omega
   have k0:(0:Int)≤(k:Int):=by omega
   have BR:=Lib.hid (Below.refl wo.heap.size wo)
   clear hc hc' hu x5
   go_upto_region 8 with fail
   generalize hXX8:World.alloc wo _=X8
   obtain⟨q0,hA,hzX8⟩:=box1 hXX8
   clear hXX8
   have BR:=Lib.hid hA
   clear hA
   have PB:=Lib.hid q0
   clear q0
   clear x0 x1 x2 x3 x4
   have hpb:=PB.out
   have y0:=hpb.cell (i:=0) rfl
   have y1:=hpb.cell (i:=1) rfl
   have y2:=hpb.cell (i:=2) rfl
   have y3:=hpb.cell (i:=3) rfl
   have y4:=hpb.cell (i:=4) rfl
   have hcx:=(hCX.out.below BR.out hCX.out.lt)
   have e2:X8.cell? ⟨w.heap.size+1,2,none⟩=some (.slice (some ⟨b',o',none⟩) n (n+cr)):=(hcx.cell (i:=2) rfl).trans (by rw [H2.out];rfl)
   have x5:=(BR.out.cell (p:=⟨b',o'+k,none⟩) hbb2).trans HX5.out
   go_wp2_with fail
   refine (hullValid_any _ p.cor X8 ((HU.out.below BR.out).mono BR.out.size)).mono ?_
   rintro e w2 ⟨rfl,b2⟩
   replace BR:=Lib.hid (BR.out.trans (b2.mono BR.out.size))
   have B_X8:=Lib.hid b2
   clear b2
   clear hpb y0 y1 y2 y3 y4 hcx e2 x5
   have hpb:=(PB.out.below B_X8.out PB.out.lt)
   have y0:=hpb.cell (i:=0) rfl
   have y1:=hpb.cell (i:=1) rfl
   have y2:=hpb.cell (i:=2) rfl
   have y3:=hpb.cell (i:=3) rfl
   have y4:=hpb.cell (i:=4) rfl
   have hcx:=(hCX.out.below BR.out hCX.out.lt)
   have e2:w2.cell? ⟨w.heap.size+1,2,none⟩=some (.slice (some ⟨b',o',none⟩) n (n+cr)):=(hcx.cell (i:=2) rfl).trans (by rw [H2.out];rfl)
   have x5:=(BR.out.cell (p:=⟨b',o'+k,none⟩) hbb2).trans HX5.out
   cases hb0:goValid p.cor
   ·skip
    have HV:=Lib.hid (hno.out (by rw [hok.out,hb0];rfl))
    go_wp2
    go_ret
    exact⟨by rw [HV.out];rfl,BB.out.2.trans (BR.out.mono BB.out.2.size)⟩
   go_wp2_with fail
   refine (cwithin_any _ _ _).mono ?_
   rintro e0 w0 ⟨rfl,hw0⟩
   rw [hw0]
   clear hw0 w0
   cases hb1:wthB p.fr 100000
   ·skip
    have HV:=Lib.hid (hno.out (by rw [hok.out,hb0,hb1];rfl))
    go_wp2
    go_ret
    exact⟨by rw [HV.out];rfl,BB.out.2.trans (BR.out.mono BB.out.2.size)⟩
   go_wp2_with fail
   refine (cwithin_any _ _ _).mono ?_
   rintro e0 w0 ⟨rfl,hw0⟩
   rw [hw0]
   clear hw0 w0
   cases hb2:wthB p.tw 100000
   ·skip
    have HV:=Lib.hid (hno.out (by rw [hok.out,hb0,hb1,hb2];rfl))
    go_wp2
    go_ret
    exact⟨by rw [HV.out];rfl,BB.out.2.trans (BR.out.mono BB.out.2.size)⟩
   go_wp2_with fail
   refine (cwithin_any _ _ _).mono ?_
   rintro e0 w0 ⟨rfl,hw0⟩
   rw [hw0]
   clear hw0 w0
   cases hb3:wthB p.tm 1000000000
   ·skip
    have HV:=Lib.hid (hno.out (by rw [hok.out,hb0,hb1,hb2,hb3];rfl))
    go_wp2
    go_ret
    exact⟨by rw [HV.out];rfl,BB.out.2.trans (BR.out.mono BB.out.2.size)⟩
   go_wp2_with fail
   refine (cwithin_any _ _ _).mono ?_
   rintro e0 w0 ⟨rfl,hw0⟩
   rw [hw0]
   clear hw0 w0
   cases hb4:wthB p.en 1000000000
   ·skip
    have HV:=Lib.hid (hno.out (by rw [hok.out,hb0,hb1,hb2,hb3,hb4];rfl))
    go_wp2
    go_ret
    exact⟨by rw [HV.out];rfl,BB.out.2.trans (BR.out.mono BB.out.2.size)⟩
   go_wp2_with fail
   refine (cwithin_any _ _ _).mono ?_
   rintro e0 w0 ⟨rfl,hw0⟩
   rw [hw0]
   clear hw0 w0
   cases hb5:wthB re 1000000000
   ·skip
    have HV:=Lib.hid (hno.out (by rw [hok.out,hb0,hb1,hb2,hb3,hb4,hb5];rfl))
    go_wp2
    go_ret
    exact⟨by rw [HV.out];rfl,BB.out.2.trans (BR.out.mono BB.out.2.size)⟩
   have HV:=Lib.hid (show okP c k=true by rw [hok.out,hb0,hb1,hb2,hb3,hb4,hb5];rfl)
   clear hpb y0 y1 y2 y3 y4 hcx e2 x5
   go_wp2
   go_roundw
   case rel =>
    refine⟨k+1,by omega,by go_num,fun j hj=>?_,BB.out.1.trans (BR.out.mono BB.out.1.size)⟩
    by_cases e:j=k
    ·rw [e];exact HV.out
    ·exact HA.out j (by omega)
   case measure=>simp [intOf];omega
  obtain rfl:k=n:=by omega
  have jj:decide ((k:Int)<(k:Int))=false:=by simp
  have HV:=Lib.hid (show fb=true by rw [hfb.out,decide_eq_true_eq];exact HA.out)
  go_wp2
  go_ret
  exact⟨by rw [HV.out];rfl,BB.out.2⟩
end Go.Proofs.YtpimbaaahcemhaaGreat
namespace Go.Proofs.YtpimbaaahcemhaaGreat
open Go.RowKit
attribute [local irreducible] wpQuiet
theorem frm_split {m:Msn} {c:Crt} (h:frmB m c=true):radOkB m c.stops=true∧c.psg.length=m.ways.length - 1∧c.ret.length=m.ways.length - 1∧∀ j,j<c.psg.length→okP c j=true:=by
 unfold frmB at h
 simp only [Bool.and_eq_true,decide_eq_true_eq] at h
 exact⟨h.1.1.1,h.1.1.2,h.1.2,h.2⟩
theorem okP_split {c:Crt} {j:Nat} (h:okP c j=true):goValid (pgd c.psg j).cor=true∧(0≤(pgd c.psg j).fr∧(pgd c.psg j).fr≤100000)∧(0≤(pgd c.psg j).tw∧(pgd c.psg j).tw≤100000)∧(0≤(pgd c.psg j).tm∧(pgd c.psg j).tm≤1000000000)∧(0≤(pgd c.psg j).en∧(pgd c.psg j).en≤1000000000)∧(0≤c.ret.getD j 0∧c.ret.getD j 0≤1000000000):=by
 unfold okP wthB at h
 simp only [Bool.and_eq_true,decide_eq_true_eq] at h
 exact h
set_option linter.unusedSimpArgs false in
set_option linter.unusedVariables false in
set_option maxRecDepth 8000 in
set_option maxHeartbeats 6400000 in
theorem before_any (m:Msn) (vw vh vr:Value) (c:Crt) (vs vp ve:Value) (w:World) (hm:MsnAt w.heap.size w m vw vh vr) (hc:CrtAt w.heap.size w c vs vp ve) (hF:frmB m c=true) (i:Nat) (hi:i<c.psg.length) :
  Calls Tryz.prog 42 #[.agg (msnCells m vw vh vr),.agg #[vs,vp,ve],.int .i64 i] w fun e w'=>e=.returned (.tuple #[.int .i64 (befR m c i),.int .i64 (befT m c i),.int .i64 (befE m c i)])∧Below w.heap.size w w':=by
 obtain⟨hok,hl1,hl2,hal⟩:=frm_split hF
 have V:=(validB_iff m).1 (radOk_two hok).1
 have n41:=V.n41
 have hid0:=V.idle
 have hww:=fun k hk=>wayB_true (waysB_at V.ways (j:=k) hk)
 have f1:=fun w1 (B:Below w.heap.size w w1)=>scontains_any vs c.stops (i:Int) w1 ((hc.1.below B).mono B.size)
 have HR:befR m c i=if i=0 then m.start else if (i:Int) ∈ c.stops then min (pgd c.psg (i - 1)).tw (wy m.ways i).fix else (pgd c.psg (i - 1)).tw:=rfl
 have HT:befT m c i=if i=0 then 0 else if (i:Int) ∈ c.stops then (pgd c.psg (i - 1)).tm+(wy m.ways i).wait else (pgd c.psg (i - 1)).tm:=rfl
 have HE:befE m c i=if i=0 then 0 else if (i:Int) ∈ c.stops then (pgd c.psg (i - 1)).en+m.idle*(wy m.ways i).wait else (pgd c.psg (i - 1)).en:=rfl
 generalize befR m c i=xR at *
 generalize befT m c i=xT at *
 generalize befE m c i=xE at *
 obtain⟨⟨-,a1,cap1,rfl,hcw⟩,⟨-,a2,cap2,rfl,-⟩,⟨-,a3,cap3,rfl,-⟩⟩:=hm
 obtain⟨⟨-,aS,cS,rfl,-⟩,⟨-,ap,cp,rfl,hcp⟩,⟨-,ar,cr,rfl,-⟩⟩:=hc
 unfold msnCells at *
 have HCW:=Lib.hid hcw
 have HCP:=Lib.hid hcp
 replace f1:=Lib.hid f1
 replace HR:=Lib.hid HR
 replace HT:=Lib.hid HT
 replace HE:=Lib.hid HE
 replace hww:=Lib.hid hww
 replace hal:=Lib.hid hal
 have BW:=Lib.hid (Below.refl w.heap.size w)
 clear hcw hcp V hF hok hl2
 by_cases hi0:i=0
 ·subst hi0
  clear hww hal
  have d0:(((0:Nat):Int) == 0)=true:=by simp
  go_enter Tryz.func42,Tryz.ntmps42
  have hwr:∀ o,(w.alloc (.cells #[.slice a1 m.ways.length (m.ways.length+cap1),.slice a2 m.home.length (m.home.length+cap2),.int .i64 m.start,.slice a3 m.rocks.length (m.rocks.length+cap3),.int .i64 m.speed,.int .i64 m.part,.int .i64 m.flow,.int .i64 m.idle,.int .i64 m.drive,.int .i64 m.battery,.int .i64 m.deadline] 26) |>.alloc o).cell? ⟨w.heap.size,2,none⟩=some (.int .i64 m.start):=fun o=>by
   have h1:=(Has.new w #[.slice a1 m.ways.length (m.ways.length+cap1),.slice a2 m.home.length (m.home.length+cap2),.int .i64 m.start,.slice a3 m.rocks.length (m.rocks.length+cap3),.int .i64 m.speed,.int .i64 m.part,.int .i64 m.flow,.int .i64 m.idle,.int .i64 m.drive,.int .i64 m.battery,.int .i64 m.deadline] 26).below ((Below.refl (w.heap.size+1) _).alloc (by simp) o) (by omega)
   exact h1.cell (i:=2) rfl
  go_wp2
  go_ret3
  exact⟨by rw [HR.out,HT.out,HE.out];rfl,by repeat (first | exact Below.refl _ _ | assumption | apply Below.drew | refine Below.setCell ?_ (by first | omega | (simp;done) | (simp;omega)) _ | refine Below.alloc ?_ (by first | omega | (simp;done) | (simp;omega)) _ | refine Below.call (by assumption) ?_ (by first | omega | (simp;done) | (simp;omega)))⟩
 obtain⟨k,rfl⟩:∃ k,i=k+1:=⟨i - 1,by omega⟩
 have hk1:k+1<m.ways.length:=by omega
 have hz:(((k+1:Nat):Int) == 0)=false:=by rw [beq_eq_false_iff_ne];omega
 have jw:IntKind.i64.wrap (((k+1:Nat):Int) - 1)=(k:Int):=by rw [show ((k+1:Nat):Int) - 1=(k:Int) by omega];exact IntWalk.i64_in _ (by omega)
 replace HR:=HR.out
 replace HT:=HT.out
 replace HE:=HE.out
 rw [if_neg (by omega),Nat.add_sub_cancel] at HR HT HE
 obtain⟨b,o,rfl,hb,hcp⟩:=HCP.out.resolve_left (by intro h;rw [h] at hi;simp at hi)
 obtain⟨u,x0,hu,x1,x2,x3,x4⟩:=hcp k (by omega)
 obtain⟨bw,ow,rfl,hbw,hcw⟩:=HCW.out.resolve_left (by intro h;rw [h] at hk1;simp at hk1)
 obtain⟨y0,y1,y2,y3,y4⟩:=hcw (k+1) hk1
 obtain⟨-,hr1,hr2,hr3,hr4,-⟩:=okP_split (hal.out k (by omega))
 obtain⟨-,-,-,-,g1,g2,g3,g4,-⟩:=hww.out (k+1) hk1
 obtain⟨au,cu,rfl⟩:=hu.len
 generalize pgd c.psg k=p at *
 obtain⟨⟨qx,qy,fx,wt,bk⟩,hq⟩:∃ q,wy m.ways (k+1)=q:=⟨_,rfl⟩
 rw [hq] at HR HT HE y0 y1 y2 y3 y4 g1 g2 g3 g4
 simp only at HR HT HE y0 y1 y2 y3 y4 g1 g2 g3 g4
 have hmul:=Int.mul_nonneg hid0.1 g3
 have hmul2:m.idle*wt≤1000*100000:=Int.mul_le_mul hid0.2 g4 g3 (by omega)
 have w1:IntKind.i64.wrap (p.tm+wt)=p.tm+wt:=IntWalk.i64_in _ (by omega)
 have w2':IntKind.i64.wrap (m.idle*wt)=m.idle*wt:=IntWalk.i64_in _ (by omega)
 have w3:IntKind.i64.wrap (p.en+m.idle*wt)=p.en+m.idle*wt:=IntWalk.i64_in _ (by omega)
 replace HR:=Lib.hid HR
 replace HT:=Lib.hid HT
 replace HE:=Lib.hid HE
 have kl:((k+1:Nat):Int)<m.ways.length:=by omega
 have kl0:(0:Int)≤((k+1:Nat):Int):=by omega
 have kp:(k:Int)<c.psg.length:=by omega
 have kp0:(0:Int)≤(k:Int):=by omega
 have kl':(k:Int)+1<m.ways.length:=by omega
 have kl0':(0:Int)≤(k:Int)+1:=by omega
 have jk:IntKind.i64.wrap (k:Int)=k:=IntWalk.i64_in _ (by omega)
 clear hcw hcp hww hal hq hmul hmul2 hu hi0 HCW HCP hl1
 go_enter Tryz.func42,Tryz.ntmps42
 go_upto_region 3 with fail
 generalize hXX0:World.alloc (World.alloc w _) _=X0
 obtain⟨q0,q1,hA,hzX0⟩:=box2 hXX0
 clear hXX0
 have BW:=Lib.hid hA
 clear hA
 have MB:=Lib.hid q0
 clear q0
 have CB:=Lib.hid q1
 clear q1
 clear hzX0
 have m0:=MB.out.cell (i:=0) rfl
 have e1:=CB.out.cell (i:=1) rfl
 replace x0:=(BW.out.cell (p:=⟨b,o+k*5,none⟩) hb).trans x0
 replace x1:=(BW.out.cell (p:=⟨b,o+k*5+1,none⟩) hb).trans x1
 replace x2:=(BW.out.cell (p:=⟨b,o+k*5+2,none⟩) hb).trans x2
 replace x3:=(BW.out.cell (p:=⟨b,o+k*5+3,none⟩) hb).trans x3
 replace x4:=(BW.out.cell (p:=⟨b,o+k*5+4,none⟩) hb).trans x4
 replace y0:=(BW.out.cell (p:=⟨bw,ow+(k+1)*5,none⟩) hbw).trans y0
 replace y1:=(BW.out.cell (p:=⟨bw,ow+(k+1)*5+1,none⟩) hbw).trans y1
 replace y2:=(BW.out.cell (p:=⟨bw,ow+(k+1)*5+2,none⟩) hbw).trans y2
 replace y3:=(BW.out.cell (p:=⟨bw,ow+(k+1)*5+3,none⟩) hbw).trans y3
 replace y4:=(BW.out.cell (p:=⟨bw,ow+(k+1)*5+4,none⟩) hbw).trans y4
 go_upto_region 3 with fail
 go_cut [9,10] from 15 (fun b1 b2 wx=>∃ x y,b1=.pointer (some ⟨x,0,none⟩)∧b2=.pointer (some ⟨y,0,none⟩)∧x≠y∧X0.heap.size≤x∧X0.heap.size≤y∧Has wx x #[.slice au p.cor.length (p.cor.length+cu),.int .i64 p.fr,.int .i64 p.tw,.int .i64 p.tm,.int .i64 p.en] 48∧Has wx y #[.int .i64 qx,.int .i64 qy,.int .i64 fx,.int .i64 wt,.int .i64 bk] 65∧Below X0.heap.size X0 wx)
 case first =>
  refine (wpIn_wide (n:=9)).1 ?_
  refine wpIn_region_sched (lets_wide _) 14 (fun X=>Below X0.heap.size X0 X) (by kernel_rfl) (by kernel_rfl) (by kernel_rfl) fun hH inv0=>?_
  refine sched_take hH (i:=0) (v:=.pointer (some ⟨w.heap.size+1,1,none⟩)) (drop_get rfl) (by omega) inv0 (by kernel_rfl) (by kernel_rfl) rfl (fun X hX=>?_) fun inv1=>?_
  ·go_simp
  simp only [Act.put,List.setIfInBounds_toArray,List.set_cons_zero,List.set_cons_succ]
  clear inv0
  refine sched_take hH (i:=1) (v:=.slice (some ⟨b,o,none⟩) c.psg.length (c.psg.length+cp)) (drop_get rfl) (by omega) inv1 (by kernel_rfl) (by kernel_rfl) rfl (fun X hX=>?_) fun inv2=>?_
  ·have re1:=(hX.cell (p:=⟨w.heap.size+1,1,none⟩) (World.block_lt_of_cell? _ _ e1)).trans e1;go_simp
  simp only [Act.put,List.setIfInBounds_toArray,List.set_cons_zero,List.set_cons_succ]
  clear inv1
  refine sched_take hH (i:=2) (v:=.int .i64 ((k+1:Nat):Int)) (drop_get rfl) (by omega) inv2 (by kernel_rfl) (by kernel_rfl) rfl (fun X hX=>?_) fun inv3=>?_
  ·go_simp
  simp only [Act.put,List.setIfInBounds_toArray,List.set_cons_zero,List.set_cons_succ]
  clear inv2
  refine sched_take hH (i:=3) (v:=.int .i64 (k:Int)) (drop_get rfl) (by omega) inv3 (by kernel_rfl) (by kernel_rfl) rfl (fun X hX=>?_) fun inv4=>?_
  ·go_simp
  simp only [Act.put,List.setIfInBounds_toArray,List.set_cons_zero,List.set_cons_succ]
  clear inv3
  refine sched_take hH (i:=4) (v:=.pointer (some ⟨b,o+k*5,none⟩)) (drop_get rfl) (by omega) inv4 (by kernel_rfl) (by kernel_rfl) rfl (fun X hX=>?_) fun inv5=>?_
  ·go_simp
  simp only [Act.put,List.setIfInBounds_toArray,List.set_cons_zero,List.set_cons_succ]
  clear inv4
  refine sched_take hH (i:=5) (v:=.agg #[.slice au p.cor.length (p.cor.length+cu),.int .i64 p.fr,.int .i64 p.tw,.int .i64 p.tm,.int .i64 p.en]) (drop_get rfl) (by omega) inv5 (by kernel_rfl) (by kernel_rfl) rfl (fun X hX=>?_) fun inv6=>?_
  ·have rx0:=(hX.cell (p:=⟨b,o+k*5,none⟩) (World.block_lt_of_cell? _ _ x0)).trans x0;have rx1:=(hX.cell (p:=⟨b,o+k*5+1,none⟩) (World.block_lt_of_cell? _ _ x1)).trans x1;have rx2:=(hX.cell (p:=⟨b,o+k*5+2,none⟩) (World.block_lt_of_cell? _ _ x2)).trans x2;have rx3:=(hX.cell (p:=⟨b,o+k*5+3,none⟩) (World.block_lt_of_cell? _ _ x3)).trans x3;have rx4:=(hX.cell (p:=⟨b,o+k*5+4,none⟩) (World.block_lt_of_cell? _ _ x4)).trans x4;go_simp
  simp only [Act.put,List.setIfInBounds_toArray,List.set_cons_zero,List.set_cons_succ]
  clear inv5
  refine sched_take hH (i:=6) (v:=.pointer (some ⟨w.heap.size,0,none⟩)) (drop_get rfl) (by omega) inv6 (by kernel_rfl) (by kernel_rfl) rfl (fun X hX=>?_) fun inv7=>?_
  ·go_simp
  simp only [Act.put,List.setIfInBounds_toArray,List.set_cons_zero,List.set_cons_succ]
  clear inv6
  refine sched_take hH (i:=7) (v:=.slice (some ⟨bw,ow,none⟩) m.ways.length (m.ways.length+cap1)) (drop_get rfl) (by omega) inv7 (by kernel_rfl) (by kernel_rfl) rfl (fun X hX=>?_) fun inv8=>?_
  ·have rm0:=(hX.cell (p:=⟨w.heap.size,0,none⟩) (World.block_lt_of_cell? _ _ m0)).trans m0;go_simp
  simp only [Act.put,List.setIfInBounds_toArray,List.set_cons_zero,List.set_cons_succ]
  clear inv7
  refine sched_take hH (i:=8) (v:=.int .i64 ((k+1:Nat):Int)) (drop_get rfl) (by omega) inv8 (by kernel_rfl) (by kernel_rfl) rfl (fun X hX=>?_) fun inv9=>?_
  ·go_simp
  simp only [Act.put,List.setIfInBounds_toArray,List.set_cons_zero,List.set_cons_succ]
  clear inv8
  refine sched_take hH (i:=9) (v:=.pointer (some ⟨bw,ow+(k+1)*5,none⟩)) (drop_get rfl) (by omega) inv9 (by kernel_rfl) (by kernel_rfl) rfl (fun X hX=>?_) fun inv10=>?_
  ·go_simp
  simp only [Act.put,List.setIfInBounds_toArray,List.set_cons_zero,List.set_cons_succ]
  clear inv9
  refine sched_take hH (i:=10) (v:=.agg #[.int .i64 qx,.int .i64 qy,.int .i64 fx,.int .i64 wt,.int .i64 bk]) (drop_get rfl) (by omega) inv10 (by kernel_rfl) (by kernel_rfl) rfl (fun X hX=>?_) fun inv11=>?_
  ·have ry0:=(hX.cell (p:=⟨bw,ow+(k+1)*5,none⟩) (World.block_lt_of_cell? _ _ y0)).trans y0;have ry1:=(hX.cell (p:=⟨bw,ow+(k+1)*5+1,none⟩) (World.block_lt_of_cell? _ _ y1)).trans y1;have ry2:=(hX.cell (p:=⟨bw,ow+(k+1)*5+2,none⟩) (World.block_lt_of_cell? _ _ y2)).trans y2;have ry3:=(hX.cell (p:=⟨bw,ow+(k+1)*5+3,none⟩) (World.block_lt_of_cell? _ _ y3)).trans y3;have ry4:=(hX.cell (p:=⟨bw,ow+(k+1)*5+4,none⟩) (World.block_lt_of_cell? _ _ y4)).trans y4;go_simp
  simp only [Act.put,List.setIfInBounds_toArray,List.set_cons_zero,List.set_cons_succ]
  clear inv10
  clear inv11 hH
  have hS0:Below X0.heap.size X0 X0.drew:=Below.drew (Below.refl _ _)
  have hz0:=hS0.size
  generalize X0.drew=X0 at *
  refine sched_all (rs:=[11,12]) (by kernel_rfl) (by simp) hS0 (by simp) (fun i hi'=>?_)
  simp only [List.mem_cons,List.not_mem_nil,or_false] at hi'
  rcases hi' with rfl | rfl
  ·skip
   refine okOp_run (drop_get rfl) rfl (v:=.pointer (some ⟨X0.heap.size,0,none⟩)) (w':=X0.alloc (.cells #[.slice none 0 0,.int .i64 0,.int .i64 0,.int .i64 0,.int .i64 0] 48)) (by go_simp) ?_
   simp only [Act.put,List.setIfInBounds_toArray,List.set_cons_zero,List.set_cons_succ]
   have hNX0:=Has.new X0 #[.slice none 0 0,.int .i64 0,.int .i64 0,.int .i64 0,.int .i64 0] 48
   have hS1:=hS0.alloc (by omega) (.cells #[.slice none 0 0,.int .i64 0,.int .i64 0,.int .i64 0,.int .i64 0] 48)
   have hz1:X0.heap.size<(X0.alloc (.cells #[.slice none 0 0,.int .i64 0,.int .i64 0,.int .i64 0,.int .i64 0] 48)).heap.size:=by simp
   generalize X0.alloc (.cells #[.slice none 0 0,.int .i64 0,.int .i64 0,.int .i64 0,.int .i64 0] 48)=X1 at *
   refine sched_all (rs:=[12]) (by kernel_rfl) (by simp) hS1 (by simp) (fun i hi'=>?_)
   simp only [List.mem_cons,List.not_mem_nil,or_false] at hi'
   subst hi'
   refine okOp_run (drop_get rfl) rfl (v:=.pointer (some ⟨X1.heap.size,0,none⟩)) (w':=X1.alloc (.cells #[.int .i64 0,.int .i64 0,.int .i64 0,.int .i64 0,.int .i64 0] 65)) (by go_simp) ?_
   simp only [Act.put,List.setIfInBounds_toArray,List.set_cons_zero,List.set_cons_succ]
   have hNX1:=Has.new X1 #[.int .i64 0,.int .i64 0,.int .i64 0,.int .i64 0,.int .i64 0] 65
   replace hNX0:=hNX0.below ((Below.refl X1.heap.size X1).alloc (Nat.le_refl _) (.cells #[.int .i64 0,.int .i64 0,.int .i64 0,.int .i64 0,.int .i64 0] 65)) hNX0.lt
   have hS2:=hS1.alloc (by omega) (.cells #[.int .i64 0,.int .i64 0,.int .i64 0,.int .i64 0,.int .i64 0] 65)
   have hz2:X1.heap.size<(X1.alloc (.cells #[.int .i64 0,.int .i64 0,.int .i64 0,.int .i64 0,.int .i64 0] 65)).heap.size:=by simp
   generalize X1.alloc (.cells #[.int .i64 0,.int .i64 0,.int .i64 0,.int .i64 0,.int .i64 0] 65)=X2 at *
   refine sched_all (rs:=[13]) (by kernel_rfl) (by simp) hS2 (by simp) (fun i hi'=>?_)
   simp only [List.mem_cons,List.not_mem_nil,or_false] at hi'
   subst hi'
   refine okOp_row (drop_get rfl) rfl rfl (g:=X0.heap.size) (cells:=#[.slice au p.cor.length (p.cor.length+cu),.int .i64 p.fr,.int .i64 p.tw,.int .i64 p.tm,.int .i64 p.en]) rfl rfl hNX0 (by kernel_rfl) rfl (by simp [Value.oneCell']) ?_
   simp only [Act.put,List.setIfInBounds_toArray,List.set_cons_zero,List.set_cons_succ]
   have hP:=Has.put (cells:=#[.slice au p.cor.length (p.cor.length+cu),.int .i64 p.fr,.int .i64 p.tw,.int .i64 p.tm,.int .i64 p.en]) hNX0
   have hO:=Has.keep (cells:=#[.slice au p.cor.length (p.cor.length+cu),.int .i64 p.fr,.int .i64 p.tw,.int .i64 p.tm,.int .i64 p.en]) (C:=X0.heap.size) hNX1 (by omega)
   have hS3:=Below.setRow hS2 (C:=X0.heap.size) (by omega) #[.slice au p.cor.length (p.cor.length+cu),.int .i64 p.fr,.int .i64 p.tw,.int .i64 p.tm,.int .i64 p.en]
   generalize X2.setRow X0.heap.size #[.slice au p.cor.length (p.cor.length+cu),.int .i64 p.fr,.int .i64 p.tw,.int .i64 p.tm,.int .i64 p.en]=X3 at *
   refine sched_done (by kernel_rfl) hS3 ?_
   simp only [List.drop_succ_cons,List.drop_zero]
   refine wpListIn_row rfl rfl (g:=X1.heap.size) (cells:=#[.int .i64 qx,.int .i64 qy,.int .i64 fx,.int .i64 wt,.int .i64 bk]) rfl rfl hO (by kernel_rfl) rfl (by simp [Value.oneCell']) ?_
   have hP2:=Has.put (cells:=#[.int .i64 qx,.int .i64 qy,.int .i64 fx,.int .i64 wt,.int .i64 bk]) hO
   have hP1:=Has.keep (cells:=#[.int .i64 qx,.int .i64 qy,.int .i64 fx,.int .i64 wt,.int .i64 bk]) (C:=X1.heap.size) hP (by omega)
   have hS4:=Below.setRow hS3 (C:=X1.heap.size) (by omega) #[.int .i64 qx,.int .i64 qy,.int .i64 fx,.int .i64 wt,.int .i64 bk]
   generalize X3.setRow X1.heap.size #[.int .i64 qx,.int .i64 qy,.int .i64 fx,.int .i64 wt,.int .i64 bk]=X4 at *
   gi_wp2
   go_meet
   exact⟨_,_,rfl,rfl,by omega,by omega,by omega,hP1,hP2,hS4⟩
  ·skip
   refine okOp_run (drop_get rfl) rfl (v:=.pointer (some ⟨X0.heap.size,0,none⟩)) (w':=X0.alloc (.cells #[.int .i64 0,.int .i64 0,.int .i64 0,.int .i64 0,.int .i64 0] 65)) (by go_simp) ?_
   simp only [Act.put,List.setIfInBounds_toArray,List.set_cons_zero,List.set_cons_succ]
   have hNX0:=Has.new X0 #[.int .i64 0,.int .i64 0,.int .i64 0,.int .i64 0,.int .i64 0] 65
   have hS1:=hS0.alloc (by omega) (.cells #[.int .i64 0,.int .i64 0,.int .i64 0,.int .i64 0,.int .i64 0] 65)
   have hz1:X0.heap.size<(X0.alloc (.cells #[.int .i64 0,.int .i64 0,.int .i64 0,.int .i64 0,.int .i64 0] 65)).heap.size:=by simp
   generalize X0.alloc (.cells #[.int .i64 0,.int .i64 0,.int .i64 0,.int .i64 0,.int .i64 0] 65)=X1 at *
   refine sched_all (rs:=[11]) (by kernel_rfl) (by simp) hS1 (by simp) (fun i hi'=>?_)
   simp only [List.mem_cons,List.not_mem_nil,or_false] at hi'
   subst hi'
   refine okOp_run (drop_get rfl) rfl (v:=.pointer (some ⟨X1.heap.size,0,none⟩)) (w':=X1.alloc (.cells #[.slice none 0 0,.int .i64 0,.int .i64 0,.int .i64 0,.int .i64 0] 48)) (by go_simp) ?_
   simp only [Act.put,List.setIfInBounds_toArray,List.set_cons_zero,List.set_cons_succ]
   have hNX1:=Has.new X1 #[.slice none 0 0,.int .i64 0,.int .i64 0,.int .i64 0,.int .i64 0] 48
   replace hNX0:=hNX0.below ((Below.refl X1.heap.size X1).alloc (Nat.le_refl _) (.cells #[.slice none 0 0,.int .i64 0,.int .i64 0,.int .i64 0,.int .i64 0] 48)) hNX0.lt
   have hS2:=hS1.alloc (by omega) (.cells #[.slice none 0 0,.int .i64 0,.int .i64 0,.int .i64 0,.int .i64 0] 48)
   have hz2:X1.heap.size<(X1.alloc (.cells #[.slice none 0 0,.int .i64 0,.int .i64 0,.int .i64 0,.int .i64 0] 48)).heap.size:=by simp
   generalize X1.alloc (.cells #[.slice none 0 0,.int .i64 0,.int .i64 0,.int .i64 0,.int .i64 0] 48)=X2 at *
   refine sched_all (rs:=[13]) (by kernel_rfl) (by simp) hS2 (by simp) (fun i hi'=>?_)
   simp only [List.mem_cons,List.not_mem_nil,or_false] at hi'
   subst hi'
   refine okOp_row (drop_get rfl) rfl rfl (g:=X1.heap.size) (cells:=#[.slice au p.cor.length (p.cor.length+cu),.int .i64 p.fr,.int .i64 p.tw,.int .i64 p.tm,.int .i64 p.en]) rfl rfl hNX1 (by kernel_rfl) rfl (by simp [Value.oneCell']) ?_
   simp only [Act.put,List.setIfInBounds_toArray,List.set_cons_zero,List.set_cons_succ]
   have hP:=Has.put (cells:=#[.slice au p.cor.length (p.cor.length+cu),.int .i64 p.fr,.int .i64 p.tw,.int .i64 p.tm,.int .i64 p.en]) hNX1
   have hO:=Has.keep (cells:=#[.slice au p.cor.length (p.cor.length+cu),.int .i64 p.fr,.int .i64 p.tw,.int .i64 p.tm,.int .i64 p.en]) (C:=X1.heap.size) hNX0 (by omega)
   have hS3:=Below.setRow hS2 (C:=X1.heap.size) (by omega) #[.slice au p.cor.length (p.cor.length+cu),.int .i64 p.fr,.int .i64 p.tw,.int .i64 p.tm,.int .i64 p.en]
   generalize X2.setRow X1.heap.size #[.slice au p.cor.length (p.cor.length+cu),.int .i64 p.fr,.int .i64 p.tw,.int .i64 p.tm,.int .i64 p.en]=X3 at *
   refine sched_done (by kernel_rfl) hS3 ?_
   simp only [List.drop_succ_cons,List.drop_zero]
   refine wpListIn_row rfl rfl (g:=X0.heap.size) (cells:=#[.int .i64 qx,.int .i64 qy,.int .i64 fx,.int .i64 wt,.int .i64 bk]) rfl rfl hO (by kernel_rfl) rfl (by simp [Value.oneCell']) ?_
   have hP2:=Has.put (cells:=#[.int .i64 qx,.int .i64 qy,.int .i64 fx,.int .i64 wt,.int .i64 bk]) hO
   have hP1:=Has.keep (cells:=#[.int .i64 qx,.int .i64 qy,.int .i64 fx,.int .i64 wt,.int .i64 bk]) (C:=X0.heap.size) hP (by omega)
   have hS4:=Below.setRow hS3 (C:=X0.heap.size) (by omega) #[.int .i64 qx,.int .i64 qy,.int .i64 fx,.int .i64 wt,.int .i64 bk]
   generalize X3.setRow X0.heap.size #[.int .i64 qx,.int .i64 qy,.int .i64 fx,.int .i64 wt,.int .i64 bk]=X4 at *
   gi_wp2
   go_meet
   exact⟨_,_,rfl,rfl,by omega,by omega,by omega,hP1,hP2,hS4⟩
 case rest =>
  obtain⟨bx,by',rfl,rfl,hxy,hbx,hby,HX0,HY0,hC⟩:=hcut
  replace BW:=Lib.hid (BW.out.trans (hC.mono BW.out.size))
  have B_X0:=Lib.hid hC
  clear hC
  have BX:=Lib.hid HX0
  have BY:=Lib.hid HY0
  clear HX0 HY0
  clear m0 e1 x0 x1 x2 x3 x4 y0 y1 y2 y3 y4
  have z2:=Low.fact (BX.out.cell (i:=2) rfl)
  have z3:=Low.fact (BX.out.cell (i:=3) rfl)
  have z4:=Low.fact (BX.out.cell (i:=4) rfl)
  go_wp2
  (refine wp_region_low (by kernel_rfl) (by kernel_rfl) ?_;(iterate 9 (apply quiet_want;(case hw=>rfl);(case hval=>(intro w1 hw1;have hcx:=Low.cells hw1;simp only [Oper.quietAt];go_simp;first | done | (first | fail) | rfl | exact⟨rfl,rfl⟩));simp only [Act.put,List.setIfInBounds_toArray,List.set_cons_zero,List.set_cons_succ]));refine wpQuiet_nil ?_;intro w2 hw2)
  obtain⟨wa,hwa⟩:∃ x,x=w2:=⟨_,rfl⟩
  subst hwa
  have hA:Below wc.heap.size wc wa:=hw2.out
  clear hw2 z2 z3 z4
  replace BW:=Lib.hid (BW.out.trans (hA.mono BW.out.size))
  replace B_X0:=Lib.hid (B_X0.out.trans (hA.mono B_X0.out.size))
  have B_wc:=Lib.hid hA
  clear hA
  have e0:=(CB.out.below B_X0.out CB.out.lt).cell (i:=0) rfl
  go_wp2_with fail
  refine (f1.out _ BW.out).mono ?_
  rintro e w1 ⟨rfl,b1⟩
  replace BW:=Lib.hid (BW.out.trans (b1.mono BW.out.size))
  replace B_X0:=Lib.hid (B_X0.out.trans (b1.mono B_X0.out.size))
  replace B_wc:=Lib.hid (B_wc.out.trans (b1.mono B_wc.out.size))
  clear b1
  clear e0
  cases hmem:decide (((k+1:Nat):Int) ∈ c.stops)
  ·have hm2:¬ ((k+1:Nat):Int) ∈ c.stops:=by simpa using hmem
   have HV:=Lib.hid (And.intro (HR.out.trans (if_neg hm2)) (And.intro (HT.out.trans (if_neg hm2)) (HE.out.trans (if_neg hm2))))
   clear hm2 hmem
   go_wp2
   go_ret3
   exact⟨by rw [HV.out.1,HV.out.2.1,HV.out.2.2];rfl,BW.out⟩
  have hm2:((k+1:Nat):Int) ∈ c.stops:=by simpa using hmem
  have HV:=Lib.hid (And.intro (HR.out.trans (if_pos hm2)) (And.intro (HT.out.trans (if_pos hm2)) (HE.out.trans (if_pos hm2))))
  clear hm2 hmem
  have z1:=Low.fact ((BY.out.below B_wc.out BY.out.lt).cell (i:=2) rfl)
  have z2:=Low.fact ((BY.out.below B_wc.out BY.out.lt).cell (i:=3) rfl)
  have z3:=Low.fact ((MB.out.below B_X0.out MB.out.lt).cell (i:=7) rfl)
  obtain⟨mi,hmi⟩:∃ x,min p.tw fx=x:=⟨_,rfl⟩
  go_wp2
  (refine wp_region_low (by kernel_rfl) (by kernel_rfl) ?_;(iterate 18 (apply quiet_want;(case hw=>rfl);(case hval=>(intro w1 hw1;have hcx:=Low.cells hw1;simp only [Oper.quietAt];go_simp;first | done | (first | fail) | rfl | exact⟨rfl,rfl⟩));simp only [Act.put,List.setIfInBounds_toArray,List.set_cons_zero,List.set_cons_succ]));refine wpQuiet_nil ?_;intro w2 hw2)
  have BZ:=Lib.hid (BW.out.trans (hw2.out.mono BW.out.size))
  go_wp2
  go_ret3
  exact⟨by rw [HV.out.1,HV.out.2.1,HV.out.2.2,hmi];rfl,BZ.out⟩
end Go.Proofs.YtpimbaaahcemhaaGreat
namespace Go.Proofs.YtpimbaaahcemhaaGreat
open Go.RowKit
attribute [local irreducible] wpQuiet
theorem PtsAt.offG {W X : World} {v : Value} {l : List Pt} {row : Option Nat} (h : PtsAt W.heap.size W v l) (hg : W.grownBy X row) (hne : ∀ r, row = some r → l = [] ∨ v.ownBlock ≠ some r) : PtsAt X.heap.size X v l := by
 obtain⟨hl,a,cap,e,hc⟩:=h
 refine⟨hl,a,cap,e,?_⟩
 rcases hc with hc | ⟨b,o,e1,hb,hc⟩
 ·exact .inl hc
 ·by_cases hl0:l=[]
  ·exact .inl hl0
  ·refine .inr ⟨b,o,e1,Nat.lt_of_lt_of_le hb hg.size,fun j hj=>?_⟩
   have hbn:some b≠row:=fun er=>by
    rcases hne b er.symm with h | h
    ·exact hl0 h
    ·exact h (by rw [e,e1];rfl)
   obtain⟨c1,c2⟩:=hc j hj
   exact⟨(World.cell?_of_block (hg.block b hb hbn)).trans c1,(World.cell?_of_block (hg.block b hb hbn)).trans c2⟩
theorem PtsAt.own_lt {W:World} {n0:Nat} {v:Value} {l:List Pt} (h:PtsAt n0 W v l) {r:Nat} (hr:v.ownBlock=some r):l=[]∨r<n0:=by
 obtain⟨-,a,cap,e,hc⟩:=h
 rcases hc with hc | ⟨b,o,e1,hb,-⟩
 ·exact .inl hc
 ·right
  rw [e,e1] at hr
  simp only [Value.ownBlock,Option.some.injEq] at hr
  omega
theorem NewI.own {a:Nat} {v:Value} (h:NewI a v) {b o n c:Nat} (e:v=.slice (some ⟨b,o,none⟩) n c):a≤b:=h b o n c e
def PsR (W:World) (g:Nat→Psg) (k:Nat) (xs:List Value) (P:Nat→Prop):Prop :=
 xs.length=k*5∧∀ j,j<k→∃ u,xs[j*5]?=some u∧PtsAt W.heap.size W u (g j).cor∧((g j).cor=[]∨∀ r,u.ownBlock=some r→P r)∧xs[j*5+1]?=some (.int .i64 (g j).fr)∧xs[j*5+2]?=some (.int .i64 (g j).tw)∧xs[j*5+3]?=some (.int .i64 (g j).tm)∧xs[j*5+4]?=some (.int .i64 (g j).en)
section
variable {W X:World} {g:Nat→Psg} {k:Nat} {xs:List Value} {P Q:Nat→Prop}
theorem PsR.nil:PsR W g 0 [] P:=⟨rfl,fun j h=>by omega⟩
theorem PsR.snoc (h:PsR W g k xs P) {u:Value} (hu:PtsAt W.heap.size W u (g k).cor) (hP:(g k).cor=[]∨∀ r,u.ownBlock=some r→P r) :
  PsR W g (k+1) (xs++[u,.int .i64 (g k).fr,.int .i64 (g k).tw,.int .i64 (g k).tm,.int .i64 (g k).en]) P:=by
 obtain⟨hl,hc⟩:=h
 refine⟨by simp [hl];omega,fun j hj=>?_⟩
 by_cases e:j=k
 ·subst e
  have q:∀ i,(xs++[u,.int .i64 (g j).fr,.int .i64 (g j).tw,.int .i64 (g j).tm,.int .i64 (g j).en])[j*5+i]?=[u,.int .i64 (g j).fr,.int .i64 (g j).tw,.int .i64 (g j).tm,.int .i64 (g j).en][i]?:=fun i=>by
   rw [List.getElem?_append_right (by omega),hl,Nat.add_sub_cancel_left]
  exact⟨u,by have:=q 0;rw [Nat.add_zero] at this;exact this,hu,hP,q 1,q 2,q 3,q 4⟩
 ·obtain⟨u',c0,c⟩:=hc j (by omega)
  have q:∀ i,i<5→(xs++[u,.int .i64 (g k).fr,.int .i64 (g k).tw,.int .i64 (g k).tm,.int .i64 (g k).en])[j*5+i]?=xs[j*5+i]?:=fun i hi=>List.getElem?_append_left (by omega)
  refine⟨u',by have:=q 0 (by omega);rw [Nat.add_zero] at this;rw [this];exact c0,c.1,c.2.1,?_,?_,?_,?_⟩
  ·rw [q 1 (by omega)];exact c.2.2.1
  ·rw [q 2 (by omega)];exact c.2.2.2.1
  ·rw [q 3 (by omega)];exact c.2.2.2.2.1
  ·rw [q 4 (by omega)];exact c.2.2.2.2.2
theorem PsR.below (h:PsR W g k xs P) (B:Below W.heap.size W X):PsR X g k xs P:=by
 refine⟨h.1,fun j hj=>?_⟩
 obtain⟨u,c0,hu,c⟩:=h.2 j hj
 exact⟨u,c0,(hu.below B).mono B.size,c⟩
theorem PsR.app (h:PsR W g k xs P) {row:Option Nat} (hg:W.grownBy X row) (hr:∀ r,row=some r→¬ P r) (hQ:∀ r,r<W.heap.size→P r→Q r):PsR X g k xs Q:=by
 refine⟨h.1,fun j hj=>?_⟩
 obtain⟨u,c0,hu,hp,c⟩:=h.2 j hj
 refine⟨u,c0,hu.offG hg (fun r e=>?_),?_,c⟩
 ·rcases hp with hp | hp
  ·exact .inl hp
  ·exact .inr fun e2=>hr r e (hp r e2)
 ·rcases hp with hp | hp
  ·exact .inl hp
  ·by_cases hn:(g j).cor=[]
   ·exact .inl hn
   ·exact .inr fun r e=>hQ r ((hu.own_lt e).resolve_left hn) (hp r e)
theorem PsR.psgs (h:PsR W g k xs P) {base:Nat} {v:Value} (hr:W.ownsRow base 48 5 v k xs) (hl:k≤70368744177663):PsgsAt W.heap.size W v (upto g k):=by
 have hg:∀ j,j<k→pgd (upto g k) j=g j:=fun j hj=>by simp [pgd,upto,List.getD,hj]
 refine⟨by rw [upto_length];exact hl,?_⟩
 rw [upto_length]
 rcases hr.2 with⟨rfl,h0⟩ | ⟨gb,cap,cur,rfl,_,hb,hc,_⟩
 ·exact⟨none,0,by rw [h0],.inl (List.eq_nil_of_length_eq_zero (by rw [upto_length];exact h0))⟩
 ·refine⟨some ⟨gb,0,none⟩,cap - k,by rw [show k+(cap - k)=cap by omega],.inr ⟨gb,0,rfl,(Array.getElem?_eq_some_iff.1 hb).1,fun j hj=>?_⟩⟩
  rw [hg j hj]
  obtain⟨u,c0,hu,-,c1,c2,c3,c4⟩:=h.2 j hj
  have q:∀ i w,i<5→xs[j*5+i]?=some w→W.cell? ⟨gb,0+j*5+i,none⟩=some w:=fun i w hi e=>by
   rw [Nat.zero_add]
   exact (hr.cellAt (j*5+i) (by omega)).trans e
  exact⟨u,by have:=q 0 u (by omega) c0;rwa [Nat.add_zero] at this,hu,q 1 _ (by omega) c1,q 2 _ (by omega) c2,q 3 _ (by omega) c3,q 4 _ (by omega) c4⟩
end
structure MkS (bC:Nat) (Z X:World) (g:Nat→Psg) (v1 v2:Value) (n1 n2:Nat) (x1 x2:List Value) (kc:Nat) (xc:List Value):Prop where
 bel:Below bC Z X
 r1:X.ownsRow (bC+1) 48 5 v1 n1 x1
 r2:X.ownsRow (bC+1) 3 1 v2 n2 x2
 ne:v1.ownBlock=none∨v1.ownBlock≠v2.ownBlock
 cor:PsR X g kc xc (fun r=>bC<r∧some r≠v1.ownBlock∧some r≠v2.ownBlock)
section
variable {bC:Nat} {Z X Y:World} {g:Nat→Psg} {v1 v2 u:Value} {n1 n2 n' kc:Nat} {x1 x2 x' xc:List Value}
theorem MkS.ne2 (h:MkS bC Z X g v1 v2 n1 n2 x1 x2 kc xc):v2.ownBlock=none∨v2.ownBlock≠v1.ownBlock:=by
 rcases h.ne with h | h
 ·rw [h]
  cases v2.ownBlock <;> simp
 ·exact .inr (Ne.symm h)
theorem MkS.up (h:MkS bC Z X g v1 v2 n1 n2 x1 x2 kc xc) (B:Below X.heap.size X Y) (hb:bC≤X.heap.size):MkS bC Z Y g v1 v2 n1 n2 x1 x2 kc xc:=by
 have hg:X.grownBy Y none:=⟨B.os,B.tape,B.output,B.size,fun b hb _=>B.block b hb⟩
 exact⟨h.bel.trans (B.mono hb),h.r1.kept hg (by cases v1.ownBlock <;> simp),h.r2.kept hg (by cases v2.ownBlock <;> simp),h.ne,h.cor.below B⟩
theorem MkS.app1 (h:MkS bC Z X g v1 v2 n1 n2 x1 x2 kc xc) (hb:bC≤X.heap.size) (hg:X.grownBy Y v1.ownBlock) (hr:Y.ownsRow (bC+1) 48 5 u n' x') (ho:u.ownBlock=v1.ownBlock∨u.ownBlock=some X.heap.size):MkS bC Z Y g u v2 n' n2 x' x2 kc xc:=by
 refine⟨h.bel.trans ((Below.refl bC X).grown hg hb (fun j e=>by have:=(h.r1.lt j e).1;omega)),hr,h.r2.kept hg h.ne2,?_,h.cor.app hg (fun r e hp=>hp.2.1 e.symm) (fun r hlt hp=>⟨hp.1,?_,hp.2.2⟩)⟩
 ·rcases ho with ho | ho
  ·rw [ho];exact h.ne
  ·right
   rw [ho]
   intro e
   have:=(h.r2.lt _ e.symm).2
   omega
 ·rcases ho with ho | ho
  ·rw [ho];exact hp.2.1
  ·rw [ho]
   intro e
   have:r=X.heap.size:=by simpa using e
   omega
theorem MkS.app2 (h : MkS bC Z X g v1 v2 n1 n2 x1 x2 kc xc) (hb : bC ≤ X.heap.size) (hg : X.grownBy Y v2.ownBlock) (hr : Y.ownsRow (bC + 1) 3 1 u n' x') (ho : u.ownBlock = v2.ownBlock ∨ u.ownBlock = some X.heap.size) : MkS bC Z Y g v1 u n1 n' x1 x' kc xc := by
 refine⟨h.bel.trans ((Below.refl bC X).grown hg hb (fun j e=>by have:=(h.r2.lt j e).1;omega)),h.r1.kept hg h.ne,hr,?_,h.cor.app hg (fun r e hp=>hp.2.2 e.symm) (fun r hlt hp=>⟨hp.1,hp.2.1,?_⟩)⟩
 ·rcases ho with ho | ho
  ·rw [ho];exact h.ne
  ·by_cases hn:v1.ownBlock=none
   ·exact .inl hn
   ·right
    rw [ho]
    intro e
    have:=(h.r1.lt _ e).2
    omega
 ·rcases ho with ho | ho
  ·rw [ho];exact hp.2.2
  ·rw [ho]
   intro e
   have:r=X.heap.size:=by simpa using e
   omega
theorem MkS.set (h:MkS bC Z X g v1 v2 n1 n2 x1 x2 kc xc) (i:Nat) (w:Value):MkS bC Z (X.setCell ⟨bC,i,none⟩ w) g v1 v2 n1 n2 x1 x2 kc xc:=by
 have hg:X.grownBy (X.setCell ⟨bC,i,none⟩ w) (some bC):=⟨rfl,rfl,rfl,by simp [World.setCell],fun k _ hk=>Below.heap_setCell _ _ _ k (fun e=>hk (by rw [e]))⟩
 refine⟨h.bel.setCell (p:=⟨bC,i,none⟩) (Nat.le_refl _) w,h.r1.kept hg (.inr fun e=>?_),h.r2.kept hg (.inr fun e=>?_),h.ne,h.cor.app hg (fun r e hp=>?_) (fun r _ hp=>hp)⟩
 ·have:=(h.r1.lt _ e).1;omega
 ·have:=(h.r2.lt _ e).1;omega
 ·cases e;exact Nat.lt_irrefl _ hp.1
theorem MkS.fin (h:MkS bC Z X g v1 v2 n1 n2 x1 x2 n1 x1) {b:Nat} (hb:b≤bC) (hg:X.grownBy Y (some b)) (hn:n1≤70368744177663):PsgsAt Y.heap.size Y v1 (upto g n1)∧Y.ownsRow (bC+1) 3 1 v2 n2 x2:=by
 have q1:Y.ownsRow (bC+1) 48 5 v1 n1 x1:=h.r1.kept hg (.inr fun e=>by have:=(h.r1.lt _ e).1;omega)
 have q2:Y.ownsRow (bC+1) 3 1 v2 n2 x2:=h.r2.kept hg (.inr fun e=>by have:=(h.r2.lt _ e).1;omega)
 have q3:=h.cor.app (Q:=fun _=>True) hg (fun r e hp=>by cases e;omega) (fun _ _ _=>trivial)
 exact⟨q3.psgs q1 hn,q2⟩
theorem newI_off {s n0:Nat} {W:World} {v:Value} {l:List Pt} (hN:NewI s v) (h:PtsAt n0 W v l) {r:Nat} (hr:v.ownBlock=some r):l=[]∨s≤r:=by
 obtain⟨-,a,cap,e,hc⟩:=h
 rcases hc with hc | ⟨b,o,e1,hb,-⟩
 ·exact .inl hc
 ·right
  have:=hN b o _ _ (by rw [e,e1])
  rw [e,e1] at hr
  simp only [Value.ownBlock,Option.some.injEq] at hr
  omega
theorem MkS.fresh (h:MkS bC Z X g v1 v2 n1 n2 x1 x2 kc xc) (hb:bC<X.heap.size) {s n0:Nat} {W:World} {l:List Pt} (hN:NewI s u) (hs:X.heap.size≤s) (hu:PtsAt n0 W u l):l=[]∨∀ r,u.ownBlock=some r→bC<r∧some r≠v1.ownBlock∧some r≠v2.ownBlock:=by
 by_cases hl:l=[]
 ·exact .inl hl
 ·refine .inr fun r hr=>?_
  have h1:=(newI_off hN hu hr).resolve_left hl
  refine⟨by omega,fun e=>?_,fun e=>?_⟩
  ·have:=(h.r1.lt _ e.symm).2;omega
  ·have:=(h.r2.lt _ e.symm).2;omega
theorem MkS.one (h:MkS bC Z X g v1 v2 n1 n2 x1 x2 kc xc) (hu:PtsAt X.heap.size X u (g kc).cor) (hP:(g kc).cor=[]∨∀ r,u.ownBlock=some r→bC<r∧some r≠v1.ownBlock∧some r≠v2.ownBlock) :
  MkS bC Z X g v1 v2 n1 n2 x1 x2 (kc+1) (xc++[u,.int .i64 (g kc).fr,.int .i64 (g kc).tw,.int .i64 (g kc).tm,.int .i64 (g kc).en]):=⟨h.bel,h.r1,h.r2,h.ne,h.cor.snoc hu hP⟩
def MkH (X:World) (v1 v2:Value) (B:Nat) (cs:Array Value) (T:TypeId):Prop:=Has X B cs T∧some B≠v1.ownBlock∧some B≠v2.ownBlock
variable {B:Nat} {cs:Array Value} {T:TypeId}
theorem MkH.app1 (h:MkH X v1 v2 B cs T) (hg:X.grownBy Y v1.ownBlock) (ho:u.ownBlock=v1.ownBlock∨u.ownBlock=some X.heap.size):MkH Y u v2 B cs T:=by
 have hlt:=h.1.lt
 refine⟨(hg.block B hlt (by exact h.2.1)).trans h.1,?_,h.2.2⟩
 rcases ho with ho | ho
 ·rw [ho];exact h.2.1
 ·rw [ho];intro e;have:B=X.heap.size:=by simpa using e
  omega
theorem MkH.app2 (h:MkH X v1 v2 B cs T) (hg:X.grownBy Y v2.ownBlock) (ho:u.ownBlock=v2.ownBlock∨u.ownBlock=some X.heap.size):MkH Y v1 u B cs T:=by
 have hlt:=h.1.lt
 refine⟨(hg.block B hlt (by exact h.2.2)).trans h.1,h.2.1,?_⟩
 rcases ho with ho | ho
 ·rw [ho];exact h.2.2
 ·rw [ho];intro e;have:B=X.heap.size:=by simpa using e
  omega
theorem MkH.up (h:MkH X v1 v2 B cs T) (hB:Below X.heap.size X Y):MkH Y v1 v2 B cs T:=⟨h.1.below hB h.1.lt,h.2⟩
theorem MkS.free (h:MkS bC Z X g v1 v2 n1 n2 x1 x2 kc xc) (hH:Has Y B cs T) (hB:B≤bC∨X.heap.size≤B):MkH Y v1 v2 B cs T:=by
 refine⟨hH,fun e=>?_,fun e=>?_⟩
 ·have:=h.r1.lt _ e.symm;omega
 ·have:=h.r2.lt _ e.symm;omega
end
theorem row_sl {W:World} {b:Nat} {t:TypeId} {s n:Nat} {v:Value} {xs:List Value} (h:W.ownsRow b t s v n xs):∃ a c,v=.slice a n c:=by
 rcases h.2 with⟨e,e0⟩ | ⟨g,cap,cur,e,-⟩
 ·exact⟨none,0,by rw [e,e0]⟩
 ·exact⟨_,_,e⟩
theorem has_adds {X:World} {B:Nat} {l:List Value} {T:TypeId} (h:Has X B l.toArray T):∀ j u,l[j]?=some u→X.cell? ((⟨B,0,none⟩:Addr).add j)=some u:=fun j u hu=>by
 rw [show (⟨B,0,none⟩:Addr).add j=⟨B,j,none⟩ by simp [Addr.add];try exact fun h=>h.symm]
 exact h.cell (by simpa using hu)
set_option maxRecDepth 8000 in
theorem cloneInts_any (v : Value) (l : List Int) (w : World) (hp : IntsAt w.heap.size w v l) (hl : l.length ≤ 1000000) :
  Calls Tryz.prog 30 #[v] w fun e w'=>∃ v',e=.returned v'∧IntsAt w'.heap.size w' v' l∧Below w.heap.size w w'∧NewI w.heap.size v':=by
 obtain⟨hl0,a,cap,rfl,hc⟩:=hp
 have q22:∀ (w:World) (a:Option Addr) (n c n' c':Nat),(binOp .eql 27 (.slice a n c) (.slice none n' c')).run Tryz.prog w=.ok (.bool a.isNone) w:=fun w a n c n' c'=>Lib.run_eql_slice_nil w _ _ a n c n' c' Tryz.underlying27
 cases a with
 | none =>
  obtain rfl:l=[]:=by
   rcases hc with h | ⟨b,o,h,-⟩
   ·exact h
   ·cases h
  go_enter Tryz.func30,Tryz.ntmps30
  go_wp2
  go_ret
  exact⟨_,rfl,IntsAt.nil _ _,Below.refl _ _,NewI.nil _⟩
 | some ad =>
  have hcell:∀ j u,(l.map (Value.int .i64))[j]?=some u→(w.alloc (.cells #[] 3)).cell? (ad.add j)=some u:=fun j u hu=>by
   rcases hc with rfl | ⟨b,o,h,hb,hc⟩
   ·simp at hu
   ·cases h
    have hj:j<l.length:=by have:=(List.getElem?_eq_some_iff.1 hu).1;simpa using this
    have e:u=.int .i64 (l.getD j 0):=by
     rw [List.getElem?_map,List.getElem?_eq_getElem hj] at hu
     simp only [Option.map_some,Option.some.injEq] at hu
     rw [← hu,List.getD,List.getElem?_eq_getElem hj];rfl
    rw [e,show (⟨b,o,none⟩:Addr).add j=⟨b,o+j,none⟩ by first | rfl | simp [Addr.add]]
    exact (((Below.refl w.heap.size w).alloc (Nat.le_refl _) (.cells #[] 3)).cell (p:=⟨b,o+j,none⟩) hb).trans (hc j hj)
  have HCE:=Lib.hid hcell
  obtain⟨i0,hi0,hz0',hz1',hz2'⟩:=info_parts intInfo
  have HI:=Lib.hid hi0
  have hA:=Lib.hid ((Below.refl w.heap.size w).alloc (Nat.le_refl _) (.cells #[] 3))
  have hr:=Lib.hid (World.ownsRow_lit (base:=w.heap.size) (e:=3) (size:=1) w #[] 0 (Nat.le_refl _) (by unfold maxLen;omega) (by simp))
  clear hcell hi0 hc
  go_enter Tryz.func30,Tryz.ntmps30
  go_wp2_with (at_builtin;refine wpList_append_own _ rfl _ _ 27 rfl w.heap.size 3 i0 (.int .i64 0) 1 8 Tryz.underlying27 HI.out hz0' hz1' hz2' rfl (by decide) _ _ _ rfl hr.out ad l.length (l.length+cap) (l.map (Value.int .i64)) rfl (by simp) HCE.out (by intro x hx;obtain⟨y,-,rfl⟩:=List.mem_map.1 hx;rfl) (by unfold maxLen;omega) (by omega) (by simp) ?_;intro v' w2 r2 g2 _)
  rw [Nat.zero_add,List.nil_append] at r2
  have B2:=hA.out.trans (app_below hr.out g2 (Nat.le_refl _) hA.out.size)
  have P2:=IntsAt.own r2 (by omega)
  have N2:NewI w.heap.size v':=fun b o n c e=>(r2.lt b (by rw [e];rfl)).1
  go_ret
  exact⟨_,rfl,P2,B2,N2⟩
end Go.Proofs.YtpimbaaahcemhaaGreat
namespace Go.Proofs.YtpimbaaahcemhaaGreat
open Go.RowKit
attribute [local irreducible] wpQuiet
noncomputable def cvB (c:Crt) (i:Int) (r:List (List Pt)):Bool:=if 0≤i∧i<c.psg.length then rwB r (pgd c.psg i.toNat).cor else false
noncomputable def cvE (c:Crt) (i:Int) (r:List (List Pt)):Int:=if 0≤i∧i<c.psg.length then rwE r (pgd c.psg i.toNat).cor else 1
set_option linter.unusedSimpArgs false in
set_option linter.unusedVariables false in
set_option maxRecDepth 8000 in
set_option maxHeartbeats 3200000 in
theorem covers_any (c:Crt) (vs vp ve vr:Value) (i:Int) (r:List (List Pt)) (w:World) (hc:CrtAt w.heap.size w c vs vp ve) (hr:RocksAt w.heap.size w vr r) :
  Calls Tryz.prog 15 #[.agg #[vs,vp,ve],.int .i64 i,vr] w fun e w'=>e=.returned (.tuple #[.bool (cvB c i r),.int .i64 (cvE c i r)])∧Below w.heap.size w w':=by
 have f1:=fun vq q w1 (B:Below w.heap.size w w1) h=>gwithin_any vr r vq q w1 ((hr.below B).mono B.size) h
 have H1:cvB c i r=if 0≤i∧i<c.psg.length then rwB r (pgd c.psg i.toNat).cor else false:=rfl
 have H2:cvE c i r=if 0≤i∧i<c.psg.length then rwE r (pgd c.psg i.toNat).cor else 1:=rfl
 generalize cvB c i r=x at *
 generalize cvE c i r=y at *
 obtain⟨⟨-,aS,cS,rfl,-⟩,⟨-,ap,cp,rfl,hcp⟩,⟨-,ar,cr,rfl,-⟩⟩:=hc
 obtain⟨-,a4,c4,rfl,-⟩:=hr
 replace f1:=Lib.hid f1
 have BW:=Lib.hid (Below.refl w.heap.size w)
 by_cases h1:i<0
 ·have d1:decide (i<0)=true:=by rw [decide_eq_true_eq];exact h1
  have HV:=Lib.hid (And.intro (show x=false by rw [H1,if_neg (by omega)]) (show y=1 by rw [H2,if_neg (by omega)]))
  clear H1 H2 h1 hcp
  go_enter Tryz.func15,Tryz.ntmps15
  go_wp2
  go_ret2
  exact⟨by rw [HV.out.1,HV.out.2];rfl,by repeat (first | exact Below.refl _ _ | assumption | apply Below.drew | refine Below.setCell ?_ (by first | omega | (simp;done) | (simp;omega)) _ | refine Below.alloc ?_ (by first | omega | (simp;done) | (simp;omega)) _ | refine Below.call (by assumption) ?_ (by first | omega | (simp;done) | (simp;omega)))⟩
 have d1:decide (i<0)=false:=by rw [decide_eq_false_iff_not];exact h1
 by_cases h2:i<c.psg.length
 rotate_left
 ·have d2:decide (i≥(c.psg.length:Int))=true:=by rw [decide_eq_true_eq];omega
  have HV:=Lib.hid (And.intro (show x=false by rw [H1,if_neg (by omega)]) (show y=1 by rw [H2,if_neg (by omega)]))
  clear H1 H2 h1 h2 hcp
  go_enter Tryz.func15,Tryz.ntmps15
  go_wp2_with fail
  have e1:(w.alloc (.cells #[.slice aS c.stops.length (c.stops.length+cS),.slice ap c.psg.length (c.psg.length+cp),.slice ar c.ret.length (c.ret.length+cr)] 30)).cell? ⟨w.heap.size,1,none⟩=some (.slice ap c.psg.length (c.psg.length+cp)):=(Has.new w #[.slice aS c.stops.length (c.stops.length+cS),.slice ap c.psg.length (c.psg.length+cp),.slice ar c.ret.length (c.ret.length+cr)] 30).cell (i:=1) rfl
  go_wp2
  go_ret2
  exact⟨by rw [HV.out.1,HV.out.2];rfl,by repeat (first | exact Below.refl _ _ | assumption | apply Below.drew | refine Below.setCell ?_ (by first | omega | (simp;done) | (simp;omega)) _ | refine Below.alloc ?_ (by first | omega | (simp;done) | (simp;omega)) _ | refine Below.call (by assumption) ?_ (by first | omega | (simp;done) | (simp;omega)))⟩
 have d2:decide (i≥(c.psg.length:Int))=false:=by rw [decide_eq_false_iff_not];omega
 obtain⟨k,rfl⟩:∃ k:Nat,i=k:=⟨i.toNat,by omega⟩
 have hk:k<c.psg.length:=by omega
 have HV:=Lib.hid (And.intro (show x=rwB r (pgd c.psg k).cor by rw [H1,if_pos ⟨by omega,h2⟩,Int.toNat_natCast]) (show y=rwE r (pgd c.psg k).cor by rw [H2,if_pos ⟨by omega,h2⟩,Int.toNat_natCast]))
 obtain⟨b,o,rfl,hb,hcp⟩:=hcp.resolve_left (by intro h;rw [h] at hk;simp at hk)
 obtain⟨u,x0,hu,-⟩:=hcp k hk
 obtain⟨au,cu,rfl⟩:=hu.len
 have f2:=Lib.hid (fun w1 B=>f1.out _ _ w1 B ((hu.below B).mono B.size))
 generalize rwB r (pgd c.psg k).cor=x' at *
 generalize rwE r (pgd c.psg k).cor=y' at *
 generalize (pgd c.psg k).cor=cl at *
 have k0:(0:Int)≤(k:Int):=by omega
 clear hcp hu H1 H2 f1 h1
 go_enter Tryz.func15,Tryz.ntmps15
 go_upto_region 1 with fail
 generalize hXX0:World.alloc w _=X0
 obtain⟨q0,hA,hzX0⟩:=box1 hXX0
 clear hXX0
 have BW:=Lib.hid hA
 clear hA
 have CB:=Lib.hid q0
 clear q0
 clear hzX0
 have e1:=CB.out.cell (i:=1) rfl
 replace x0:=(BW.out.cell (p:=⟨b,o+k*5,none⟩) hb).trans x0
 go_wp2_with fail
 refine (f2.out _ BW.out).mono ?_
 rintro e w1 ⟨rfl,b1⟩
 replace BW:=Lib.hid (BW.out.trans (b1.mono BW.out.size))
 have B_X0:=Lib.hid b1
 clear b1
 clear x0 e1
 go_wp2
 go_ret2
 exact⟨by rw [HV.out.1,HV.out.2];rfl,BW.out⟩
set_option linter.unusedSimpArgs false in
set_option linter.unusedVariables false in
set_option maxRecDepth 8000 in
set_option maxHeartbeats 3200000 in
theorem csame_any (c:Crt) (vs vp ve us up ue:Value) (w:World) (hc:CrtAt w.heap.size w c vs vp ve) (hd:CrtAt w.heap.size w c us up ue) :
  Calls Tryz.prog 12 #[.agg #[vs,vp,ve],.agg #[us,up,ue]] w fun e w'=>e=.returned (.bool true)∧Below w.heap.size w w':=by
 have f1:=fun w1 (B:Below w.heap.size w w1)=>same32_any vs us c.stops c.stops w1 ((hc.1.below B).mono B.size) ((hd.1.below B).mono B.size)
 have f2:=fun w1 (B:Below w.heap.size w w1)=>same32_any ve ue c.ret c.ret w1 ((hc.2.2.below B).mono B.size) ((hd.2.2.below B).mono B.size)
 have f3:=fun vx vy (p:List Pt) w1 hx hy=>samepts_any vx vy p p w1 hx hy
 rw [decide_eq_true rfl] at f1 f2
 simp only [decide_true] at f3
 obtain⟨⟨-,aS,cS,rfl,-⟩,⟨hpl,ap,cp,rfl,hcp⟩,⟨-,ar,cr,rfl,-⟩⟩:=hc
 obtain⟨⟨-,aS',cS',rfl,-⟩,⟨-,ap',cp',rfl,hdp⟩,⟨-,ar',cr',rfl,-⟩⟩:=hd
 have HCP:=Lib.hid hcp
 have HDP:=Lib.hid hdp
 replace f1:=Lib.hid f1
 replace f2:=Lib.hid f2
 replace f3:=Lib.hid f3
 clear hcp hdp
 obtain⟨n,hn⟩:∃ n,c.psg.length=n:=⟨_,rfl⟩
 have HN:=Lib.hid hn
 have hnb:n≤70368744177663:=by rw [← hn];exact hpl
 rw [hn]
 clear hn hpl
 have BW:=Lib.hid (Below.refl w.heap.size w)
 have dn:((n:Int) == (n:Int))=true:=by simp
 go_enter Tryz.func12,Tryz.ntmps12
 go_wp2_with fail
 generalize hXX0:World.alloc (World.alloc w _) _=X0
 obtain⟨q0,q1,hA,hzX0⟩:=box2 hXX0
 clear hXX0
 have BW:=Lib.hid hA
 clear hA
 have CB:=Lib.hid q0
 clear q0
 have DB:=Lib.hid q1
 clear q1
 clear hzX0
 have hc:=CB.out
 have c0:=hc.cell (i:=0) rfl
 have c1:=hc.cell (i:=1) rfl
 have c2:=hc.cell (i:=2) rfl
 have hd:=DB.out
 have d0:=hd.cell (i:=0) rfl
 have d1:=hd.cell (i:=1) rfl
 have d2:=hd.cell (i:=2) rfl
 refine (f1.out _ BW.out).mono ?_
 rintro e w1 ⟨rfl,b1⟩
 replace BW:=Lib.hid (BW.out.trans (b1.mono BW.out.size))
 have B_X0:=Lib.hid b1
 clear b1
 clear hc c0 c1 c2 hd d0 d1 d2
 have hc:=(CB.out.below B_X0.out CB.out.lt)
 have c0:=hc.cell (i:=0) rfl
 have c1:=hc.cell (i:=1) rfl
 have c2:=hc.cell (i:=2) rfl
 have hd:=(DB.out.below B_X0.out DB.out.lt)
 have d0:=hd.cell (i:=0) rfl
 have d1:=hd.cell (i:=1) rfl
 have d2:=hd.cell (i:=2) rfl
 go_wp2_with fail
 refine (f2.out _ BW.out).mono ?_
 rintro e w2 ⟨rfl,b2⟩
 replace BW:=Lib.hid (BW.out.trans (b2.mono BW.out.size))
 replace B_X0:=Lib.hid (B_X0.out.trans (b2.mono B_X0.out.size))
 clear b2
 clear hc c0 c1 c2 hd d0 d1 d2
 have hc:=(CB.out.below B_X0.out CB.out.lt)
 have c0:=hc.cell (i:=0) rfl
 have c1:=hc.cell (i:=1) rfl
 have c2:=hc.cell (i:=2) rfl
 have hd:=(DB.out.below B_X0.out DB.out.lt)
 have d0:=hd.cell (i:=0) rfl
 have d1:=hd.cell (i:=1) rfl
 have d2:=hd.cell (i:=2) rfl
 go_wp2
 have hCB:=Lib.hid (CB.out.below B_X0.out CB.out.lt)
 have hDB:=Lib.hid (DB.out.below B_X0.out DB.out.lt)
 clear hc c0 c1 c2 hd d0 d1 d2
 go_loopw [5] (fun i wr=>∃ k:Nat,k≤n∧i=.int .i64 k∧Below w2.heap.size w2 wr) (fun i _=>n - (intOf i).toNat)
 case atStart=>exact⟨0,Nat.zero_le _,rfl,Below.refl _ _⟩
 case round =>
  obtain⟨k,hk,rfl,hB⟩:=hrel
  obtain⟨wo,hwo⟩:∃ x,x=wr:=⟨_,rfl⟩
  subst hwo
  have BB:=Lib.hid hB
  replace BW:=Lib.hid (BW.out.trans (hB.mono BW.out.size))
  clear hB
  have hCO:=Lib.hid (hCB.out.below BB.out hCB.out.lt)
  have hDO:=Lib.hid (hDB.out.below BB.out hDB.out.lt)
  have BR:=Lib.hid (Below.refl wo.heap.size wo)
  by_cases hlt:k<n
  ·obtain⟨b,o,rfl,hb,hc⟩:=HCP.out.resolve_left (by intro h;have:=HN.out;rw [h] at this;simp at this;omega)
   obtain⟨b',o',rfl,hb',hd⟩:=HDP.out.resolve_left (by intro h;have:=HN.out;rw [h] at this;simp at this;omega)
   obtain⟨u,x0,hu,x1,x2,x3,x4⟩:=hc k (by rw [HN.out];exact hlt)
   obtain⟨v,y0,hv,y1,y2,y3,y4⟩:=hd k (by rw [HN.out];exact hlt)
   generalize pgd c.psg k=p at *
   have HU:=Lib.hid ((hu.below BW.out).mono BW.out.size)
   have HV:=Lib.hid ((hv.below BW.out).mono BW.out.size)
   obtain⟨au,cu,rfl⟩:=HU.out.len
   obtain⟨av,cv,rfl⟩:=HV.out.len
   replace x0:=(BW.out.cell (p:=⟨b,o+k*5,none⟩) hb).trans x0
   have Y0:=Lib.hid ((BW.out.cell (p:=⟨b',o'+k*5,none⟩) hb').trans y0)
   replace x1:=(BW.out.cell (p:=⟨b,o+k*5+1,none⟩) hb).trans x1
   have Y1:=Lib.hid ((BW.out.cell (p:=⟨b',o'+k*5+1,none⟩) hb').trans y1)
   replace x2:=(BW.out.cell (p:=⟨b,o+k*5+2,none⟩) hb).trans x2
   have Y2:=Lib.hid ((BW.out.cell (p:=⟨b',o'+k*5+2,none⟩) hb').trans y2)
   replace x3:=(BW.out.cell (p:=⟨b,o+k*5+3,none⟩) hb).trans x3
   have Y3:=Lib.hid ((BW.out.cell (p:=⟨b',o'+k*5+3,none⟩) hb').trans y3)
   replace x4:=(BW.out.cell (p:=⟨b,o+k*5+4,none⟩) hb).trans x4
   have Y4:=Lib.hid ((BW.out.cell (p:=⟨b',o'+k*5+4,none⟩) hb').trans y4)
   have dk:decide ((k:Int)<(n:Int))=true:=by rw [decide_eq_true_eq];omega
   have kl:(k:Int)<(n:Int):=by omega
   have k0:(0:Int)≤(k:Int):=by omega
   have hbz:=Nat.lt_of_lt_of_le hb' BW.out.size
   clear hc hd hu hv y0 y1 y2 y3 y4
   have hc:=hCO.out
   have c0:=hc.cell (i:=0) rfl
   have c1:=hc.cell (i:=1) rfl
   have c2:=hc.cell (i:=2) rfl
   have hd:=hDO.out
   have d0:=hd.cell (i:=0) rfl
   have d1:=hd.cell (i:=1) rfl
   have d2:=hd.cell (i:=2) rfl
   go_upto_region 7 with fail
   generalize hXX6:World.alloc wo _=X6
   obtain⟨q0,hA,hzX6⟩:=box1 hXX6
   clear hXX6
   replace BW:=Lib.hid (BW.out.trans (hA.mono BW.out.size))
   have BR:=Lib.hid hA
   clear hA
   have PB:=Lib.hid q0
   clear q0
   clear hc c0 c1 c2 hd d0 d1 d2
   have hc:=(hCO.out.below BR.out hCO.out.lt)
   have c0:=hc.cell (i:=0) rfl
   have c1:=hc.cell (i:=1) rfl
   have c2:=hc.cell (i:=2) rfl
   have hd:=(hDO.out.below BR.out hDO.out.lt)
   have d0:=hd.cell (i:=0) rfl
   have d1:=hd.cell (i:=1) rfl
   have d2:=hd.cell (i:=2) rfl
   clear x0 x1 x2 x3 x4
   have y0:=(BR.out.cell (p:=⟨b',o'+k*5,none⟩) hbz).trans Y0.out
   have y1:=(BR.out.cell (p:=⟨b',o'+k*5+1,none⟩) hbz).trans Y1.out
   have y2:=(BR.out.cell (p:=⟨b',o'+k*5+2,none⟩) hbz).trans Y2.out
   have y3:=(BR.out.cell (p:=⟨b',o'+k*5+3,none⟩) hbz).trans Y3.out
   have y4:=(BR.out.cell (p:=⟨b',o'+k*5+4,none⟩) hbz).trans Y4.out
   go_upto_region 8 with fail
   generalize hXX7:World.alloc X6 _=X7
   obtain⟨q0,hA,hzX7⟩:=box1 hXX7
   clear hXX7
   replace BW:=Lib.hid (BW.out.trans (hA.mono BW.out.size))
   replace BR:=Lib.hid (BR.out.trans (hA.mono BR.out.size))
   have B_X6:=Lib.hid hA
   clear hA
   have QB:=Lib.hid q0
   clear q0
   clear y0 y1 y2 y3 y4
   replace QB:=QB.out
   rw [hzX6] at QB
   replace QB:=Lib.hid QB
   clear hc c0 c1 c2 hd d0 d1 d2
   have hp:=(PB.out.below B_X6.out PB.out.lt)
   have x0:=hp.cell (i:=0) rfl
   have x1:=hp.cell (i:=1) rfl
   have x2:=hp.cell (i:=2) rfl
   have x3:=hp.cell (i:=3) rfl
   have x4:=hp.cell (i:=4) rfl
   have hq:=QB.out
   have y0:=hq.cell (i:=0) rfl
   have y1:=hq.cell (i:=1) rfl
   have y2:=hq.cell (i:=2) rfl
   have y3:=hq.cell (i:=3) rfl
   have y4:=hq.cell (i:=4) rfl
   go_wp2_with fail
   refine (f3.out _ _ p.cor X7 ((HU.out.below BR.out).mono BR.out.size) ((HV.out.below BR.out).mono BR.out.size)).mono ?_
   rintro e w3 ⟨rfl,b3⟩
   replace BW:=Lib.hid (BW.out.trans (b3.mono BW.out.size))
   replace BR:=Lib.hid (BR.out.trans (b3.mono BR.out.size))
   replace B_X6:=Lib.hid (B_X6.out.trans (b3.mono B_X6.out.size))
   have B_X7:=Lib.hid b3
   clear b3
   clear hp x0 x1 x2 x3 x4 hq y0 y1 y2 y3 y4
   have hp:=(PB.out.below B_X6.out PB.out.lt)
   have x0:=hp.cell (i:=0) rfl
   have x1:=hp.cell (i:=1) rfl
   have x2:=hp.cell (i:=2) rfl
   have x3:=hp.cell (i:=3) rfl
   have x4:=hp.cell (i:=4) rfl
   have hq:=(QB.out.below B_X7.out QB.out.lt)
   have y0:=hq.cell (i:=0) rfl
   have y1:=hq.cell (i:=1) rfl
   have y2:=hq.cell (i:=2) rfl
   have y3:=hq.cell (i:=3) rfl
   have y4:=hq.cell (i:=4) rfl
   have e1:(p.fr == p.fr)=true:=by simp
   have e2:(p.tw == p.tw)=true:=by simp
   have e3:(p.tm == p.tm)=true:=by simp
   have e4:(p.en == p.en)=true:=by simp
   go_wp2
   go_roundw
   case rel=>exact⟨k+1,by omega,by go_num,BB.out.trans (BR.out.mono BB.out.size)⟩
   case measure=>simp [intOf];omega
  obtain rfl:k=n:=by omega
  have jj:decide ((k:Int)<(k:Int))=false:=by simp
  have hc:=hCO.out
  have c0:=hc.cell (i:=0) rfl
  have c1:=hc.cell (i:=1) rfl
  have c2:=hc.cell (i:=2) rfl
  have hd:=hDO.out
  have d0:=hd.cell (i:=0) rfl
  have d1:=hd.cell (i:=1) rfl
  have d2:=hd.cell (i:=2) rfl
  go_wp2
  go_ret
  exact⟨rfl,BW.out⟩
end Go.Proofs.YtpimbaaahcemhaaGreat
namespace Go.Proofs.YtpimbaaahcemhaaGreat
open Go.RowKit
attribute [local irreducible] wpQuiet
noncomputable def usB (m:Msn) (l:List Int):Bool:=fewB m && (decide (l.length≤40) && (validB m && stopsB m l))
set_option linter.unusedSimpArgs false in
set_option linter.unusedVariables false in
set_option maxRecDepth 8000 in
set_option maxHeartbeats 1600000 in
theorem usable36_any (m:Msn) (vw vh vr vl:Value) (l:List Int) (w:World) (hm:MsnAt w.heap.size w m vw vh vr) (hl:IntsAt w.heap.size w vl l) :
  Calls Tryz.prog 17 #[.agg (msnCells m vw vh vr),vl] w fun e w'=>e=.returned (.bool (usB m l))∧Below w.heap.size w w':=by
 have f1:=fun w1 (B:Below w.heap.size w w1)=>few_any m vw vh vr w1 ((hm.below B).mono B.size)
 have f2:=fun w1 (B:Below w.heap.size w w1)=>rValid31_any m vw vh vr w1 ((hm.below B).mono B.size)
 have f3:=fun w1 (B:Below w.heap.size w w1) (hV:validB m=true)=>rstops32_any m vw vh vr vl l w1 (fun k hk=>(wayB_true (waysB_at ((validB_iff m).1 hV).ways hk)).2.2.2.2.1) ((hm.1.below B).mono B.size) ((hl.below B).mono B.size)
 have HU:usB m l=(fewB m && (decide (l.length≤40) && (validB m && stopsB m l))):=rfl
 generalize usB m l=us at *
 generalize fewB m=b1 at *
 generalize validB m=b2 at *
 generalize stopsB m l=b3 at *
 obtain⟨⟨-,a1,cap1,rfl,-⟩,⟨-,a2,cap2,rfl,-⟩,⟨-,a3,cap3,rfl,-⟩⟩:=hm
 obtain⟨-,al,cl,rfl,-⟩:=hl
 unfold msnCells at *
 replace f1:=Lib.hid f1
 replace f2:=Lib.hid f2
 replace f3:=Lib.hid f3
 replace HU:=Lib.hid HU
 have BW:=Lib.hid (Below.refl w.heap.size w)
 go_enter Tryz.func17,Tryz.ntmps17
 go_wp2_with fail
 generalize hXX0:World.alloc w _=X0
 obtain⟨q0,hA,hzX0⟩:=box1 hXX0
 clear hXX0
 have BW:=Lib.hid hA
 clear hA
 have MB:=Lib.hid q0
 clear q0
 clear hzX0
 obtain⟨c0,c1,c2,c3,c4,c5,c6,c7,c8,c9,c10⟩:=msn_cells (m:=m) MB.out
 refine (f1.out _ BW.out).mono ?_
 rintro e w1 ⟨rfl,b1⟩
 replace BW:=Lib.hid (BW.out.trans (b1.mono BW.out.size))
 have B_X0:=Lib.hid b1
 clear b1
 clear c0 c1 c2 c3 c4 c5 c6 c7 c8 c9 c10
 obtain⟨c0,c1,c2,c3,c4,c5,c6,c7,c8,c9,c10⟩:=msn_cells (m:=m) (MB.out.below B_X0.out MB.out.lt)
 cases b1
 ·go_wp2
  go_ret
  exact⟨by rw [HU.out];rfl,BW.out⟩
 by_cases h40:l.length≤40
 rotate_left
 ·have d40:decide ((l.length:Int)≤40)=false:=by rw [decide_eq_false_iff_not];omega
  have HV:=Lib.hid (show us=false by rw [HU.out,decide_eq_false h40];rfl)
  clear h40
  go_wp2
  go_ret
  exact⟨by rw [HV.out];rfl,BW.out⟩
 have d40:decide ((l.length:Int)≤40)=true:=by rw [decide_eq_true_eq];omega
 replace HU:=Lib.hid (show us=(b2 && b3) by rw [HU.out,decide_eq_true h40];rfl)
 clear h40
 go_wp2_with fail
 refine (f2.out _ BW.out).mono ?_
 rintro e w2 ⟨rfl,b2⟩
 replace BW:=Lib.hid (BW.out.trans (b2.mono BW.out.size))
 replace B_X0:=Lib.hid (B_X0.out.trans (b2.mono B_X0.out.size))
 clear b2
 clear c0 c1 c2 c3 c4 c5 c6 c7 c8 c9 c10
 obtain⟨c0,c1,c2,c3,c4,c5,c6,c7,c8,c9,c10⟩:=msn_cells (m:=m) (MB.out.below B_X0.out MB.out.lt)
 cases b2
 ·go_wp2
  go_ret
  exact⟨by rw [HU.out];rfl,BW.out⟩
 go_wp2_with fail
 refine (f3.out _ BW.out (by first | trivial | rfl)).mono ?_
 rintro e w3 ⟨rfl,b3⟩
 replace BW:=Lib.hid (BW.out.trans (b3.mono BW.out.size))
 replace B_X0:=Lib.hid (B_X0.out.trans (b3.mono B_X0.out.size))
 clear b3
 clear c0 c1 c2 c3 c4 c5 c6 c7 c8 c9 c10
 obtain⟨c0,c1,c2,c3,c4,c5,c6,c7,c8,c9,c10⟩:=msn_cells (m:=m) (MB.out.below B_X0.out MB.out.lt)
 go_wp2
 go_ret
 exact⟨by rw [HU.out];rfl,BW.out⟩
end Go.Proofs.YtpimbaaahcemhaaGreat
