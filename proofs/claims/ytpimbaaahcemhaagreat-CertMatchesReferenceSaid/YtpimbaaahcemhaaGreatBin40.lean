/- landfallref36: Right. | landfallref36: Check. -/
import Derived.Test.YtpimbaaahcemhaaGreatBin39
set_option linter.unusedSimpArgs false
set_option linter.unusedVariables false
namespace Go.Proofs.YtpimbaaahcemhaaGreat
section
attribute [local irreducible] wpQuiet
open Go.RowKit
theorem fir_in {m:Msn} (V:VMsn m) {own cor:List Pt} (h:withinB own cor=true) (hf:firB cor m.rocks=false):firB own m.rocks=false:=by
 obtain⟨g2,g1,hk⟩:=Z5h h;have o1:okRocks cor m.rocks=true:=by unfold okRocks;rw [g1,Bool.true_and];exact V.rocks
 have o2:okRocks own m.rocks=true:=by unfold okRocks;rw [g2,Bool.true_and];exact V.rocks
 unfold firB at hf ⊢;rw [if_pos ⟨V.nr,o1⟩] at hf;rw [if_pos ⟨V.nr,o2⟩];refine (Z52 _).2 fun j hj=>?_
 have ht:=(Z52 _).1 hf j hj;have gr:Zc (rk m.rocks j)=true:=of_decide_eq_true V.rocks j hj;rw [Z33 gr g1] at ht;rw [Z33 gr g2];refine Z5j gr g2 g1 (fun k hk'=>?_) ht
 have h3:=hk k hk';unfold hasB at h3;simp only [Bool.and_eq_true] at h3;exact h3.2
theorem Z9q {m:Msn} {a:Nat} {r:Int}:hkV m a r=0↔ccC m a r (dep m a)=true∧lieB m (bkR m a r (dep m a))=true:=by
 unfold hkV;cases ccC m a r (dep m a) <;> cases lieB m (bkR m a r (dep m a)) <;> simp
theorem Z8P {m:Msn} {c:Crt} (hF:frmB m c=true) {i:Nat} (hi:i<c.psg.length) :
  lgB m c i=true↔(befR m c i≤(pgd c.psg i).fr∧(pgd c.psg i).fr+gLeg m i (i+1)≤(pgd c.psg i).tw∧befT m c i+tLeg m i (i+1)≤(pgd c.psg i).tm∧befE m c i+eLeg m i (i+1)≤(pgd c.psg i).en) ∧
   (withinB (corL (atW m i) (pgd c.psg i).fr (atW m (i+1)) (pgd c.psg i).tw) (pgd c.psg i).cor=true∧firB (pgd c.psg i).cor m.rocks=false) ∧
   (homeE m (i+1) (dep m (i+1))≤c.ret.getD i 0∧hkV m (i+1) (pgd c.psg i).tw=0) ∧
   ((pgd c.psg i).en+c.ret.getD i 0≤m.battery∧(pgd c.psg i).tm+homeT m (i+1) (dep m (i+1))≤m.deadline):=by
 obtain⟨f1,f2,f3,f4⟩:=Z0O hF;have V:=(Zp m).1 (Z0o f1).1;have n2:=V.n2;obtain⟨-,r1,r2,-⟩:=Z0K (f4 i hi);have hc:corE (atW m i) (pgd c.psg i).fr (atW m (i+1)) (pgd c.psg i).tw=0:=Z2J V (by omega) (by omega) r1 r2
 unfold lgB lg1 lg2 lg3 lg4;simp only [Bool.and_eq_true,decide_eq_true_eq,Bool.not_eq_true'];constructor
 ·rintro ⟨⟨h1,h2⟩,⟨h3,h4,h5⟩,⟨h6,h7⟩,-,h8,h9⟩
  obtain⟨-,k2,k3,k4⟩:=Z7k.1 h7;exact⟨⟨h1,h2,h3,h4⟩,⟨h8,h9⟩,⟨h5,Z9q.2 k2⟩,h6,k4⟩
 ·rintro ⟨⟨h1,h2,h3,h4⟩,⟨h8,h9⟩,⟨h5,hk⟩,h6,k4⟩
  have h10:=fir_in V h8 h9;refine⟨⟨h1,h2⟩,⟨h3,h4,h5⟩,⟨h6,Z7k.2 ⟨?_,Z9q.1 hk,by omega,k4⟩⟩,hc,h8,h9⟩
  unfold ccB clrB;rw [hc,h10];rfl
set_option maxRecDepth 8000 in
set_option maxHeartbeats 6400000 in
theorem Z7J (m : Msn) (vw vh vr : Value) (c : Crt) (vs vp ve : Value) (w : World) (hm : MsnAt w.heap.size w m vw vh vr) (hc : CrtAt w.heap.size w c vs vp ve) (hF : frmB m c = true) (i : Nat) (hi : i < c.psg.length) :
  Calls Tryz.prog 52 #[.agg (Zd m vw vh vr),.agg #[vs,vp,ve],.int .i64 i] w fun e w'=>e=.returned (.bool (lgB m c i))∧Below w.heap.size w w':=by
 obtain⟨q1,q2,q3,q4⟩:=Z0O hF;have hV:=(Z0o q1).1;have V:=(Zp m).1 hV;have n2:=V.n2;have n41:=V.n41;have hi1:i+1<m.ways.length:=by omega
 obtain⟨hgv,r1,r2,r3,r4,r5⟩:=Z0K (q4 i hi);have hL:=Z8P hF hi;have hrk:∀ j,j<m.rocks.length→Zc (rk m.rocks j)=true:=of_decide_eq_true V.rocks;have hce:corE (atW m i) (pgd c.psg i).fr (atW m (i+1)) (pgd c.psg i).tw=0:=Z2J V (by omega) hi1 r1 r2
 have hgo:Zc (corL (atW m i) (pgd c.psg i).fr (atW m (i+1)) (pgd c.psg i).tw)=true:=by
  unfold corL;rw [if_pos hce];exact ZP (Z3G hce)
 have hix:decide (idxO (hitTo (pgd c.psg i).cor m.rocks m.rocks.length)≥0)=firB (pgd c.psg i).cor m.rocks:=by
  have ok:okRocks (pgd c.psg i).cor m.rocks=true:=by unfold okRocks;rw [hgv,Bool.true_and];exact V.rocks
  unfold firB;rw [if_pos ⟨V.nr,ok⟩];have h:=Z9p (hitTo (pgd c.psg i).cor m.rocks m.rocks.length);rw [← Bool.not_eq_eq_eq_not] at h;rw [← h,← decide_not];exact decide_eq_decide.2 (by omega)
 have hlw:liesB (corL (atW m i) (pgd c.psg i).fr (atW m (i+1)) (pgd c.psg i).tw) (pgd c.psg i).cor=withinB (corL (atW m i) (pgd c.psg i).fr (atW m (i+1)) (pgd c.psg i).tw) (pgd c.psg i).cor:=by unfold withinB liesB;rw [hgo,hgv];simp
 have f1:=fun w1 (B:Below w.heap.size w w1)=>Z3q (m:=m) (a:=i) (b:=i+1) hV (by omega) hi1 ▸ Z74 m vw vh vr (i:Nat) ((i+1:Nat):Int) w1 ((hm.below B).mono B.size)
 have f2:=fun w1 (B:Below w.heap.size w w1)=>Z1d m vw vh vr i (i+1) w1 ((hm.below B).mono B.size) hV (by omega) hi1
 have f3:=fun w1 (B:Below w.heap.size w w1)=>Z48 vs c.stops (i:Int) w1 ((hc.1.below B).mono B.size)
 have f4:=fun w1=>Z1Z (atW m i) (atW m (i+1)) (pgd c.psg i).fr (pgd c.psg i).tw w1
 rw [hce] at f4;have f5:=fun vo vc w1 h1 h2=>Z4T vo vc _ (pgd c.psg i).cor w1 h1 h2 hgo hgv
 rw [hlw] at f5;have f6:=fun vc w1 (B:Below w.heap.size w w1) h=>Z5I vc vr (pgd c.psg i).cor m.rocks w1 h ((hm.2.2.below B).mono B.size) hgv hrk
 have f7:=fun w1 (B:Below w.heap.size w w1)=>Z3e m vw vh vr (i+1) w1 ((hm.below B).mono B.size) hV hi1
 have f8:=fun w1 (B:Below w.heap.size w w1)=>Z1V m vw vh vr w1 ((hm.below B).mono B.size) hV (i+1) hi1 (pgd c.psg i).tw r2
 have g1:=Z02 V.leg V.ways (i:=i) (j:=i+1) (by omega) hi1
 have g2:=Z10 V (i:=i) (j:=i+1) (by omega) hi1
 have g3:=Z19 V.leg V.ways (i:=i) (j:=i+1) (by omega) hi1
 have g4:=Z0z V (a:=i+1) hi1 (dep m (i+1)) (Nat.le_refl _);have g5:=Z2f V.ways hi1;have hb0:=V.battery;have hd0:=V.deadline;have hid:=V.idle;have hwy:=ZH (ZX V.ways (j:=i) (by omega))
 have hR:befR m c i=if i=0 then m.start else if (i:Int) ∈ c.stops then min (pgd c.psg (i-1)).tw (wy m.ways i).fix else (pgd c.psg (i-1)).tw:=rfl
 have hT:befT m c i=if i=0 then 0 else if (i:Int) ∈ c.stops then (pgd c.psg (i-1)).tm+(wy m.ways i).wait else (pgd c.psg (i-1)).tm:=rfl
 have hE:befE m c i=if i=0 then 0 else if (i:Int) ∈ c.stops then (pgd c.psg (i-1)).en+m.idle*(wy m.ways i).wait else (pgd c.psg (i-1)).en:=rfl
 have hq:0<i→(0≤(pgd c.psg (i-1)).tw∧(pgd c.psg (i-1)).tw≤100000)∧(0≤(pgd c.psg (i-1)).tm∧(pgd c.psg (i-1)).tm≤1000000000)∧(0≤(pgd c.psg (i-1)).en∧(pgd c.psg (i-1)).en≤1000000000):=fun h0=>by
  obtain⟨-,-,s2,s3,s4,-⟩:=Z0K (q4 (i-1) (by omega))
  exact⟨s2,s3,s4⟩
 have hml:0≤m.idle*(wy m.ways i).wait∧m.idle*(wy m.ways i).wait≤1000*100000:=⟨Int.mul_nonneg hid.1 hwy.2.2.2.2.2.2.1,Int.mul_le_mul hid.2 hwy.2.2.2.2.2.2.2.1 hwy.2.2.2.2.2.2.1 (by omega)⟩
 obtain⟨hbr,hbt,hbe⟩:(-1000000≤befR m c i∧befR m c i≤1000000)∧(0≤befT m c i∧befT m c i≤2000000000)∧(0≤befE m c i∧befE m c i≤2000000000):=by
  have hs:=V.start;rw [hR,hT,hE];by_cases h0:i=0
  ·simp only [if_pos h0];omega
  ·have:=hq (by omega)
   simp only [if_neg h0]
   split <;> omega
 obtain⟨⟨-,a1,cap1,rfl,hcw⟩,⟨-,a2,cap2,rfl,-⟩,⟨-,a3,cap3,rfl,-⟩⟩:=hm;obtain⟨⟨-,aS,cS,rfl,-⟩,⟨-,ap,cp,rfl,hcp⟩,⟨-,ar,cr,rfl,hcr⟩⟩:=hc;unfold Zd at *;obtain⟨bw,ow,rfl,hbw,hcw⟩:=hcw.resolve_left (by intro h;rw [h] at hi1;simp at hi1)
 obtain⟨bp,op,rfl,hbp,hcp⟩:=hcp.resolve_left (by intro h;rw [h] at hi;simp at hi)
 have hlr:i<c.ret.length:=by omega
 obtain⟨br,or',rfl,hbr',hcr⟩:=hcr.resolve_left (by intro h;rw [h] at hlr;simp at hlr)
 obtain⟨u1,u2,u3,u4,-⟩:=hcw i (by omega)
 obtain⟨u5,u6,-⟩:=hcw (i+1) hi1;have HCP:=Lib.hid hcp;have HU:=Lib.hid (And.intro u1 (And.intro u2 (And.intro u3 (And.intro u4 (And.intro u5 u6)))));have HRC:=Lib.hid (hcr i hlr);have HW:=Lib.hid (And.intro hbw (And.intro hbp hbr'));unfold atW at f4 f5 hL;simp only at f4;generalize corL ⟨(wy m.ways i).x,(wy m.ways i).y⟩ (pgd c.psg i).fr ⟨(wy m.ways (i+1)).x,(wy m.ways (i+1)).y⟩ (pgd c.psg i).tw=cl at *;generalize firB (pgd c.psg i).cor m.rocks=fb at *;generalize idxO (hitTo (pgd c.psg i).cor m.rocks m.rocks.length)=ix at *;generalize withinB cl (pgd c.psg i).cor=wb at *;generalize hkV m (i+1) (pgd c.psg i).tw=kd at *;generalize lgB m c i=lb at *;generalize befR m c i=f0 at *;generalize befT m c i=t0 at *;generalize befE m c i=e0 at *;obtain⟨hE2,y1⟩:∃ x,homeE m (i+1) (dep m (i+1))=x:=⟨_,rfl⟩;obtain⟨hT2,y2⟩:∃ x,homeT m (i+1) (dep m (i+1))=x:=⟨_,rfl⟩;simp only [y1,y2] at f7 hL g4;have hE3:hE2≤100000000000000:=by
  have:(dep m (i+1):Int)≤41:=by omega
  omega
 have hT3:hT2≤100000000000000:=by
  have:(dep m (i+1):Int)≤41:=by omega
  omega
 generalize tLeg m i (i+1)=tt at *;generalize eLeg m i (i+1)=ee at *;generalize gLeg m i (i+1)=gg at *;generalize dLeg m i (i+1)=dd at *;obtain⟨⟨pc,fr,tw,tm,en⟩,hpp⟩:∃ p,pgd c.psg i=p:=⟨_,rfl⟩;obtain⟨rt,hrt⟩:∃ z,c.ret.getD i 0=z:=⟨_,rfl⟩;simp only [hpp,hrt] at hL r1 r2 r3 r4 r5 f4 f5 f6 f8 hix;have g45:=And.intro g4.1 g4.2.2.1;have g22:=g2.2.2.2.2;have j1:IntKind.i64.wrap ((i:Int)+1)=((i+1:Nat):Int):=by rw [show (i:Int)+1=((i+1:Nat):Int) by omega];exact zW2
 have j2:IntKind.i64.wrap (fr+gg)=fr+gg:=zW2;have j3:IntKind.i64.wrap (t0+tt)=t0+tt:=zW2;have j4:IntKind.i64.wrap (e0+ee)=e0+ee:=zW2;have j5:IntKind.i64.wrap (en+rt)=en+rt:=zW2;have j6:IntKind.i64.wrap (tm+hT2)=tm+hT2:=zW2;have HMI:=Lib.hid (And.intro hq hml);have HRTE:=Lib.hid (And.intro hR (And.intro hT hE));have HL:=Lib.hid hL;have HX:=Lib.hid hix;have HR2:=Lib.hid hwy;replace f1:=Lib.hid f1;replace f2:=Lib.hid f2;replace f3:=Lib.hid f3;replace f4:=Lib.hid f4;replace f5:=Lib.hid f5;replace f6:=Lib.hid f6;replace f7:=Lib.hid f7;replace f8:=Lib.hid f8;obtain⟨vc,x0,hvc,x1,x2,x3,x4⟩:=hcp i hi;simp only [hpp] at x0 hvc x1 x2 x3 x4;have HVC:=Lib.hid hvc;obtain⟨au,cu,rfl⟩:=hvc.len;have i0:(0:Int)≤(i:Int):=by omega
 have i1:(i:Int)<c.psg.length:=by omega
 have i2:(i:Int)<c.ret.length:=by omega
 have i3:(i:Int)<m.ways.length:=by omega
 have i4:(i:Int)+1<m.ways.length:=by omega
 have i5:((i+1:Nat):Int)<m.ways.length:=by omega
 have i6:(0:Int)≤(i:Int)+1:=by omega
 have HI:=Lib.hid hi;obtain⟨ib,ib1,ib2,ib3⟩:∃ b,decide ((i:Int)>0)=b∧decide ((0:Int)<(i:Int))=b∧decide (0<i)=b:=⟨decide (0<i),decide_eq_decide.2 (by omega),decide_eq_decide.2 (by omega),rfl⟩
 have HRC2:=Lib.hid (show w.cell? ⟨br,or'+i,none⟩=some (.int .i64 rt) by rw [← hrt];exact HRC.out)
 clear q1 q2 q3 q4 hV V hgv hL hrk hce hgo hix hlw g1 g2 g3 g4 g5 hb0 hd0 hid hwy hR hT hE hq hml hcw hcp hcr u1 u2 u3 u4 u5 u6 y1 y2 hvc hpp hrt hF HRC r5 hi n2;have BW:=Lib.hid (Below.refl w.heap.size w);go_enter Tryz.func52,Tryz.ntmps52;go_upto_region 1 with fail
 generalize hXX0:World.alloc (World.alloc w _) _=X0;obtain⟨q0,q1,hA,hzX0⟩:=box2 hXX0;clear hXX0;have BW:=Lib.hid hA;clear hA;have MB:=Lib.hid q0;clear q0;have CB:=Lib.hid q1;clear q1 hzX0;have y0':=(BW.out.cell (p:=⟨bp,op+i*5,none⟩) hbp).trans x0;have y1':=(BW.out.cell (p:=⟨bp,op+i*5+1,none⟩) hbp).trans x1;have y2':=(BW.out.cell (p:=⟨bp,op+i*5+2,none⟩) hbp).trans x2;have y3':=(BW.out.cell (p:=⟨bp,op+i*5+3,none⟩) hbp).trans x3;have y4':=(BW.out.cell (p:=⟨bp,op+i*5+4,none⟩) hbp).trans x4;obtain⟨c0,c1,c2,c3,c4,c5,c6,c7,c8,c9,c10⟩:=Zi (m:=m) MB.out;have hk:=CB.out;have k0':=hk.cell (i:=0) rfl;have k1':=hk.cell (i:=1) rfl;have k2':=hk.cell (i:=2) rfl;go_upto_region 2 with fail
 generalize hXX1:World.alloc X0 _=X1;obtain⟨q0,hA,hzX1⟩:=box1 hXX1;clear hXX1;replace BW:=zAg BW hA;have B_X0:=Lib.hid hA;clear hA;have PB:=Lib.hid q0;clear q0 hzX1 y0' y1' y2' y3' y4' c0 c1 c2 c3 c4 c5 c6 c7 c8 c9 c10 hk k0' k1' k2';obtain⟨c0,c1,c2,c3,c4,c5,c6,c7,c8,c9,c10⟩:=Zi (m:=m) (zCw MB B_X0);go_wp2_with fail;refine (f1.out _ BW.out).mono ?_;rintro e w1 ⟨rfl,b1⟩;replace BW:=zAg BW b1;replace B_X0:=zAg B_X0 b1;have B_X1:=Lib.hid b1;clear b1 c0 c1 c2 c3 c4 c5 c6 c7 c8 c9 c10;obtain⟨c0,c1,c2,c3,c4,c5,c6,c7,c8,c9,c10⟩:=Zi (m:=m) (zCw MB B_X0);go_wp2_with fail;refine (f2.out _ BW.out).mono ?_;rintro e w2 ⟨rfl,b2⟩;replace BW:=zAg BW b2;replace B_X0:=zAg B_X0 b2;replace B_X1:=zAg B_X1 b2;clear b2 c0 c1 c2 c3 c4 c5 c6 c7 c8 c9 c10;obtain⟨c0,c1,c2,c3,c4,c5,c6,c7,c8,c9,c10⟩:=Zi (m:=m) (zCw MB B_X0)
 go_upto_if 48 with fail
 clear c0 c1 c2 c3 c4 c5 c6 c7 c8 c9 c10;have hMB:=Lib.hid (zCw MB B_X0);have hCB:=Lib.hid (zCw CB B_X0);go_cut [14,15,16] from 49 to 92 (fun f t e wx=>f=.int .i64 f0∧t=.int .i64 t0∧e=.int .i64 e0∧Below w2.heap.size w2 wx)
 case first =>
  cases ib
  ·have h0:i=0:=by have:=of_decide_eq_false ib3;omega
   have e1:=HRTE.out;simp only [if_pos h0] at e1;obtain⟨e1,e2,e3⟩:=e1;clear h0;go_wp2_with fail;go_meet;exact⟨by rw [e1],by rw [e2],by rw [e3],Below.refl _ _⟩
  ·have h0:0<i:=of_decide_eq_true ib3
   have e1:=HRTE.out;simp only [if_neg (show ¬ i=0 by omega)] at e1
   have hq:=HMI.out.1 h0;have hml:=HMI.out.2;obtain⟨vq,z0,hvq,z1,z2,z3,z4⟩:=HCP.out (i-1) (by have:=HI.out;omega)
   obtain⟨⟨pc',fr',tw',tm',en'⟩,hpq⟩:∃ p,pgd c.psg (i-1)=p:=⟨_,rfl⟩;simp only [hpq] at z0 hvq z1 z2 z3 z4 hq e1;obtain⟨aq,cq,rfl⟩:=hvq.len;have hw4:=HR2.out;obtain⟨fx,hfx⟩:∃ z,(wy m.ways i).fix=z:=⟨_,rfl⟩;obtain⟨wt,hwt⟩:∃ z,(wy m.ways i).wait=z:=⟨_,rfl⟩;obtain⟨u1,u2,u3,u4,-⟩:=HU.out;rw [hfx] at u3 e1 hw4;rw [hwt] at u4 e1 hml hw4;have k1:IntKind.i64.wrap ((i:Int)-1)=((i-1:Nat):Int):=by rw [show (i:Int)-1=((i-1:Nat):Int) by omega];exact zW2
   have k2:IntKind.i64.wrap (tm'+wt)=tm'+wt:=zW2;have k3:IntKind.i64.wrap (m.idle*wt)=m.idle*wt:=zW2;have k4:IntKind.i64.wrap (en'+m.idle*wt)=en'+m.idle*wt:=zW2;have k5:(0:Int)≤((i-1:Nat):Int):=by omega
   have k6:((i-1:Nat):Int)<c.psg.length:=by omega
   have k7:(0:Int)≤(i:Int)-1:=by omega
   have k8:(i:Int)-1<c.psg.length:=by omega
   obtain⟨mn,hmn⟩:∃ z,min tw' fx=z:=⟨_,rfl⟩;rw [hmn] at e1;have HE1:=Lib.hid e1;clear hvq hpq hq hml hfx hwt u1 u2 e1 hw4 h0;have BC:=Lib.hid (Below.refl w2.heap.size w2);replace z0:=(BW.out.cell (p:=⟨bp,op+(i-1)*5,none⟩) hbp).trans z0;replace z1:=(BW.out.cell (p:=⟨bp,op+(i-1)*5+1,none⟩) hbp).trans z1;replace z2:=(BW.out.cell (p:=⟨bp,op+(i-1)*5+2,none⟩) hbp).trans z2;replace z3:=(BW.out.cell (p:=⟨bp,op+(i-1)*5+3,none⟩) hbp).trans z3;replace z4:=(BW.out.cell (p:=⟨bp,op+(i-1)*5+4,none⟩) hbp).trans z4;have hk:=hCB.out;have k0':=hk.cell (i:=0) rfl;have k1':=hk.cell (i:=1) rfl;have k2':=hk.cell (i:=2) rfl;go_upto_region 9 with fail
   generalize hXX2:World.alloc w2 _=X2;obtain⟨q0,hA,hzX2⟩:=box1 hXX2;clear hXX2;replace BW:=zAg BW hA;have BC:=Lib.hid hA;clear hA;have QB:=Lib.hid q0;clear q0 hzX2 z0 z1 z2 z3 z4 hk k0' k1' k2';have hk:=(zCw hCB BC);have k0':=hk.cell (i:=0) rfl;have k1':=hk.cell (i:=1) rfl;have k2':=hk.cell (i:=2) rfl;have hQB:=QB.out;have r0':=hQB.cell (i:=0) rfl;have r1':=hQB.cell (i:=1) rfl;have r2':=hQB.cell (i:=2) rfl;have r3':=hQB.cell (i:=3) rfl;have r4':=hQB.cell (i:=4) rfl;go_wp2_with fail;refine (f3.out _ BW.out).mono ?_;rintro e w3 ⟨rfl,b3⟩;replace BW:=zAg BW b3;replace BC:=zAg BC b3;have B_X2:=Lib.hid b3;clear b3 hk k0' k1' k2' hQB r0' r1' r2' r3' r4';have hk:=(zCw hCB BC);have k0':=hk.cell (i:=0) rfl;have k1':=hk.cell (i:=1) rfl;have k2':=hk.cell (i:=2) rfl;have hQB:=(zCw QB B_X2);have r0':=hQB.cell (i:=0) rfl;have r1':=hQB.cell (i:=1) rfl;have r2':=hQB.cell (i:=2) rfl;have r3':=hQB.cell (i:=3) rfl;have r4':=hQB.cell (i:=4) rfl;by_cases hst:(i:Int) ∈ c.stops;rotate_left
   ·skip
    have e1:=HE1.out;simp only [if_neg hst] at e1;obtain⟨e1,e2,e3⟩:=e1;rw [decide_eq_false hst];clear hst;go_wp2_with fail;go_meet;exact⟨by rw [e1],by rw [e2],by rw [e3],BC.out⟩
   have e1:=HE1.out;simp only [if_pos hst] at e1;obtain⟨e1,e2,e3⟩:=e1;rw [decide_eq_true hst];clear hst;go_upto_region 13 with fail
   clear hk k0' k1' k2' hQB r0' r1' r2' r3' r4';have m0:=Low.fact (show w3.cell? ⟨w.heap.size,0,none⟩=some (.slice (some ⟨bw,ow,none⟩) m.ways.length (m.ways.length+cap1)) from (zCw hMB BC).cell (i:=0) rfl)
   have m7:=Low.fact (show w3.cell? ⟨w.heap.size,7,none⟩=some (.int .i64 m.idle) from (zCw hMB BC).cell (i:=7) rfl)
   have q2:=Low.fact (show w3.cell? ⟨w2.heap.size,2,none⟩=some (.int .i64 tw') from (zCw QB B_X2).cell (i:=2) rfl)
   have v3:=Low.fact (show w3.cell? ⟨bw,ow+i*5+2,none⟩=some (.int .i64 fx) from (BW.out.cell (p:=⟨bw,ow+i*5+2,none⟩) hbw).trans u3)
   have v4:=Low.fact (show w3.cell? ⟨bw,ow+i*5+3,none⟩=some (.int .i64 wt) from (BW.out.cell (p:=⟨bw,ow+i*5+3,none⟩) hbw).trans u4)
   (refine Zg (by kernel_rfl) (by kernel_rfl) ?_;(iterate 10 (apply Zf;(case hw=>rfl);(case hval=>(intro w1 hw1;have hcx:=Low.cells hw1;simp only [Oper.quietAt];go_simp;first | done | rfl | exact⟨rfl,rfl⟩));simp only [Act.put,zq5,zr5,zs5]));refine wpQuiet_nil ?_;intro w2 hw2)
   obtain⟨wl,hwl⟩:∃ x,x=w2:=⟨_,rfl⟩;subst hwl;have bl:=hw2.out;replace m0:=m0 _ hw2;replace m7:=m7 _ hw2;replace v4:=v4 _ hw2;clear hw2 q2 v3;replace BW:=zAg BW bl;replace BC:=zAg BC bl;replace B_X2:=zAg B_X2 bl;clear bl;go_upto_region 15 with fail
   replace m0:=Low.fact m0;replace m7:=Low.fact m7;replace v4:=Low.fact v4
   (refine Zg (by kernel_rfl) (by kernel_rfl) ?_;(iterate 12 (apply Zf;(case hw=>rfl);(case hval=>(intro w1 hw1;have hcx:=Low.cells hw1;simp only [Oper.quietAt];go_simp;first | done | rfl | exact⟨rfl,rfl⟩));simp only [Act.put,zq5,zr5,zs5]));refine wpQuiet_nil ?_;intro w2 hw2)
   have B9:=BC.out.trans (hw2.out.mono BC.out.size);go_wp2_with fail;go_meet;exact⟨by rw [e1],by rw [e2],by rw [e3],B9⟩
 case rest =>
  obtain⟨rfl,rfl,rfl,hC⟩:=hcut;obtain⟨wn,hwn⟩:∃ x,x=wc:=⟨_,rfl⟩;subst hwn;replace BW:=zAg BW hC;replace B_X0:=zAg B_X0 hC;replace B_X1:=zAg B_X1 hC;have B_w2:=Lib.hid hC;clear hC HRTE HMI HCP f3 f1 f2;obtain⟨c0,c1,c2,c3,c4,c5,c6,c7,c8,c9,c10⟩:=Zi (m:=m) (zCw hMB B_w2);have hPB:=(zCw PB B_X1);have p0':=hPB.cell (i:=0) rfl;have p1':=hPB.cell (i:=1) rfl;have p2':=hPB.cell (i:=2) rfl;have p3':=hPB.cell (i:=3) rfl;have p4':=hPB.cell (i:=4) rfl;have hk:=(zCw hCB B_w2);have k0':=hk.cell (i:=0) rfl;have k1':=hk.cell (i:=1) rfl;have k2':=hk.cell (i:=2) rfl;by_cases h1:f0≤fr;rotate_left
  ·skip
   have d1:decide (fr<f0)=true:=zTy;have zq:True:=trivial;have HV:=Lib.hid (show lb=false by rw [← Bool.not_eq_true,HL.out];rintro ⟨⟨z1,z2,z3,z4⟩,⟨z5,z6⟩,⟨z7,z8⟩,z9,z10⟩;first | omega | (rw [zq] at z5;cases z5) | (rw [zq] at z6;cases z6))
   go_wp2;go_ret;exact⟨by rw [HV.out];rfl,BW.out⟩
  have dd1:decide (fr<f0)=false:=zFy;by_cases h2:fr+gg≤tw;rotate_left
  ·skip
   have d1:decide (tw<fr+gg)=true:=zTy;have zq:True:=trivial;have HV:=Lib.hid (show lb=false by rw [← Bool.not_eq_true,HL.out];rintro ⟨⟨z1,z2,z3,z4⟩,⟨z5,z6⟩,⟨z7,z8⟩,z9,z10⟩;first | omega | (rw [zq] at z5;cases z5) | (rw [zq] at z6;cases z6))
   go_wp2;go_ret;exact⟨by rw [HV.out];rfl,BW.out⟩
  have dd2:decide (tw<fr+gg)=false:=zFy;by_cases h3:t0+tt≤tm;rotate_left
  ·skip
   have d1:decide (tm<t0+tt)=true:=zTy;have zq:True:=trivial;have HV:=Lib.hid (show lb=false by rw [← Bool.not_eq_true,HL.out];rintro ⟨⟨z1,z2,z3,z4⟩,⟨z5,z6⟩,⟨z7,z8⟩,z9,z10⟩;first | omega | (rw [zq] at z5;cases z5) | (rw [zq] at z6;cases z6))
   go_wp2;go_ret;exact⟨by rw [HV.out];rfl,BW.out⟩
  have dd3:decide (tm<t0+tt)=false:=zFy;by_cases h4:e0+ee≤en;rotate_left
  ·skip
   have d1:decide (en<e0+ee)=true:=zTy;have zq:True:=trivial;have HV:=Lib.hid (show lb=false by rw [← Bool.not_eq_true,HL.out];rintro ⟨⟨z1,z2,z3,z4⟩,⟨z5,z6⟩,⟨z7,z8⟩,z9,z10⟩;first | omega | (rw [zq] at z5;cases z5) | (rw [zq] at z6;cases z6))
   go_wp2;go_ret;exact⟨by rw [HV.out];rfl,BW.out⟩
  have dd4:decide (en<e0+ee)=false:=zFy;go_upto_region 18 with fail
  clear c0 c1 c2 c3 c4 c5 c6 c7 c8 c9 c10 hPB p0' p1' p2' p3' p4' hk k0' k1' k2';have m0:wn.cell? ⟨w.heap.size,0,none⟩=some (.slice (some ⟨bw,ow,none⟩) m.ways.length (m.ways.length+cap1)):=(zCw hMB B_w2).cell (i:=0) rfl;have l1:=(zCw PB B_X1).cell (i:=1) rfl;have l2:=(zCw PB B_X1).cell (i:=2) rfl;obtain⟨u1,u2,-,-,u5,u6⟩:=HU.out;have v1:=(BW.out.cell (p:=⟨bw,ow+i*5,none⟩) hbw).trans u1;have v2:=(BW.out.cell (p:=⟨bw,ow+i*5+1,none⟩) hbw).trans u2;have v3:=(BW.out.cell (p:=⟨bw,ow+(i+1)*5,none⟩) hbw).trans u5;have v4:=(BW.out.cell (p:=⟨bw,ow+(i+1)*5+1,none⟩) hbw).trans u6;obtain⟨px,h1'⟩:∃ x,(wy m.ways i).x=x:=⟨_,rfl⟩;obtain⟨py,h2'⟩:∃ x,(wy m.ways i).y=x:=⟨_,rfl⟩;obtain⟨qx,h3'⟩:∃ x,(wy m.ways (i+1)).x=x:=⟨_,rfl⟩;obtain⟨qy,h4'⟩:∃ x,(wy m.ways (i+1)).y=x:=⟨_,rfl⟩;have f4':=f4.out;rw [h1',h2',h3',h4'] at f4';replace f4:=Lib.hid f4';rw [h1'] at v1;rw [h2'] at v2;rw [h3'] at v3;rw [h4'] at v4;clear u1 u2 u5 u6 h1' h2' h3' h4' f4';refine (wpIn_wide (n:=9)).1 ?_;refine Zj (Zt _) 22 (fun X=>Below wn.heap.size wn X) (by kernel_rfl) (by kernel_rfl) (by kernel_rfl) fun hH inv0=>?_
  have hD:=Below.drew (Below.refl wn.heap.size wn);generalize hXX5:wn.drew=X5 at *;clear hXX5;replace BW:=zAg BW hD;replace B_X0:=zAg B_X0 hD;replace B_X1:=zAg B_X1 hD;replace B_w2:=zAg B_w2 hD;have B_wn:=Lib.hid hD;clear hD;refine sk hH (i:=0) (v:=.pointer (some ⟨w.heap.size,0,none⟩)) (Ze rfl) inv0 (fun X hX=>?_) fun inv1=>?_
  ·go_simp
  simp only [Act.put,zq5,zr5,zs5];clear inv0;refine sk hH (i:=1) (v:=.slice (some ⟨bw,ow,none⟩) m.ways.length (m.ways.length+cap1)) (Ze rfl) inv1 (fun X hX=>?_) fun inv2=>?_
  ·have r0:=(hX.cell (p:=⟨w.heap.size,0,none⟩) (World.block_lt_of_cell? _ _ m0)).trans m0;go_simp
  simp only [Act.put,zq5,zr5,zs5];clear inv1;refine sk hH (i:=2) (v:=.int .i64 (i:Int)) (Ze rfl) inv2 (fun X hX=>?_) fun inv3=>?_
  ·go_simp
  simp only [Act.put,zq5,zr5,zs5];clear inv2;refine sk hH (i:=3) (v:=.pointer (some ⟨bw,ow+i*5,none⟩)) (Ze rfl) inv3 (fun X hX=>?_) fun inv4=>?_
  ·go_simp
  simp only [Act.put,zq5,zr5,zs5];clear inv3;refine sk hH (i:=4) (v:=.pointer (some ⟨bw,ow+i*5,none⟩)) (Ze rfl) inv4 (fun X hX=>?_) fun inv5=>?_
  ·go_simp
  simp only [Act.put,zq5,zr5,zs5];clear inv4;refine sk hH (i:=5) (v:=.agg #[.int .i64 px,.int .i64 py]) (Ze rfl) inv5 (fun X hX=>?_) fun inv6=>?_
  ·have r0:=(hX.cell (p:=⟨bw,ow+i*5,none⟩) (World.block_lt_of_cell? _ _ v1)).trans v1;have r1:=(hX.cell (p:=⟨bw,ow+i*5+1,none⟩) (World.block_lt_of_cell? _ _ v2)).trans v2;go_simp
  simp only [Act.put,zq5,zr5,zs5];clear inv5;refine sk hH (i:=6) (v:=.pointer (some ⟨X0.heap.size,1,none⟩)) (Ze rfl) inv6 (fun X hX=>?_) fun inv7=>?_
  ·go_simp
  simp only [Act.put,zq5,zr5,zs5];clear inv6;refine sk hH (i:=7) (v:=.int .i64 fr) (Ze rfl) inv7 (fun X hX=>?_) fun inv8=>?_
  ·have r0:=(hX.cell (p:=⟨X0.heap.size,1,none⟩) (World.block_lt_of_cell? _ _ l1)).trans l1;go_simp
  simp only [Act.put,zq5,zr5,zs5];clear inv7;refine sk hH (i:=8) (v:=.pointer (some ⟨w.heap.size,0,none⟩)) (Ze rfl) inv8 (fun X hX=>?_) fun inv9=>?_
  ·go_simp
  simp only [Act.put,zq5,zr5,zs5];clear inv8;refine sk hH (i:=9) (v:=.slice (some ⟨bw,ow,none⟩) m.ways.length (m.ways.length+cap1)) (Ze rfl) inv9 (fun X hX=>?_) fun inv10=>?_
  ·have r0:=(hX.cell (p:=⟨w.heap.size,0,none⟩) (World.block_lt_of_cell? _ _ m0)).trans m0;go_simp
  simp only [Act.put,zq5,zr5,zs5];clear inv9;refine sk hH (i:=10) (v:=.int .i64 (i:Int)) (Ze rfl) inv10 (fun X hX=>?_) fun inv11=>?_
  ·go_simp
  simp only [Act.put,zq5,zr5,zs5];clear inv10;refine sk hH (i:=11) (v:=.int .i64 ((i+1:Nat):Int)) (Ze rfl) inv11 (fun X hX=>?_) fun inv12=>?_
  ·go_simp
  simp only [Act.put,zq5,zr5,zs5];clear inv11;refine sk hH (i:=12) (v:=.pointer (some ⟨bw,ow+(i+1)*5,none⟩)) (Ze rfl) inv12 (fun X hX=>?_) fun inv13=>?_
  ·go_simp
  simp only [Act.put,zq5,zr5,zs5];clear inv12;refine sk hH (i:=13) (v:=.pointer (some ⟨bw,ow+(i+1)*5,none⟩)) (Ze rfl) inv13 (fun X hX=>?_) fun inv14=>?_
  ·go_simp
  simp only [Act.put,zq5,zr5,zs5];clear inv13;refine sk hH (i:=14) (v:=.agg #[.int .i64 qx,.int .i64 qy]) (Ze rfl) inv14 (fun X hX=>?_) fun inv15=>?_
  ·have r0:=(hX.cell (p:=⟨bw,ow+(i+1)*5,none⟩) (World.block_lt_of_cell? _ _ v3)).trans v3;have r1:=(hX.cell (p:=⟨bw,ow+(i+1)*5+1,none⟩) (World.block_lt_of_cell? _ _ v4)).trans v4;go_simp
  simp only [Act.put,zq5,zr5,zs5];clear inv14;refine sk hH (i:=15) (v:=.pointer (some ⟨X0.heap.size,2,none⟩)) (Ze rfl) inv15 (fun X hX=>?_) fun inv16=>?_
  ·go_simp
  simp only [Act.put,zq5,zr5,zs5];clear inv15;refine sk hH (i:=16) (v:=.int .i64 tw) (Ze rfl) inv16 (fun X hX=>?_) fun inv17=>?_
  ·have r0:=(hX.cell (p:=⟨X0.heap.size,2,none⟩) (World.block_lt_of_cell? _ _ l2)).trans l2;go_simp
  simp only [Act.put,zq5,zr5,zs5];clear inv16;have inv18:=HeadInv.put2 inv17 (j:=17) (by kernel_rfl) (by omega)
  clear inv17;refine sa1 (r:=17) B_wn.out ?_;refine ZM (Ze rfl) rfl (f:=37) (args:=#[.agg #[.int .i64 px,.int .i64 py],.int .i64 fr,.agg #[.int .i64 qx,.int .i64 qy],.int .i64 tw]) (by go_simp) (f4.out X5) ?_
  rintro e w3 ⟨vo,rfl,p9,b3⟩;refine⟨_,rfl,?_⟩;simp only [Act.put,zq5,zr5,zs5];replace BW:=zAg BW b3;replace B_X0:=zAg B_X0 b3;replace B_X1:=zAg B_X1 b3;replace B_w2:=zAg B_w2 b3;replace B_wn:=zAg B_wn b3;clear b3;have P1:=Lib.hid p9;clear p9;refine sk hH (i:=18) (v:=.tuple #[vo,.int .i64 0]) (Ze rfl) inv18 (fun X hX=>?_) fun inv19=>?_
  ·go_simp
  simp only [Act.put,zq5,zr5,zs5];clear inv18;refine sk hH (i:=19) (v:=vo) (Ze rfl) inv19 (fun X hX=>?_) fun inv20=>?_
  ·go_simp
  simp only [Act.put,zq5,zr5,zs5];clear inv19;refine sk hH (i:=20) (v:=.int .i64 0) (Ze rfl) inv20 (fun X hX=>?_) fun inv21=>?_
  ·go_simp
  simp only [Act.put,zq5,zr5,zs5];clear inv20;have inv22:=HeadInv.put2 inv21 (j:=21) (by kernel_rfl) (by omega)
  clear inv21;refine sa1 (r:=21) B_wn.out ?_;refine ZC (Ze rfl) rfl (v:=vo) (w':=w3) (by go_simp) ?_
  simp only [Act.put,zq5,zr5,zs5];clear inv22 hH;refine Zv (by kernel_rfl) B_wn.out ?_
  simp only [List.drop_succ_cons,List.drop_zero];clear B_wn;obtain⟨go1,do1,hv1⟩:=P1.out.len;subst hv1;clear m0 l1 l2 v1 v2 v3 v4 f4;gi_wp2;obtain⟨c0,c1,c2,c3,c4,c5,c6,c7,c8,c9,c10⟩:=Zi (m:=m) (zCw hMB B_w2);have hPB:=(zCw PB B_X1);have p0':=hPB.cell (i:=0) rfl;have p1':=hPB.cell (i:=1) rfl;have p2':=hPB.cell (i:=2) rfl;have p3':=hPB.cell (i:=3) rfl;have p4':=hPB.cell (i:=4) rfl;have hk:=(zCw hCB B_w2);have k0':=hk.cell (i:=0) rfl;have k1':=hk.cell (i:=1) rfl;have k2':=hk.cell (i:=2) rfl;go_wp2_with fail;refine (f5.out _ _ _ P1.out ((HVC.out.below BW.out).mono BW.out.size)).mono ?_;rintro e w4 ⟨rfl,b4⟩;replace BW:=zAg BW b4;replace B_X0:=zAg B_X0 b4;replace B_X1:=zAg B_X1 b4;replace B_w2:=zAg B_w2 b4;have B_w3:=Lib.hid b4;clear b4 c0 c1 c2 c3 c4 c5 c6 c7 c8 c9 c10 hPB p0' p1' p2' p3' p4' hk k0' k1' k2';obtain⟨c0,c1,c2,c3,c4,c5,c6,c7,c8,c9,c10⟩:=Zi (m:=m) (zCw hMB B_w2);have hPB:=(zCw PB B_X1);have p0':=hPB.cell (i:=0) rfl;have p1':=hPB.cell (i:=1) rfl;have p2':=hPB.cell (i:=2) rfl;have p3':=hPB.cell (i:=3) rfl;have p4':=hPB.cell (i:=4) rfl;have hk:=(zCw hCB B_w2);have k0':=hk.cell (i:=0) rfl;have k1':=hk.cell (i:=1) rfl;have k2':=hk.cell (i:=2) rfl;cases hwb:wb
  ·skip
   have zq:=hwb;have HV:=Lib.hid (show lb=false by rw [← Bool.not_eq_true,HL.out];rintro ⟨⟨z1,z2,z3,z4⟩,⟨z5,z6⟩,⟨z7,z8⟩,z9,z10⟩;first | omega | (rw [zq] at z5;cases z5) | (rw [zq] at z6;cases z6))
   go_wp2;go_ret;exact⟨by rw [HV.out];rfl,BW.out⟩
  go_wp2_with fail;refine (f6.out _ _ BW.out ((HVC.out.below BW.out).mono BW.out.size)).mono ?_;rintro e w5 ⟨rfl,b5⟩;replace BW:=zAg BW b5;replace B_X0:=zAg B_X0 b5;replace B_X1:=zAg B_X1 b5;replace B_w2:=zAg B_w2 b5;replace B_w3:=zAg B_w3 b5;clear b5 c0 c1 c2 c3 c4 c5 c6 c7 c8 c9 c10 hPB p0' p1' p2' p3' p4' hk k0' k1' k2';obtain⟨c0,c1,c2,c3,c4,c5,c6,c7,c8,c9,c10⟩:=Zi (m:=m) (zCw hMB B_w2);have hPB:=(zCw PB B_X1);have p0':=hPB.cell (i:=0) rfl;have p1':=hPB.cell (i:=1) rfl;have p2':=hPB.cell (i:=2) rfl;have p3':=hPB.cell (i:=3) rfl;have p4':=hPB.cell (i:=4) rfl;have hk:=(zCw hCB B_w2);have k0':=hk.cell (i:=0) rfl;have k1':=hk.cell (i:=1) rfl;have k2':=hk.cell (i:=2) rfl;cases hfb:fb;rotate_left
  ·skip
   have dx:decide (ix≥0)=true:=HX.out.trans hfb;have dx2:decide (0≤ix)=true:=dx;have zq:=hfb;have HV:=Lib.hid (show lb=false by rw [← Bool.not_eq_true,HL.out];rintro ⟨⟨z1,z2,z3,z4⟩,⟨z5,z6⟩,⟨z7,z8⟩,z9,z10⟩;first | omega | (rw [zq] at z5;cases z5) | (rw [zq] at z6;cases z6))
   go_wp2;go_ret;exact⟨by rw [HV.out];rfl,BW.out⟩
  have dx:decide (ix≥0)=false:=HX.out.trans hfb;have dx2:decide (0≤ix)=false:=dx;go_wp2_with fail;refine (f7.out _ BW.out).mono ?_;rintro e w6 ⟨rfl,b6⟩;replace BW:=zAg BW b6;replace B_X0:=zAg B_X0 b6;replace B_X1:=zAg B_X1 b6;replace B_w2:=zAg B_w2 b6;replace B_w3:=zAg B_w3 b6;clear b6 c0 c1 c2 c3 c4 c5 c6 c7 c8 c9 c10 hPB p0' p1' p2' p3' p4' hk k0' k1' k2';obtain⟨c0,c1,c2,c3,c4,c5,c6,c7,c8,c9,c10⟩:=Zi (m:=m) (zCw hMB B_w2);have hPB:=(zCw PB B_X1);have p0':=hPB.cell (i:=0) rfl;have p1':=hPB.cell (i:=1) rfl;have p2':=hPB.cell (i:=2) rfl;have p3':=hPB.cell (i:=3) rfl;have p4':=hPB.cell (i:=4) rfl;have hk:=(zCw hCB B_w2);have k0':=hk.cell (i:=0) rfl;have k1':=hk.cell (i:=1) rfl;have k2':=hk.cell (i:=2) rfl;have yr:=(BW.out.cell (p:=⟨br,or'+i,none⟩) HW.out.2.2).trans HRC2.out;by_cases h5:hE2≤rt;rotate_left
  ·skip
   have d1:decide (rt<hE2)=true:=zTy;have zq:True:=trivial;have HV:=Lib.hid (show lb=false by rw [← Bool.not_eq_true,HL.out];rintro ⟨⟨z1,z2,z3,z4⟩,⟨z5,z6⟩,⟨z7,z8⟩,z9,z10⟩;first | omega | (rw [zq] at z5;cases z5) | (rw [zq] at z6;cases z6))
   go_wp2;go_ret;exact⟨by rw [HV.out];rfl,BW.out⟩
  have dd5:decide (rt<hE2)=false:=zFy;go_wp2_with fail;refine (f8.out _ BW.out).mono ?_;rintro e w7 ⟨rfl,b7⟩;replace BW:=zAg BW b7;replace B_X0:=zAg B_X0 b7;replace B_X1:=zAg B_X1 b7;replace B_w2:=zAg B_w2 b7;replace B_w3:=zAg B_w3 b7;clear b7 c0 c1 c2 c3 c4 c5 c6 c7 c8 c9 c10 hPB p0' p1' p2' p3' p4' hk k0' k1' k2';obtain⟨c0,c1,c2,c3,c4,c5,c6,c7,c8,c9,c10⟩:=Zi (m:=m) (zCw hMB B_w2);have hPB:=(zCw PB B_X1);have p0':=hPB.cell (i:=0) rfl;have p1':=hPB.cell (i:=1) rfl;have p2':=hPB.cell (i:=2) rfl;have p3':=hPB.cell (i:=3) rfl;have p4':=hPB.cell (i:=4) rfl;have hk:=(zCw hCB B_w2);have k0':=hk.cell (i:=0) rfl;have k1':=hk.cell (i:=1) rfl;have k2':=hk.cell (i:=2) rfl;by_cases h6:kd=0;rotate_left
  ·skip
   have dk:(kd != 0)=true:=by simp [h6]
   have dk2:(kd == 0)=false:=by rw [beq_eq_false_iff_ne];exact h6
   have zq:True:=trivial;have HV:=Lib.hid (show lb=false by rw [← Bool.not_eq_true,HL.out];rintro ⟨⟨z1,z2,z3,z4⟩,⟨z5,z6⟩,⟨z7,z8⟩,z9,z10⟩;first | omega | (rw [zq] at z5;cases z5) | (rw [zq] at z6;cases z6))
   go_wp2;go_ret;exact⟨by rw [HV.out];rfl,BW.out⟩
  subst h6;go_upto_region 24 with fail
  clear c0 c1 c2 c3 c4 c5 c6 c7 c8 c9 c10 hPB p0' p1' p2' p3' p4' hk k0' k1' k2';have m9:=Low.fact (show w7.cell? ⟨w.heap.size,9,none⟩=some (.int .i64 m.battery) from (zCw hMB B_w2).cell (i:=9) rfl)
  have m10:=Low.fact (show w7.cell? ⟨w.heap.size,10,none⟩=some (.int .i64 m.deadline) from (zCw hMB B_w2).cell (i:=10) rfl)
  have c2:=Low.fact (show w7.cell? ⟨w.heap.size+1,2,none⟩=some (.slice (some ⟨br,or',none⟩) c.ret.length (c.ret.length+cr)) from (zCw hCB B_w2).cell (i:=2) rfl)
  have l3:=Low.fact (show w7.cell? ⟨X0.heap.size,3,none⟩=some (.int .i64 tm) from (zCw PB B_X1).cell (i:=3) rfl)
  have l4:=Low.fact (show w7.cell? ⟨X0.heap.size,4,none⟩=some (.int .i64 en) from (zCw PB B_X1).cell (i:=4) rfl)
  have y7:=Low.fact (show w7.cell? ⟨br,or'+i,none⟩=some (.int .i64 rt) from (BW.out.cell (p:=⟨br,or'+i,none⟩) HW.out.2.2).trans HRC2.out)
  by_cases h7:en+rt≤m.battery;rotate_left
  ·skip
   have d7:decide (en+rt≤m.battery)=false:=decide_eq_false h7;have HV:=Lib.hid (show lb=false by rw [← Bool.not_eq_true,HL.out];rintro ⟨-,-,-,z9,z10⟩;omega)
   (refine Zg (by kernel_rfl) (by kernel_rfl) ?_;(iterate 12 (apply Zf;(case hw=>rfl);(case hval=>(intro w1 hw1;have hcx:=Low.cells hw1;simp only [Oper.quietAt];go_simp;first | done | rfl | exact⟨rfl,rfl⟩));simp only [Act.put,zq5,zr5,zs5]));(iterate 7 (apply Zr;(case hw=>rfl);simp only [Act.put,zq5,zr5,zs5]));(iterate 2 (apply Zf;(case hw=>rfl);(case hval=>(intro w1 hw1;have hcx:=Low.cells hw1;simp only [Oper.quietAt];go_simp;first | done | rfl | exact⟨rfl,rfl⟩));simp only [Act.put,zq5,zr5,zs5]));refine wpQuiet_nil ?_;intro w2 hw2)
   have B9:=BW.out.trans (hw2.out.mono BW.out.size);go_wp2;go_ret;exact⟨by rw [HV.out];rfl,B9⟩
  have d7:decide (en+rt≤m.battery)=true:=decide_eq_true h7;by_cases h8:tm+hT2≤m.deadline;rotate_left
  ·skip
   have d8:decide (tm+hT2≤m.deadline)=false:=decide_eq_false h8;have HV:=Lib.hid (show lb=false by rw [← Bool.not_eq_true,HL.out];rintro ⟨-,-,-,z9,z10⟩;omega)
   (refine Zg (by kernel_rfl) (by kernel_rfl) ?_;(iterate 21 (apply Zf;(case hw=>rfl);(case hval=>(intro w1 hw1;have hcx:=Low.cells hw1;simp only [Oper.quietAt];go_simp;first | done | rfl | exact⟨rfl,rfl⟩));simp only [Act.put,zq5,zr5,zs5]));refine wpQuiet_nil ?_;intro w2 hw2)
   have B9:=BW.out.trans (hw2.out.mono BW.out.size);go_wp2;go_ret;exact⟨by rw [HV.out];rfl,B9⟩
  have d8:decide (tm+hT2≤m.deadline)=true:=decide_eq_true h8;have HV:=Lib.hid (show lb=true by rw [HL.out];exact⟨⟨h1,h2,h3,h4⟩,⟨hwb,hfb⟩,⟨h5,by first | trivial | rfl⟩,h7,h8⟩)
  (refine Zg (by kernel_rfl) (by kernel_rfl) ?_;(iterate 21 (apply Zf;(case hw=>rfl);(case hval=>(intro w1 hw1;have hcx:=Low.cells hw1;simp only [Oper.quietAt];go_simp;first | done | rfl | exact⟨rfl,rfl⟩));simp only [Act.put,zq5,zr5,zs5]));refine wpQuiet_nil ?_;intro w2 hw2)
  have B9:=BW.out.trans (hw2.out.mono BW.out.size);go_wp2;go_ret;exact⟨by rw [HV.out];rfl,B9⟩
set_option maxRecDepth 8000 in
set_option maxHeartbeats 3200000 in
theorem Z5u (m : Msn) (vw vh vr : Value) (c : Crt) (vs vp ve : Value) (w : World) (hm : MsnAt w.heap.size w m vw vh vr) (hc : CrtAt w.heap.size w c vs vp ve) :
  Calls Tryz.prog 14 #[.agg (Zd m vw vh vr),.agg #[vs,vp,ve]] w fun e w'=>e=.returned (.tuple #[.bool (chkB m c),.int .i64 (chkE m c)])∧Below w.heap.size w w':=by
 have f1:=fun w1 (B:Below w.heap.size w w1)=>Z0p m vw vh vr w1 ((hm.below B).mono B.size)
 have f2:=fun w1 (B:Below w.heap.size w w1) hV=>Z8R m vw vh vr c vs vp ve w1 ((hm.below B).mono B.size) ((hc.below B).mono B.size) hV
 have f3:=fun w1 (B:Below w.heap.size w w1) hF i hi=>Z7J m vw vh vr c vs vp ve w1 ((hm.below B).mono B.size) ((hc.below B).mono B.size) hF i hi
 have HB:Hid (chkB m c=(frmB m c && decide (∀ i,i<c.psg.length→lgB m c i=true))):=Lib.hid rfl;have HE:Hid (chkE m c=if frmB m c=true then 0 else 1):=Lib.hid rfl
 have hVF:Hid (validB m=false→frmB m c=false):=Lib.hid (fun h=>by unfold frmB radOkB;rw [h];rfl)
 have hn:=fun h:frmB m c=true=>show c.psg.length≤1000 by
  have:=(Z0O h).2.1;have:=((Zp m).1 (Z0o (Z0O h).1).1).n41;omega
 generalize chkB m c=x at *;generalize chkE m c=y at *;obtain⟨⟨-,a1,cap1,rfl,-⟩,⟨-,a2,cap2,rfl,-⟩,⟨-,a3,cap3,rfl,-⟩⟩:=hm;obtain⟨⟨-,aS,cS,rfl,-⟩,⟨-,ap,cp,rfl,-⟩,⟨-,ar,cr,rfl,-⟩⟩:=hc;unfold Zd at *;replace f1:=Lib.hid f1;replace f2:=Lib.hid f2;replace f3:=Lib.hid f3;replace hn:=Lib.hid hn;have BW:=Lib.hid (Below.refl w.heap.size w);go_enter Tryz.func14,Tryz.ntmps14;go_wp2_with fail;generalize hXX0:World.alloc (World.alloc w _) _=X0;obtain⟨q0,q1,hA,hzX0⟩:=box2 hXX0;clear hXX0;have BW:=Lib.hid hA;clear hA;have MB:=Lib.hid q0;clear q0;have CB:=Lib.hid q1;clear q1 hzX0;obtain⟨c0,c1,c2,c3,c4,c5,c6,c7,c8,c9,c10⟩:=Zi (m:=m) MB.out;have hk:=CB.out;have k0':=hk.cell (i:=0) rfl;have k1':=hk.cell (i:=1) rfl;have k2':=hk.cell (i:=2) rfl;refine (f1.out _ BW.out).mono ?_;rintro e w1 ⟨rfl,b1⟩;replace BW:=zAg BW b1;have B_X0:=Lib.hid b1;clear b1 c0 c1 c2 c3 c4 c5 c6 c7 c8 c9 c10 hk k0' k1' k2';obtain⟨c0,c1,c2,c3,c4,c5,c6,c7,c8,c9,c10⟩:=Zi (m:=m) (zCw MB B_X0);have hk:=(zCw CB B_X0);have k0':=hk.cell (i:=0) rfl;have k1':=hk.cell (i:=1) rfl;have k2':=hk.cell (i:=2) rfl;cases hV:validB m
 ·skip
  have hF:=hVF.out hV;have HV:=Lib.hid (And.intro (show x=false by rw [HB.out,hF];rfl) (show y=1 by rw [HE.out,hF];rfl))
  go_wp2;go_ret2;exact⟨by rw [HV.out.1,HV.out.2];rfl,BW.out⟩
 go_wp2_with fail;refine (f2.out _ BW.out hV).mono ?_;rintro e w2 ⟨rfl,b2⟩;replace BW:=zAg BW b2;replace B_X0:=zAg B_X0 b2;clear b2 c0 c1 c2 c3 c4 c5 c6 c7 c8 c9 c10 hk k0' k1' k2';obtain⟨c0,c1,c2,c3,c4,c5,c6,c7,c8,c9,c10⟩:=Zi (m:=m) (zCw MB B_X0);have hk:=(zCw CB B_X0);have k0':=hk.cell (i:=0) rfl;have k1':=hk.cell (i:=1) rfl;have k2':=hk.cell (i:=2) rfl;cases hF:frmB m c
 ·skip
  have HV:=Lib.hid (And.intro (show x=false by rw [HB.out,hF];rfl) (show y=1 by rw [HE.out,hF];rfl))
  go_wp2;go_ret2;exact⟨by rw [HV.out.1,HV.out.2];rfl,BW.out⟩
 have hFF:=Lib.hid hF;have hn0:=hn.out hF;replace HB:=Lib.hid (show x=decide (∀ i,i<c.psg.length→lgB m c i=true) by rw [HB.out,hF];rfl)
 replace HE:=Lib.hid (show y=0 by rw [HE.out,hF];rfl)
 clear hF hV hVF hn f1 f2;have hMB:=Lib.hid (zCw MB B_X0);have hCB:=Lib.hid (zCw CB B_X0);go_wp2;clear c0 c1 c2 c3 c4 c5 c6 c7 c8 c9 c10 hk k0' k1' k2'
 go_loopw [6] (fun i wr=>∃ k:Nat,k≤c.psg.length∧i=.int .i64 k∧(∀ j,j<k→lgB m c j=true)∧Below w2.heap.size w2 wr) (fun i _=>c.psg.length-(intOf i).toNat)
 case atStart=>exact⟨0,Nat.zero_le _,rfl,fun j h=>by omega,Below.refl _ _⟩
 case round =>
  obtain⟨k,hk,rfl,hall,hB⟩:=hrel;obtain⟨wo,hwo⟩:∃ x,x=wr:=⟨_,rfl⟩;subst hwo;have BB:=Lib.hid hB;have HA:=Lib.hid hall;replace BW:=zAg BW hB;have hMO:=Lib.hid (zCw hMB BB);have hCO:=Lib.hid (zCw hCB BB);clear hB hall;have hk:=hCO.out;have k0':=hk.cell (i:=0) rfl;have k1':=hk.cell (i:=1) rfl;have k2':=hk.cell (i:=2) rfl;obtain⟨c0,c1,c2,c3,c4,c5,c6,c7,c8,c9,c10⟩:=Zi (m:=m) hMO.out;by_cases hlt:k<c.psg.length
  ·skip
   have dk:decide ((k:Int)<(c.psg.length:Int))=true:=zTy;obtain⟨lb,hlb⟩:∃ b,lgB m c k=b:=⟨_,rfl⟩;have f4:=fun w1 B=>f3.out w1 B hFF.out k hlt
   rw [hlb] at f4;replace f4:=Lib.hid f4;have HLB:=Lib.hid hlb;clear hlb;go_wp2_with fail;refine (f4.out _ BW.out).mono ?_;rintro e w3 ⟨rfl,b3⟩;replace BW:=zAg BW b3;have B_wo:=Lib.hid b3;clear b3 hk k0' k1' k2' c0 c1 c2 c3 c4 c5 c6 c7 c8 c9 c10;have hk:=(zCw hCO B_wo);have k0':=hk.cell (i:=0) rfl;have k1':=hk.cell (i:=1) rfl;have k2':=hk.cell (i:=2) rfl;obtain⟨c0,c1,c2,c3,c4,c5,c6,c7,c8,c9,c10⟩:=Zi (m:=m) (zCw hMO B_wo);cases lb
   ·skip
    have HV:=Lib.hid (show x=false by rw [HB.out,decide_eq_false_iff_not];intro h;have:=h k hlt;rw [HLB.out] at this;cases this)
    go_wp2;go_ret2;exact⟨by rw [HV.out,HE.out];rfl,BW.out⟩
   go_wp2;go_roundw
   case rel =>
    refine⟨k+1,by omega,by go_num,fun j hj=>?_,BB.out.trans (B_wo.out.mono BB.out.size)⟩
    by_cases e:j=k
    ·rw [e];exact HLB.out
    ·exact HA.out j (by omega)
   case measure=>simp [intOf];omega
  obtain rfl:k=c.psg.length:=by omega
  have jj:decide ((c.psg.length:Int)<(c.psg.length:Int))=false:=by simp
  have HV:=Lib.hid (show x=true by rw [HB.out,decide_eq_true_eq];exact HA.out)
  go_wp2;go_ret2;exact⟨by rw [HV.out,HE.out];rfl,BW.out⟩
end
end Go.Proofs.YtpimbaaahcemhaaGreat
