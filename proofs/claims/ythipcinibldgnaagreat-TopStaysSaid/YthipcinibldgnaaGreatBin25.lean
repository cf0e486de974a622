/- package cert: isClear. | package cert: home. | package cert: keeps. | package cert: the closures of Check. | Certificates: what stays right with fe .. -/
import Derived.Test.YthipcinibldgnaaGreatBin23
import Derived.Test.YthipcinibldgnaaGreatBin24
open Go.Value renaming int->O,pointer->qP,slice->qS
open Go.IntKind renaming wrap->qW,i64->qL
open Go.Lib renaming hid->qH
open Go.RowKit.Below renaming refl->qK
open Go.World renaming alloc->qV,block_lt_of_cell?->qO
open Nat renaming le_refl->qN
open And renaming intro->qI
open Go.Act renaming put->qJ
set_option linter.unusedSimpArgs false
set_option linter.unusedVariables false
set_option maxRecDepth 8000
set_option maxHeartbeats 6400000
namespace Go.Proofs.YthipcinibldgnaaGreat
section
attribute [local irreducible] wpQuiet
open Go.RowKit
theorem Z3L (m:Msn) (vw vh vr:Value) (w:World) (hm:MsnAt w.heap.size w m vw vh vr) (V:VMsn m) (a b:Nat) (u v:Int) (ha:a<m.ways.length) (hb:b<m.ways.length) :
  Calls Tryz.prog 97 #[.agg (Zc m vw vh vr),O qL a,O qL u,O qL b,O qL v] w fun e w'=>e=.returned (.bool (ccB m a u b v))/\Below w.heap.size w w':=by
 have n41:=V.n41;have g:=fun h=>ZbU V (a:=a) (b:=b) (u:=u) (v:=v) h
 unfold atW at g;have f1:=fun Y=>Z0z ⟨(wy m.ways a).x,(wy m.ways a).y⟩ ⟨(wy m.ways b).x,(wy m.ways b).y⟩ u v Y
 have f2:=fun vc Y (B:Below w.heap.size w Y) h=>Z1w vc vr (corL ⟨(wy m.ways a).x,(wy m.ways a).y⟩ u ⟨(wy m.ways b).x,(wy m.ways b).y⟩ v) m.rocks Y h (((hm.2.2).below B).mono B.size)
 unfold ccB clrB atW;obtain⟨⟨-,a1,c1,rfl,o⟩,⟨-,a2,c2,rfl,-⟩,⟨-,a3,c3,rfl,-⟩⟩:=hm;obtain⟨t,s,rfl,G,o⟩:=o.resolve_left (by intro h;rw [h] at ha;simp at ha)
 obtain⟨Z,W,-⟩:=o a ha;obtain⟨T,x4,-⟩:=o b hb;clear o V;unfold Zc at *;generalize corL ⟨(wy m.ways a).x,(wy m.ways a).y⟩ u ⟨(wy m.ways b).x,(wy m.ways b).y⟩ v=cl at *;obtain⟨U,hce⟩:∃ x,corE ⟨(wy m.ways a).x,(wy m.ways a).y⟩ u ⟨(wy m.ways b).x,(wy m.ways b).y⟩ v=x:=⟨_,rfl⟩;simp only [hce] at f1 g ⊢;clear hce;obtain⟨px,h1⟩:∃ x,(wy m.ways a).x=x:=⟨_,rfl⟩;obtain⟨py,h2⟩:∃ x,(wy m.ways a).y=x:=⟨_,rfl⟩;obtain⟨qx,h3⟩:∃ x,(wy m.ways b).x=x:=⟨_,rfl⟩;obtain⟨qy,h4⟩:∃ x,(wy m.ways b).y=x:=⟨_,rfl⟩;rw [h1,h2,h3,h4] at f1;rw [h1] at Z;rw [h2] at W;rw [h3] at T;rw [h4] at x4;clear h1 h2 h3 h4;generalize firB cl m.rocks=fb at *;generalize firI cl m.rocks=fi at *;generalize firE cl m.rocks=fe at *;replace f1:=qH f1;replace f2:=qH f2;replace g:=qH g;have ha':(a:Int)<m.ways.length:=by omega
 have hb':(b:Int)<m.ways.length:=by omega
 have ha0:(0:Int)<=a:=by omega
 have hb0:(0:Int)<=b:=by omega
 have d:=qH (qK w.heap.size w);go_enter Tryz.func97,Tryz.ntmps97;go_upto_region 1 with fail
 generalize I:qV w _=X0;obtain⟨q0,hA,hzX0⟩:=box1 I;clear I;have d:=qH hA;clear hA;have RB:=qH q0;clear q0;replace Z:=cY d.out Z G;replace W:=cY d.out W G;replace T:=cY d.out T G;replace x4:=cY d.out x4 G;have x0:X0.cell? ⟨w.heap.size,0,none⟩=some (qS (some ⟨t,s,none⟩) m.ways.length (m.ways.length+c1)):=cX 0 RB.out rfl;refine (wpIn_wide (n:=9)).1 ?_;refine Zi (Zk _) 19 (fun X=>Below X0.heap.size X0 X) (by kernel_rfl) (by kernel_rfl) (by kernel_rfl) fun hH inv0=>?_
 have hD:=Below.drew (qK X0.heap.size X0);generalize hXX1:X0.drew=X1 at *;clear hXX1;replace d:=zAd d hD;have c:=qH hD;clear hD;refine sk hH 0 (qP (some ⟨w.heap.size,0,none⟩)) (Zd rfl) inv0 (fun X hX=>?_) fun R=>?_
 ·go_simp
 simp only [pT];clear inv0;refine sk hH 1 (qS (some ⟨t,s,none⟩) m.ways.length (m.ways.length+c1)) (Zd rfl) R (fun X hX=>?_) fun Q=>?_
 ·have r0:=(hX.cell (p:=⟨w.heap.size,0,none⟩) (qO _ _ x0)).trans x0;go_simp
 simp only [pT];clear R;refine sk hH 2 (O qL (a:Int)) (Zd rfl) Q (fun X hX=>?_) fun J=>?_
 ·go_simp
 simp only [pT];clear Q;refine sk hH 3 (qP (some ⟨t,s+a*5,none⟩)) (Zd rfl) J (fun X hX=>?_) fun P=>?_
 ·go_simp
 simp only [pT];clear J;refine sk hH 4 (qP (some ⟨t,s+a*5,none⟩)) (Zd rfl) P (fun X hX=>?_) fun K=>?_
 ·go_simp
 simp only [pT];clear P;refine sk hH 5 (.agg #[O qL px,O qL py]) (Zd rfl) K (fun X hX=>?_) fun N=>?_
 ·have r0:=(hX.cell (p:=⟨t,s+a*5,none⟩) (qO _ _ Z)).trans Z;have r1:=(hX.cell (p:=⟨t,s+a*5+1,none⟩) (qO _ _ W)).trans W;go_simp
 simp only [pT];clear K;refine sk hH 6 (O qL u) (Zd rfl) N (fun X hX=>?_) fun H=>?_
 ·go_simp
 simp only [pT];clear N;refine sk hH 7 (qP (some ⟨w.heap.size,0,none⟩)) (Zd rfl) H (fun X hX=>?_) fun L=>?_
 ·go_simp
 simp only [pT];clear H;refine sk hH 8 (qS (some ⟨t,s,none⟩) m.ways.length (m.ways.length+c1)) (Zd rfl) L (fun X hX=>?_) fun M=>?_
 ·have r0:=(hX.cell (p:=⟨w.heap.size,0,none⟩) (qO _ _ x0)).trans x0;go_simp
 simp only [pT];clear L;refine sk hH 9 (O qL (b:Int)) (Zd rfl) M (fun X hX=>?_) fun C=>?_
 ·go_simp
 simp only [pT];clear M;refine sk hH 10 (qP (some ⟨t,s+b*5,none⟩)) (Zd rfl) C (fun X hX=>?_) fun F=>?_
 ·go_simp
 simp only [pT];clear C;refine sk hH 11 (qP (some ⟨t,s+b*5,none⟩)) (Zd rfl) F (fun X hX=>?_) fun k=>?_
 ·go_simp
 simp only [pT];clear F;refine sk hH 12 (.agg #[O qL qx,O qL qy]) (Zd rfl) k (fun X hX=>?_) fun E=>?_
 ·have r0:=(hX.cell (p:=⟨t,s+b*5,none⟩) (qO _ _ T)).trans T;have r1:=(hX.cell (p:=⟨t,s+b*5+1,none⟩) (qO _ _ x4)).trans x4;go_simp
 simp only [pT];clear k;refine sk hH 13 (O qL v) (Zd rfl) E (fun X hX=>?_) fun l=>?_
 ·go_simp
 simp only [pT];clear E;have q:=HeadInv.put2 l (j:=14) (by kernel_rfl) (by omega)
 clear l;refine sa1 (r:=14) c.out ?_;refine Zo (Zd rfl) rfl (f:=44) (args:=#[.agg #[O qL px,O qL py],O qL u,.agg #[O qL qx,O qL qy],O qL v]) (by go_simp) (f1.out X1) ?_
 rintro e Y ⟨v1,rfl,p1,b1⟩;refine⟨_,rfl,?_⟩;simp only [pT];replace d:=zAd d b1;replace c:=zAd c b1;clear b1;have P1:=qH p1;clear p1;refine sk hH 15 (.tuple #[v1,O qL U]) (Zd rfl) q (fun X hX=>?_) fun A=>?_
 ·go_simp
 simp only [pT];clear q;refine sk hH 16 v1 (Zd rfl) A (fun X hX=>?_) fun D=>?_
 ·go_simp
 simp only [pT];clear A;refine sk hH 17 (O qL U) (Zd rfl) D (fun X hX=>?_) fun z=>?_
 ·go_simp
 simp only [pT];clear D;refine sk hH 18 v1 (Zd rfl) z (fun X hX=>?_) fun S=>?_
 ·go_simp
 simp only [pT];clear z S hH;refine Zj (by kernel_rfl) c.out ?_
 simp only [List.drop_succ_cons,List.drop_zero];obtain⟨g1,d1,hv1⟩:=P1.out.len;subst hv1;clear x0 Z W T x4;have T:Y.cell? ⟨w.heap.size,3,none⟩=some (qS a3 m.rocks.length (m.rocks.length+c3)):=(zCj RB c).cell (i:=3) rfl;gi_wp2;by_cases hc:U=0
 ·have dc:(U == 0)=true:=by rw [beq_iff_eq];exact hc
  obtain rfl:fe=0:=g.out hc;subst hc;go_wp2_with fail;refine (f2.out _ _ d.out P1.out).mono ?_;rintro e w2 ⟨rfl,b2⟩;replace d:=zAd d b2;replace c:=zAd c b2;have B_w1:=qH b2;clear b2;cases fb
  all_goals
   go_wp2;go_ret;exact⟨by simp,d.out⟩
 ·have dc:(U == 0)=false:=by rw [beq_eq_false_iff_ne];exact hc
  have db:decide (U=0)=false:=by rw [decide_eq_false_iff_not];exact hc
  clear g;go_wp2;go_ret;exact⟨by rw [db];rfl,d.out⟩
theorem ZaU (m : Msn) (vw vh vr : Value) (w : World) (hm : MsnAt w.heap.size w m vw vh vr) (hV : validB m = true) (a : Nat) (ha : a < m.ways.length) (ha0 : 0 < a) (r0 : Int) (hr0 : 0 <= r0 /\ r0 <= 100000) :
  Calls Tryz.prog 98 #[.agg (Zc m vw vh vr),O qL a,O qL r0] w fun e w'=>e=endX (hwE m a r0)/\Below w.heap.size w w':=by
 have V:=(Zm m).1 hV;have n41:=V.n41;have fr:=fun c (B:Below w.heap.size w c)=>Z3r m vw vh vr ((a:Nat):Int) c ((hm.below B).mono B.size)
 rw [(Z0Y hV ha).1,(Z0Y hV ha).2] at fr;have fl:=fun c (B:Below w.heap.size w c) (i j:Nat) hi F=>Z1T (m:=m) (a:=i) (b:=j) hV hi F ▸ Z1U m vw vh vr i j c ((hm.below B).mono B.size)
 have fc:=fun c (B:Below w.heap.size w c) (i j:Nat) u v hi F=>Z3L m vw vh vr c ((hm.below B).mono B.size) V i j u v hi F
 have fw:=fun vp p c (B:Below w.heap.size w c) hp=>Z2t vp vh p m.home c hp ((hm.2.1.below B).mono B.size)
 have A:=fun j (F:j<=dep m a)=>Z0o V.ways ha F
 have W:=fun i j hi F=>ZW V.leg V.ways (i:=i) (j:=j) hi F
 have hd:=Z2V V.ways ha;have hn1:1<=dep m a:=by
  have:=Z78 V.ways ha;rcases Nat.eq_zero_or_pos (dep m a) with e | e
  ·rw [e] at this;simp only [itB] at this;omega
  ·exact e
 have X:=fun r h=>qI (Z9V V (r:=r) h) (Z7H V (r:=r) h)
 have rb:=fun j h=>ccC_bd (m:=m) (a:=a) hr0 j h
 have HH:hwE m a r0=if ccC m a r0 (dep m a)=false then 50 else if lieB m (bkR m a r0 (dep m a))=false then 52 else 0:=rfl
 have k:(intL (upto (itB m a) (dep m a+1))).length=dep m a+1:=by simp [intL,upto]
 have f:=fun j (F:j<=dep m a) (h:ccC m a r0 j=false)=>show ccC m a r0 (dep m a)=false by
  cases Y:ccC m a r0 (dep m a)
  ·rfl
  ·rw [Z7Y _ j F Y] at h;cases h
 have h0:0<m.ways.length:=by omega
 obtain⟨⟨-,a1,cap1,rfl,H⟩,⟨-,a2,cap2,rfl,-⟩,⟨-,a3,cap3,rfl,-⟩⟩:=hm;obtain⟨bw,ow,rfl,hbw,H⟩:=H.resolve_left (by intro h;rw [h] at ha;simp at ha)
 have HCW:=qH (H 0 h0);clear H;obtain⟨n,hn⟩:∃ n,dep m a=n:=⟨_,rfl⟩;simp only [hn] at A hd HH k f fr hn1;unfold Zc at *;replace fr:=qH fr;replace fl:=qH fl;replace fc:=qH fc;replace fw:=qH fw;replace A:=qH A;replace W:=qH W;replace X:=qH X;replace rb:=qH rb;replace HH:=qH HH;replace k:=qH k;replace f:=qH f;clear V hV hn;have g:=qH (qK w.heap.size w);go_enter Tryz.func98,Tryz.ntmps98;go_wp2_with fail;generalize J:qV w _=X0;obtain⟨Z,hA,ac⟩:=box1 J;clear J;have g:=qH hA;clear hA;have MB:=qH Z;clear Z ac;obtain⟨c0,c1,c2,c3,c4,c5,c6,c7,c8,c9,Q⟩:=Zh (m:=m) MB.out;refine (fr.out _ g.out).mono ?_;rintro e c ⟨v1,rfl,U,b1⟩;replace g:=zAd g b1;have L:=qH b1;clear b1;obtain⟨b3,o3,e3,q,hb3,ab⟩:=Z12 U k.out;subst q;have RO:=qH ab;have ad:=qH hb3;clear ab hb3 U c0 c1 c2 c3 c4 c5 c6 c7 c8 c9 Q;obtain⟨c0,c1,c2,c3,c4,c5,c6,c7,c8,c9,Q⟩:=Zh (m:=m) (zCj MB L);have hRX:=qH (qK c.heap.size c);clear c0 c1 c2 c3 c4 c5 c6 c7 c8 c9 Q;have HMB:=qH (zCj MB L);have ltM:=HMB.out.lt;obtain⟨hL1,hL2⟩:(1:Int)<=((n+1:Nat):Int)/\((n+1:Nat):Int)-1=(n:Int):=by omega
 have hL3:n+1-1=n:=by omega
 have hL5:¬ (1=n+1+e3):=by omega
 go_wp2
 go_loopw [2,27] (fun r i wr=>∃ j:Nat,j<=n/\r=O qL (bkR m a r0 j)/\i=O qL (j:Int)/\ccC m a r0 j=true/\Below c.heap.size c wr) (fun _ i _=>n-(intOf i).toNat)
 case atStart=>exact⟨0,Nat.zero_le _,rfl,rfl,rfl,qK _ _⟩
 case round =>
  obtain⟨j,F,rfl,rfl,hcj,hB⟩:=hrel;obtain⟨wo,hwo⟩:∃ x,x=wr:=⟨_,rfl⟩;subst hwo;have C:=qH (qI hB (g.out.trans (hB.mono g.out.size)));have l:=HMB.out.below hB ltM;have s:=qH hcj;clear hB hcj;by_cases hjn:j<n
  ·have h1:=A.out j (by omega)
   have Y:=A.out (j+1) (by omega)
   have r1:=rb.out j s.out;have E:=RO.out j (by omega)
   have o:=RO.out (j+1) (by omega)
   rw [Z1m (by omega)] at E o
   replace E:=cY C.out.1 E ad.out;replace o:=cY C.out.1 o ad.out;rw [show o3+(j+1)=o3+1+j by omega] at o
   have gl:=qH (fun G (B:Low wo G)=>fl.out G (C.out.2.trans (B.out.mono C.out.2.size)) _ _ h1 Y)
   have gc:=qH (fun G (B:Low wo G)=>fc.out G (C.out.2.trans (B.out.mono C.out.2.size)) _ _ (bkR m a r0 j) (bkR m a r0 (j+1)) h1 Y)
   have s1:Hid (bkR m a r0 (j+1)=bkR m a r0 j+gLeg m (itB m a j) (itB m a (j+1))):=rfl;have s2:Hid (ccC m a r0 (j+1)=(ccC m a r0 j && ccB m (itB m a j) (bkR m a r0 j) (itB m a (j+1)) (bkR m a r0 (j+1)))):=rfl;have gb:=W.out _ _ h1 Y;have jl1:(j:Int)<(n:Int)+1:=by omega
   have jl2:(j:Int)<(n:Int):=by omega
   have jl3:decide ((j:Int)<(n:Int))=true:=by rw [decide_eq_true_eq];omega
   have jl0:(0:Int)<=(j:Int):=by omega
   obtain⟨ra,hra⟩:∃ x,bkR m a r0 j=x:=⟨_,rfl⟩;obtain⟨rc,P⟩:∃ x,bkR m a r0 (j+1)=x:=⟨_,rfl⟩;simp only [hra,P] at r1 gc s1 s2 ⊢;generalize itB m a j=U at *;generalize itB m a (j+1)=p2 at *;generalize gLeg m U p2=gg at *;generalize dLeg m U p2=dd at *;generalize tLeg m U p2=tt at *;obtain⟨cc,hcc⟩:∃ x,ccB m U ra p2 rc=x:=⟨_,rfl⟩;simp only [hcc] at s2 gc;clear hcc hra;have rw1:qW qL (ra+gg)=rc:=by have e:=s1.out;rw [e];exact zW2
   have HRC:=qH P;clear s1 h1 Y r1 gb P;go_upto_region 5 with fail
   have z1:=Low.fact E;clear E o;have Z:=Low.fact (cX 0 l rfl);have q1:=Low.fact (cX 1 l rfl);have q2:=Low.fact (cX 2 l rfl);have q3:=Low.fact (cX 3 l rfl);have q4:=Low.fact (cX 4 l rfl);have q5:=Low.fact (cX 5 l rfl);have q6:=Low.fact (cX 6 l rfl);have q7:=Low.fact (cX 7 l rfl);have q8:=Low.fact (cX 8 l rfl);have q9:=Low.fact (cX 9 l rfl);have R:=Low.fact (cX 10 l rfl)
   (refine Zg (by kernel_rfl) (by kernel_rfl) ?_;(iterate 16 (apply qw3;(case hw=>rfl);(case hval=>(intro c hw1 hcx;simp only [Oper.quietAt];go_simp;first | done | (first | (go_at_call 20;exact Low.calls hw1 (gl.out _ hw1))) | rfl | exact⟨rfl,rfl⟩));simp only [pT]));refine wpQuiet_nil ?_;intro G hw2)
   clear gl;obtain⟨wa,hwa⟩:∃ x,x=G:=⟨_,rfl⟩;subst hwa;have hw:=qH hw2;clear hw2;have gc2:=qH (fun w3 (B:Low wa w3)=>gc.out w3 (hw.out.out.trans (B.out.mono hw.out.out.size)))
   have I:=qH (qI (C.out.1.trans (hw.out.out.mono C.out.1.size)) (C.out.2.trans (hw.out.out.mono C.out.2.size)));replace z1:=Low.fact (z1 _ hw.out);replace Z:=Low.fact (Z _ hw.out);replace q1:=Low.fact (q1 _ hw.out);replace q2:=Low.fact (q2 _ hw.out);replace q3:=Low.fact (q3 _ hw.out);replace q4:=Low.fact (q4 _ hw.out);replace q5:=Low.fact (q5 _ hw.out);replace q6:=Low.fact (q6 _ hw.out);replace q7:=Low.fact (q7 _ hw.out);replace q8:=Low.fact (q8 _ hw.out);replace q9:=Low.fact (q9 _ hw.out);replace R:=Low.fact (R _ hw.out);clear gc;go_upto_region 6 with fail
   (refine (wpIn_wide (n:=9)).1 ?_;refine Zn (Zk _) 11 (by kernel_rfl) (by kernel_rfl) (by kernel_rfl) ?_;simp only [List.take_succ_cons,List.take_zero,List.drop_succ_cons,List.drop_zero];(iterate 11 (apply qw3;(case hw=>rfl);(case hval=>(intro c hw1 hcx;simp only [Oper.quietAt];go_simp;first | done | (first | (go_at_call 97;exact Low.calls hw1 (gc2.out _ hw1))) | rfl | exact⟨rfl,rfl⟩));simp only [pT]));refine wpQuiet_nil ?_;intro G hw2)
   have aa:=qH (qI (I.out.1.trans (hw2.out.mono I.out.1.size)) (I.out.2.trans (hw2.out.mono I.out.2.size)));clear hw2 Z q1 q2 q3 q4 q5 q6 q7 q8 q9 R z1;cases cc
   ·have HV:=qH (show hwE m a r0=50 by rw [HH.out,f.out (j+1) (by omega) (by rw [s2.out,s.out];rfl)];rfl)
    gi_wp2_with (refine⟨trivial,?_⟩;gi_at_call 96;refine (callsIn_wide.2 (Z3C _ _)).mono ?_;rintro e w' ⟨rfl,rfl⟩)
    exact Z4q rfl ⟨by rw [HV.out,Z3f (by decide)],aa.out.2⟩
   ·gi_wp2_with (refine⟨trivial,?_⟩;gi_at_call 96;refine (callsIn_wide.2 (Z3B _ _)).mono ?_;rintro e w' ⟨rfl,rfl⟩)
    go_wp2;go_roundw
    case rel=>exact⟨j+1,by omega,by rw [HRC.out],by go_num,by rw [s2.out,s.out];rfl,aa.out.1⟩
    case measure=>simp [intOf];omega
  obtain rfl:j=n:=by omega
  have jj:decide ((j:Int)<(j:Int))=false:=by simp
  have hrr:=rb.out j s.out;obtain⟨M,e1',S,N⟩:=X.out _ hrr;have z:=HH.out;rw [s.out,if_neg (by simp)] at z
  generalize bkR m a r0 j=rr at *;unfold atW at M S N;have fd:=fun c=>Z3F rr c
  rw [e1'] at fd;have T:=fun v c h=>Z10 v (dskL rr) ⟨(wy m.ways 0).x,(wy m.ways 0).y⟩ c h
  rw [S] at T;have t:=fun vp c B hp=>fw.out vp (shL (dskL rr) ⟨(wy m.ways 0).x,(wy m.ways 0).y⟩) c B hp
  rw [N,M] at t;generalize shL (dskL rr) ⟨(wy m.ways 0).x,(wy m.ways 0).y⟩=sl at T t;generalize dskL rr=dl at fd T;clear M e1' S N;generalize lieB m rr=bc at *;simp only at T;have D:=qH (qI HCW.out.1 HCW.out.2.1);have h0':(0:Int)<m.ways.length:=by omega
  rw [Nat.zero_mul,Nat.add_zero] at D;generalize (wy m.ways 0).x=px at *;generalize (wy m.ways 0).y=py at *;replace fd:=qH fd;replace T:=qH T;replace t:=qH t;replace z:=qH z;replace g:=qH C.out.2;have MR:=qH l;clear l hL1 hL2 hL3;go_wp2_with fail;refine (fd.out wo).mono ?_;rintro e G ⟨v9,rfl,p9,b2⟩;replace g:=zAd g b2;have d:=qH b2;clear b2;have P1:=qH p9;clear p9;obtain⟨g1',k1',q⟩:=P1.out.len;subst q;have x1:=cY g.out D.out.1 hbw;have x2:=cY g.out D.out.2 hbw;have x0:G.cell? ⟨w.heap.size,0,none⟩=some (qS (some ⟨bw,ow,none⟩) m.ways.length (m.ways.length+cap1)):=(zCj MR d).cell (i:=0) rfl;go_wp2_with fail;refine (T.out _ _ P1.out).mono ?_;rintro e w3 ⟨v9,rfl,p9,b3⟩;replace g:=zAd g b3;replace d:=zAd d b3;have K:=qH b3;clear b3;have P2:=qH p9;clear p9;obtain⟨g2',k2',q⟩:=P2.out.len;subst q;clear x0 x1 x2;have x0:w3.cell? ⟨w.heap.size,1,none⟩=some (qS a2 m.home.length (m.home.length+cap2)):=(zCj MR d).cell (i:=1) rfl;go_wp2_with fail;refine (t.out _ _ g.out P2.out).mono ?_;rintro e w4 ⟨rfl,b4⟩;replace g:=zAd g b4;replace d:=zAd d b4;replace K:=zAd K b4;have B_w3:=qH b4;clear b4 x0;cases bc
  ·have HV:=qH (show hwE m a r0=52 by rw [z.out];rfl)
   go_wp2_with fail;refine (Z3C _ _).mono ?_;rintro e w' ⟨rfl,rfl⟩;exact Z4q rfl ⟨by rw [HV.out,Z3f (by decide)],g.out⟩
  ·have HV:=qH (show hwE m a r0=0 by rw [z.out];rfl)
   go_wp2_with fail;refine (Z3B _ _).mono ?_;rintro e w' ⟨rfl,rfl⟩;go_wp2;go_end0;exact⟨by rw [HV.out,Z6e],g.out⟩
theorem Z4J (m:Msn) (vw vh vr:Value) (w:World) (hm:MsnAt w.heap.size w m vw vh vr) (hV:validB m=true) (i:Nat) (hi:i+1<m.ways.length) (pv:Value) (u v t e:Int) (ht:0<=t/\t<=1000000000000000) (he:0<=e/\e<=1000000000000000) :
  Calls Tryz.prog 43 #[.agg (Zc m vw vh vr),O qL i,.agg #[pv,O qL u,O qL v,O qL t,O qL e]] w fun e' w'=>e'=.returned (O qL (kpsE m i u v t e))/\Below w.heap.size w w':=by
 have V:=(Zm m).1 hV;have n41:=V.n41;have fc:=fun N (B:Below w.heap.size w N)=>Z3L m vw vh vr N ((hm.below B).mono B.size) V i (i+1) u v (by omega) hi
 have fh:=fun N (B:Below w.heap.size w N) hv=>ZaU m vw vh vr N ((hm.below B).mono B.size) hV (i+1) hi (by omega) v hv
 have fp:=fun N (B:Below w.heap.size w N)=>Z1p m vw vh vr (i+1) N ((hm.below B).mono B.size) hV hi
 have hte:=Z0H V hi _ (qN (dep m (i+1)));have hd:=Z2V V.ways hi;have W:=fun h=>Zcy (m:=m) (a:=i) (b:=i+1) (u:=u) (w:=v) h
 have U:=hwE_or m (i+1) v;have R:kpsE m i u v t e=if ccB m i u (i+1) v=false then 50 else if hwE m (i+1) v=50 then 50 else if hwE m (i+1) v=52 then 52 else if e+homeE m (i+1) (dep m (i+1))>m.battery then 51 else if t+homeT m (i+1) (dep m (i+1))>m.deadline then 6 else 0:=rfl
 generalize kpsE m i u v t e=kk at *;generalize ccB m i u (i+1) v=cb at *;generalize hwE m (i+1) v=hw at *;generalize homeE m (i+1) (dep m (i+1))=hE at *;generalize homeT m (i+1) (dep m (i+1))=hT at *;generalize dep m (i+1)=dp at *;obtain⟨⟨-,a1,cap1,rfl,-⟩,⟨-,a2,cap2,rfl,-⟩,⟨-,a3,cap3,rfl,-⟩⟩:=hm;unfold Zc at *;replace fc:=qH fc;replace fh:=qH fh;replace fp:=qH fp;replace R:=qH R;replace W:=qH W;replace U:=qH U;have jw:qW qL ((i:Int)+1)=((i+1:Nat):Int):=by rw [show (i:Int)+1=((i+1:Nat):Int) by omega];exact zW2
 have wE:qW qL (e+hE)=e+hE:=zW2;have wT:qW qL (t+hT)=t+hT:=zW2;clear V hV hte ht he hd;have q:=qH (qK w.heap.size w)
 go_enter_defers Tryz.func43,Tryz.ntmps43
 go_wp2_with fail;generalize T:qV (qV (qV w _) _) _=X0;obtain⟨q0,q1,q2,hA,hzX0⟩:=box3 T;clear T;have q:=qH hA;clear hA;have X:=qH q0;clear q0;have Y:=qH q1;clear q1;have Z:=qH q2;clear q2;obtain⟨z,L,G,E,D,M,A,C,K,r,n⟩:=Zh (m:=m) X.out;have g:=Y.out;have J:=cX 0 g rfl;have H:=cX 1 g rfl;have y:=cX 2 g rfl;have F:=cX 3 g rfl;have I:=cX 4 g rfl;refine (fc.out _ q.out).mono ?_;rintro e N ⟨rfl,b1⟩;replace q:=zAd q b1;have c:=qH b1;clear b1 z L G E D M A C K r n g J H y F I;obtain⟨z,L,G,E,D,M,A,C,K,r,n⟩:=Zh (m:=m) (zCj X c);have g:=(zCj Y c);have J:=cX 0 g rfl;have H:=cX 1 g rfl;have y:=cX 2 g rfl;have F:=cX 3 g rfl;have I:=cX 4 g rfl;cases cb
 ·skip
  have S:=qH (show kk=50 by rw [R.out,if_pos rfl])
  go_wp2_with fail;refine (Z3C _ _).mono ?_;rintro e0 Q ⟨rfl,k⟩;rw [k];clear k Q z L G E D M A C K r n g J H y F I;have o:=qH (zCj Z c);refine leaves_cons (f:=95) (args:=#[qP (some ⟨w.heap.size+1+1,0,none⟩)]) (by simp) (by simp [go_sem]) ?_
  refine (Z0h ⟨w.heap.size+1+1,0,none⟩ (O qL 0) 50 _ (cX 0 o.out rfl) (Ze o.out 0)).mono ?_;rintro e9 u9 P ⟨rfl,rfl,l⟩;have j:=(qK N.heap.size N).alloc (qN _) (.cells #[O qL 50] 195);have d:=(o.out.below j o.out.lt).set 0 (O qL 50);have x:=(q.out.trans (j.mono q.out.size)).setCell (p:=⟨w.heap.size+1+1,0,none⟩) (by show w.heap.size<=w.heap.size+1+1;omega) (O qL 50)
  rw [<- l] at d x;have r:P.cell? ⟨w.heap.size+1+1,0,none⟩=some (O qL 50):=cX 0 d rfl;clear l d j;simp [Leaves,settle,results,Tryz.results43,go_sem,r,S.out,x]
 obtain⟨hu,hv⟩:=W.out rfl;replace R:=R.out;rw [if_neg (by simp)] at R
 replace R:=qH R;clear hu;go_wp2_with fail;refine (Z3B _ _).mono ?_;rintro e0 Q ⟨rfl,k⟩;rw [k];clear k Q;have gh:=qH (fun N B=>fh.out N B hv)
 clear fh hv;rcases U.out with rfl | rfl | rfl
 ·skip
  have S:=qH (show kk=50 by rw [R.out];rfl)
  go_wp2_with fail;refine (gh.out _ q.out).mono ?_;rintro e w2 ⟨rfl,b2⟩;replace q:=zAd q b2;replace c:=zAd c b2;clear b2 z L G E D M A C K r n g J H y F I;obtain⟨z,L,G,E,D,M,A,C,K,r,n⟩:=Zh (m:=m) (zCj X c);have g:=(zCj Y c);have J:=cX 0 g rfl;have H:=cX 1 g rfl;have y:=cX 2 g rfl;have F:=cX 3 g rfl;have I:=cX 4 g rfl;rw [Z3f (by decide)]
  clear z L G E D M A C K r n g J H y F I;have o:=qH (zCj Z c);refine leaves_cons (f:=95) (args:=#[qP (some ⟨w.heap.size+1+1,0,none⟩)]) (by simp) (by simp [go_sem]) ?_
  refine (Z0h ⟨w.heap.size+1+1,0,none⟩ (O qL 0) 50 _ (cX 0 o.out rfl) (Ze o.out 0)).mono ?_;rintro e9 u9 P ⟨rfl,rfl,l⟩;have j:=(qK w2.heap.size w2).alloc (qN _) (.cells #[O qL 50] 195);have d:=(o.out.below j o.out.lt).set 0 (O qL 50);have x:=(q.out.trans (j.mono q.out.size)).setCell (p:=⟨w.heap.size+1+1,0,none⟩) (by show w.heap.size<=w.heap.size+1+1;omega) (O qL 50)
  rw [<- l] at d x;have r:P.cell? ⟨w.heap.size+1+1,0,none⟩=some (O qL 50):=cX 0 d rfl;clear l d j;simp [Leaves,settle,results,Tryz.results43,go_sem,r,S.out,x]
 ·skip
  have S:=qH (show kk=52 by rw [R.out];rfl)
  go_wp2_with fail;refine (gh.out _ q.out).mono ?_;rintro e w3 ⟨rfl,b3⟩;replace q:=zAd q b3;replace c:=zAd c b3;clear b3 z L G E D M A C K r n g J H y F I;obtain⟨z,L,G,E,D,M,A,C,K,r,n⟩:=Zh (m:=m) (zCj X c);have g:=(zCj Y c);have J:=cX 0 g rfl;have H:=cX 1 g rfl;have y:=cX 2 g rfl;have F:=cX 3 g rfl;have I:=cX 4 g rfl;rw [Z3f (by decide)]
  clear z L G E D M A C K r n g J H y F I;have o:=qH (zCj Z c);refine leaves_cons (f:=95) (args:=#[qP (some ⟨w.heap.size+1+1,0,none⟩)]) (by simp) (by simp [go_sem]) ?_
  refine (Z0h ⟨w.heap.size+1+1,0,none⟩ (O qL 0) 52 _ (cX 0 o.out rfl) (Ze o.out 0)).mono ?_;rintro e9 u9 P ⟨rfl,rfl,l⟩;have j:=(qK w3.heap.size w3).alloc (qN _) (.cells #[O qL 52] 195);have d:=(o.out.below j o.out.lt).set 0 (O qL 52);have x:=(q.out.trans (j.mono q.out.size)).setCell (p:=⟨w.heap.size+1+1,0,none⟩) (by show w.heap.size<=w.heap.size+1+1;omega) (O qL 52)
  rw [<- l] at d x;have r:P.cell? ⟨w.heap.size+1+1,0,none⟩=some (O qL 52):=cX 0 d rfl;clear l d j;simp [Leaves,settle,results,Tryz.results43,go_sem,r,S.out,x]
 have s:=qH (show kk=if e+hE>m.battery then 51 else if t+hT>m.deadline then 6 else 0 from by rw [R.out];rfl)
 go_wp2_with fail;refine (gh.out _ q.out).mono ?_;rintro e w4 ⟨rfl,b4⟩;replace q:=zAd q b4;replace c:=zAd c b4;clear b4;rw [Z6e];clear z L G E D M A C K r n g J H y F I;obtain⟨z,L,G,E,D,M,A,C,K,r,n⟩:=Zh (m:=m) (zCj X c);have g:=(zCj Y c);have J:=cX 0 g rfl;have H:=cX 1 g rfl;have y:=cX 2 g rfl;have F:=cX 3 g rfl;have I:=cX 4 g rfl;go_wp2_with fail;refine (fp.out _ q.out).mono ?_;rintro e w5 ⟨rfl,b5⟩;replace q:=zAd q b5;replace c:=zAd c b5;clear b5 z L G E D M A C K r n g J H y F I;obtain⟨z,L,G,E,D,M,A,C,K,r,n⟩:=Zh (m:=m) (zCj X c);have g:=(zCj Y c);have J:=cX 0 g rfl;have H:=cX 1 g rfl;have y:=cX 2 g rfl;have F:=cX 3 g rfl;have I:=cX 4 g rfl;by_cases hbat:e+hE>m.battery
 ·skip
  have dB:decide (e+hE<=m.battery)=false:=by rw [decide_eq_false_iff_not];omega
  have S:=qH (show kk=51 by rw [s.out,if_pos hbat])
  go_wp2_with fail;refine (Z3C _ _).mono ?_;rintro e0 Q ⟨rfl,k⟩;rw [k];clear k Q z L G E D M A C K r n g J H y F I;have o:=qH (zCj Z c);refine leaves_cons (f:=95) (args:=#[qP (some ⟨w.heap.size+1+1,0,none⟩)]) (by simp) (by simp [go_sem]) ?_
  refine (Z0h ⟨w.heap.size+1+1,0,none⟩ (O qL 0) 51 _ (cX 0 o.out rfl) (Ze o.out 0)).mono ?_;rintro e9 u9 P ⟨rfl,rfl,l⟩;have j:=(qK w5.heap.size w5).alloc (qN _) (.cells #[O qL 51] 195);have d:=(o.out.below j o.out.lt).set 0 (O qL 51);have x:=(q.out.trans (j.mono q.out.size)).setCell (p:=⟨w.heap.size+1+1,0,none⟩) (by show w.heap.size<=w.heap.size+1+1;omega) (O qL 51)
  rw [<- l] at d x;have r:P.cell? ⟨w.heap.size+1+1,0,none⟩=some (O qL 51):=cX 0 d rfl;clear l d j;simp [Leaves,settle,results,Tryz.results43,go_sem,r,S.out,x]
 have dB:decide (e+hE<=m.battery)=true:=by rw [decide_eq_true_eq];omega
 replace s:=s.out;rw [if_neg hbat] at s;replace s:=qH s;go_wp2_with fail;refine (Z3B _ _).mono ?_;rintro e0 Q ⟨rfl,k⟩;rw [k];clear k Q;by_cases htim:t+hT>m.deadline
 ·skip
  have dT:decide (t+hT<=m.deadline)=false:=by rw [decide_eq_false_iff_not];omega
  have S:=qH (show kk=6 by rw [s.out,if_pos htim])
  go_wp2_with fail;refine (Z3C _ _).mono ?_;rintro e0 Q ⟨rfl,k⟩;rw [k];clear k Q z L G E D M A C K r n g J H y F I;have o:=qH (zCj Z c);refine leaves_cons (f:=95) (args:=#[qP (some ⟨w.heap.size+1+1,0,none⟩)]) (by simp) (by simp [go_sem]) ?_
  refine (Z0h ⟨w.heap.size+1+1,0,none⟩ (O qL 0) 6 _ (cX 0 o.out rfl) (Ze o.out 0)).mono ?_;rintro e9 u9 P ⟨rfl,rfl,l⟩;have j:=(qK w5.heap.size w5).alloc (qN _) (.cells #[O qL 6] 195);have d:=(o.out.below j o.out.lt).set 0 (O qL 6);have x:=(q.out.trans (j.mono q.out.size)).setCell (p:=⟨w.heap.size+1+1,0,none⟩) (by show w.heap.size<=w.heap.size+1+1;omega) (O qL 6)
  rw [<- l] at d x;have r:P.cell? ⟨w.heap.size+1+1,0,none⟩=some (O qL 6):=cX 0 d rfl;clear l d j;simp [Leaves,settle,results,Tryz.results43,go_sem,r,S.out,x]
 have dT:decide (t+hT<=m.deadline)=true:=by rw [decide_eq_true_eq];omega
 have S:=qH (show kk=0 by rw [s.out,if_neg htim])
 go_wp2_with fail;refine (Z3B _ _).mono ?_;rintro e0 Q ⟨rfl,k⟩;rw [k];clear k Q;have o:=qH (zCj Z c);have he0:=cX 0 o.out rfl;have he1:=Ze o.out 0;go_wp2;refine leaves_cons (f:=95) (args:=#[qP (some ⟨w.heap.size+1+1,0,none⟩)]) (by simp) (by simp [go_sem]) ?_
 refine (Z48 ⟨w.heap.size+1+1,0,none⟩ _).mono ?_;rintro e9 u9 P ⟨rfl,rfl,l⟩;have d:=o.out.set 0 (O qL 0);have x:=q.out.setCell (p:=⟨w.heap.size+1+1,0,none⟩) (by show w.heap.size<=w.heap.size+1+1;omega) (O qL 0)
 rw [<- l] at d x;have r:P.cell? ⟨w.heap.size+1+1,0,none⟩=some (O qL 0):=cX 0 d rfl;clear l d;simp [Leaves,settle,results,Tryz.results43,go_sem,r,S.out,x]
noncomputable def lg1 (m:Msn) (c:Crt) (i:Nat):Bool:=decide (befR m c i<=(pgd c.psg i).fr) && decide ((pgd c.psg i).fr+gLeg m i (i+1)<=(pgd c.psg i).tw)
noncomputable def lg2 (m:Msn) (c:Crt) (i:Nat):Bool:=decide (befT m c i+tLeg m i (i+1)<=(pgd c.psg i).tm) && (decide (befE m c i+eLeg m i (i+1)<=(pgd c.psg i).en) && decide (homeE m (i+1) (dep m (i+1))<=c.ret.getD i 0))
noncomputable def lg3 (m:Msn) (c:Crt) (i:Nat):Bool:=decide ((pgd c.psg i).en+c.ret.getD i 0<=m.battery) && decide (kpsE m i (pgd c.psg i).fr (pgd c.psg i).tw (pgd c.psg i).tm (pgd c.psg i).en=0)
noncomputable def lg4 (m:Msn) (c:Crt) (i:Nat):Bool:=decide (corE (atW m i) (pgd c.psg i).fr (atW m (i+1)) (pgd c.psg i).tw=0) && (withinB (corL (atW m i) (pgd c.psg i).fr (atW m (i+1)) (pgd c.psg i).tw) (pgd c.psg i).cor && !firB (pgd c.psg i).cor m.rocks)
noncomputable def lgB (m:Msn) (c:Crt) (i:Nat):Bool:=lg1 m c i && (lg2 m c i && (lg3 m c i && lg4 m c i))
noncomputable def chkB (m:Msn) (c:Crt):Bool:=frmB m c && decide (∀ i,i<c.psg.length->lgB m c i=true)
noncomputable def chkE (m:Msn) (c:Crt):Int:=if frmB m c=true then 0 else 1
theorem Zc9 (bp bf bg:Nat) (u:Value) (p:Psg) (f g:Int) (w:World) (hp:Has w bp #[u,O qL p.fr,O qL p.tw,O qL p.tm,O qL p.en] 58) (hf:Has w bf #[O qL f] 3) (hg:Has w bg #[O qL g] 3) (h1:0<=p.fr/\p.fr<=100000) (h2:0<=g/\g<=1000000000000) :
  Calls Tryz.prog 48 #[qP (some ⟨bp,0,none⟩),qP (some ⟨bf,0,none⟩),qP (some ⟨bg,0,none⟩)] w fun e w'=>e=.returned (.bool (decide (f<=p.fr) && decide (p.fr+g<=p.tw)))/\Below w.heap.size w w':=by
 have d:=cX 1 hp rfl;have c:=cX 2 hp rfl;have y:=cX 0 hf rfl;have z:=cX 0 hg rfl;have j:qW qL (p.fr+g)=p.fr+g:=zW2;clear hp hf hg;by_cases hd:f<=p.fr
 ·have b:decide (p.fr>=f)=true:=by rw [decide_eq_true_eq];exact hd
  have a:=qH (decide_eq_true hd);clear hd;go_enter Tryz.func48,Tryz.ntmps48;go_wp2;go_ret;exact⟨by rw [a.out];simp [ge_iff_le],qK _ _⟩
 ·have b:decide (p.fr>=f)=false:=by rw [decide_eq_false_iff_not];exact hd
  have a:=qH (decide_eq_false hd);clear hd;go_enter Tryz.func48,Tryz.ntmps48;go_wp2;go_ret;exact⟨by rw [a.out];rfl,qK _ _⟩
theorem Zc8 (bp b1 b2 b3 b4 bc bi b7:Nat) (u vs vp:Value) (ar:Option Addr) (cr:Nat) (p:Psg) (l:List Int) (i:Nat) (hi:i<l.length) (t a e c r:Int) (w:World) (hp:Has w bp #[u,O qL p.fr,O qL p.tw,O qL p.tm,O qL p.en] 58) (h1:Has w b1 #[O qL t] 3) (h2:Has w b2 #[O qL a] 3) (h3:Has w b3 #[O qL e] 3) (h4:Has w b4 #[O qL c] 3) (hc:Has w bc #[vs,vp,qS ar l.length (l.length+cr)] 47) (hbi:Has w bi #[O qL i] 3) (h7:Has w b7 #[O qL r] 3)
  (hl:Z8 w.heap.size w (qS ar l.length (l.length+cr)) l) (g1:0<=t/\t<=1000000000000) (g2:0<=a/\a<=1000000000000) (g3:0<=e/\e<=1000000000000) (g4:0<=c/\c<=1000000000000) :
  Calls Tryz.prog 49 #[qP (some ⟨bp,0,none⟩),qP (some ⟨b1,0,none⟩),qP (some ⟨b2,0,none⟩),qP (some ⟨b3,0,none⟩),qP (some ⟨b4,0,none⟩),qP (some ⟨bc,0,none⟩),qP (some ⟨bi,0,none⟩),qP (some ⟨b7,0,none⟩)] w fun e' w'=>e'=.returned (.bool (decide (t+a<=p.tm) && (decide (e+c<=p.en) && decide (r<=l.getD i 0))))/\Below w.heap.size w w':=by
 obtain⟨-,X,J,P,f⟩:=hl;obtain⟨b,o,q,W,f⟩:=f.resolve_left (by intro h;rw [h] at hi;simp at hi)
 simp only [Value.slice.injEq] at P;obtain⟨A,-,-⟩:=P;rw [q] at A;subst A;have F:=f i hi;have E:=cX 3 hp rfl;have m:=cX 4 hp rfl;have v:=cX 0 h1 rfl;have s:=cX 0 h2 rfl;have z:=cX 0 h3 rfl;have Q:=cX 0 h4 rfl;have B:w.cell? ⟨bc,2,none⟩=some (qS (some ⟨b,o,none⟩) l.length (l.length+cr)):=cX 2 hc rfl;have D:=cX 0 hbi rfl;have K:=cX 0 h7 rfl;have g:qW qL (t+a)=t+a:=zW2;have T:qW qL (e+c)=e+c:=zW2;have V:(i:Int)<l.length:=by omega
 have U:(0:Int)<=i:=by omega
 generalize l.getD i 0=li at *;clear hp h1 h2 h3 h4 hc hbi h7 f q;have d:=qH (qI F (qI E (qI m (qI v (qI s (qI z (qI Q (qI B (qI D K)))))))));clear F E m v s z Q B D K;by_cases hd:t+a<=p.tm
 ·have R:decide (p.tm>=t+a)=true:=by rw [decide_eq_true_eq];exact hd
  have j:=qH (decide_eq_true hd);by_cases he:e+c<=p.en
  ·have S:decide (p.en>=e+c)=true:=by rw [decide_eq_true_eq];exact he
   have k:=qH (decide_eq_true he);clear hd he;go_enter Tryz.func49,Tryz.ntmps49;go_upto_region 1 with fail
   have I:=Low.fact d.out.1;have y:=Low.fact d.out.2.1;have H:=Low.fact d.out.2.2.1;have G:=Low.fact d.out.2.2.2.1;have N:=Low.fact d.out.2.2.2.2.1;have n:=Low.fact d.out.2.2.2.2.2.1;have M:=Low.fact d.out.2.2.2.2.2.2.1;have L:=Low.fact d.out.2.2.2.2.2.2.2.1;have C:=Low.fact d.out.2.2.2.2.2.2.2.2.1;have x:=Low.fact d.out.2.2.2.2.2.2.2.2.2
   (refine Zg (by kernel_rfl) (by kernel_rfl) ?_;(iterate 24 (apply qw3;(case hw=>rfl);(case hval=>(intro g hw1 hcx;simp only [Oper.quietAt];go_simp;first | done | rfl | exact⟨rfl,rfl⟩));simp only [pT]));refine wpQuiet_nil ?_;intro w2 hw2)
   go_wp2;go_ret;exact⟨by rw [j.out,k.out];simp [ge_iff_le],hw2.out⟩
  ·have S:decide (p.en>=e+c)=false:=by rw [decide_eq_false_iff_not];exact he
   have k:=qH (decide_eq_false he);clear hd he;go_enter Tryz.func49,Tryz.ntmps49;go_upto_region 1 with fail
   have I:=Low.fact d.out.1;have y:=Low.fact d.out.2.1;have H:=Low.fact d.out.2.2.1;have G:=Low.fact d.out.2.2.2.1;have N:=Low.fact d.out.2.2.2.2.1;have n:=Low.fact d.out.2.2.2.2.2.1;have M:=Low.fact d.out.2.2.2.2.2.2.1;have L:=Low.fact d.out.2.2.2.2.2.2.2.1;have C:=Low.fact d.out.2.2.2.2.2.2.2.2.1;have x:=Low.fact d.out.2.2.2.2.2.2.2.2.2
   (refine Zg (by kernel_rfl) (by kernel_rfl) ?_;(iterate 15 (apply qw3;(case hw=>rfl);(case hval=>(intro g hw1 hcx;simp only [Oper.quietAt];go_simp;first | done | rfl | exact⟨rfl,rfl⟩));simp only [pT]));(iterate 7 (apply Zr;(case hw=>rfl);simp only [pT]));(iterate 2 (apply qw3;(case hw=>rfl);(case hval=>(intro g hw1 hcx;simp only [Oper.quietAt];go_simp;first | done | rfl | exact⟨rfl,rfl⟩));simp only [pT]));refine wpQuiet_nil ?_;intro w2 hw2)
   go_wp2;go_ret;exact⟨by rw [j.out,k.out];rfl,hw2.out⟩
 ·have R:decide (p.tm>=t+a)=false:=by rw [decide_eq_false_iff_not];exact hd
  have j:=qH (decide_eq_false hd);clear hd;go_enter Tryz.func49,Tryz.ntmps49;go_upto_region 1 with fail
  have I:=Low.fact d.out.1;have y:=Low.fact d.out.2.1;have H:=Low.fact d.out.2.2.1;have G:=Low.fact d.out.2.2.2.1;have N:=Low.fact d.out.2.2.2.2.1;have n:=Low.fact d.out.2.2.2.2.2.1;have M:=Low.fact d.out.2.2.2.2.2.2.1;have L:=Low.fact d.out.2.2.2.2.2.2.2.1;have C:=Low.fact d.out.2.2.2.2.2.2.2.2.1;have x:=Low.fact d.out.2.2.2.2.2.2.2.2.2
  (refine Zg (by kernel_rfl) (by kernel_rfl) ?_;(iterate 7 (apply qw3;(case hw=>rfl);(case hval=>(intro g hw1 hcx;simp only [Oper.quietAt];go_simp;first | done | rfl | exact⟨rfl,rfl⟩));simp only [pT]));(iterate 6 (apply Zr;(case hw=>rfl);simp only [pT]));(iterate 2 (apply qw3;(case hw=>rfl);(case hval=>(intro g hw1 hcx;simp only [Oper.quietAt];go_simp;first | done | rfl | exact⟨rfl,rfl⟩));simp only [pT]));(iterate 7 (apply Zr;(case hw=>rfl);simp only [pT]));(iterate 2 (apply qw3;(case hw=>rfl);(case hval=>(intro g hw1 hcx;simp only [Oper.quietAt];go_simp;first | done | rfl | exact⟨rfl,rfl⟩));simp only [pT]));refine wpQuiet_nil ?_;intro w2 hw2)
  go_wp2;go_ret;exact⟨by rw [j.out];rfl,hw2.out⟩
theorem Zc7 (bp bc bi bm:Nat) (u vs vp:Value) (ar:Option Addr) (cr:Nat) (p:Psg) (l:List Int) (i:Nat) (hi:i<l.length) (m:Msn) (vw vh vr:Value) (w:World) (hm:MsnAt w.heap.size w m vw vh vr) (hV:validB m=true) (hi1:i+1<m.ways.length) (hp:Has w bp #[u,O qL p.fr,O qL p.tw,O qL p.tm,O qL p.en] 58) (hc:Has w bc #[vs,vp,qS ar l.length (l.length+cr)] 47) (hbi:Has w bi #[O qL i] 3) (hbm:Has w bm (Zc m vw vh vr) 26)
  (hl:Z8 w.heap.size w (qS ar l.length (l.length+cr)) l) (g1:0<=p.tm/\p.tm<=1000000000) (g2:0<=p.en/\p.en<=1000000000) (g3:0<=l.getD i 0/\l.getD i 0<=1000000000) :
  Calls Tryz.prog 50 #[qP (some ⟨bp,0,none⟩),qP (some ⟨bc,0,none⟩),qP (some ⟨bi,0,none⟩),qP (some ⟨bm,0,none⟩)] w fun e' w'=>e'=.returned (.bool (decide (p.en+l.getD i 0<=m.battery) && decide (kpsE m i p.fr p.tw p.tm p.en=0)))/\Below w.heap.size w w':=by
 have j:=fun e (B:Below w.heap.size w e)=>Z4J m vw vh vr e ((hm.below B).mono B.size) hV i hi1 u p.fr p.tw p.tm p.en ⟨g1.1,by omega⟩ ⟨g2.1,by omega⟩
 generalize kpsE m i p.fr p.tw p.tm p.en=kk at *;obtain⟨-,S,r,x,d⟩:=hl;obtain⟨b,o,n,K,d⟩:=d.resolve_left (by intro h;rw [h] at hi;simp at hi)
 simp only [Value.slice.injEq] at x;obtain⟨q,-,-⟩:=x;rw [n] at q;subst q;obtain⟨⟨-,J,t,rfl,g⟩,⟨-,a2,v,rfl,-⟩,⟨-,I,s,rfl,-⟩⟩:=hm;unfold Zc at *;have c:=qH (qI (d i hi) (qI hp (qI (show w.cell? ⟨bc,2,none⟩=some (qS (some ⟨b,o,none⟩) l.length (l.length+cr)) from cX 2 hc rfl) (qI (cX 0 hbi rfl) hbm))))
 have H:(i:Int)<l.length:=by omega
 have E:(0:Int)<=i:=by omega
 generalize l.getD i 0=li at *;have e:qW qL (p.en+li)=p.en+li:=zW2;replace j:=qH j;have f:(kk == 0)=decide (kk=0):=by rw [Bool.eq_iff_iff];simp
 clear hp hc hbi hbm d n g hV;by_cases hd:p.en+li<=m.battery
 ·have z:decide (p.en+li<=m.battery)=true:=by rw [decide_eq_true_eq];exact hd
  have k:=qH (decide_eq_true hd);clear hd;go_enter Tryz.func50,Tryz.ntmps50;go_upto_region 1 with fail
  have D:=Low.fact c.out.1;have hp:=c.out.2.1;have a:=c.out.2.2.2.2;have X:=Low.fact (cX 0 hp rfl);have T:=Low.fact (cX 1 hp rfl);have Q:=Low.fact (cX 2 hp rfl);have R:=Low.fact (cX 3 hp rfl);have y:=Low.fact (cX 4 hp rfl);have F:=Low.fact c.out.2.2.1;have A:=Low.fact c.out.2.2.2.1;have L:=Low.fact (cX 0 a rfl);have W:=Low.fact (cX 1 a rfl);have Z:=Low.fact (cX 2 a rfl);have U:=Low.fact (cX 3 a rfl);have P:=Low.fact (cX 4 a rfl);have Y:=Low.fact (cX 5 a rfl);have M:=Low.fact (cX 6 a rfl);have N:=Low.fact (cX 7 a rfl);have V:=Low.fact (cX 8 a rfl);have C:=Low.fact (cX 9 a rfl);have G:=Low.fact (cX 10 a rfl);clear hp a
  (refine Zg (by kernel_rfl) (by kernel_rfl) ?_;(iterate 19 (apply qw3;(case hw=>rfl);(case hval=>(intro e hw1 hcx;simp only [Oper.quietAt];go_simp;first | done | (first | (go_at_call 43;exact Low.calls hw1 (j.out _ hw1.out))) | rfl | exact⟨rfl,rfl⟩));simp only [pT]));refine wpQuiet_nil ?_;intro w2 hw2)
  go_wp2;go_ret;exact⟨by rw [k.out];first | rfl | exact congrArg (fun b=>Ending.returned (Value.bool b)) f,hw2.out⟩
 ·have z:decide (p.en+li<=m.battery)=false:=by rw [decide_eq_false_iff_not];exact hd
  have k:=qH (decide_eq_false hd);clear hd;go_enter Tryz.func50,Tryz.ntmps50;go_upto_region 1 with fail
  have D:=Low.fact c.out.1;have hp:=c.out.2.1;have a:=c.out.2.2.2.2;have y:=Low.fact (cX 4 hp rfl);have F:=Low.fact c.out.2.2.1;have A:=Low.fact c.out.2.2.2.1;have C:=Low.fact (cX 9 a rfl);clear hp a
  (refine Zg (by kernel_rfl) (by kernel_rfl) ?_;(iterate 12 (apply qw3;(case hw=>rfl);(case hval=>(intro e hw1 hcx;simp only [Oper.quietAt];go_simp;first | done | rfl | exact⟨rfl,rfl⟩));simp only [pT]));(iterate 5 (apply Zr;(case hw=>rfl);simp only [pT]));(iterate 2 (apply qw3;(case hw=>rfl);(case hval=>(intro e hw1 hcx;simp only [Oper.quietAt];go_simp;first | done | rfl | exact⟨rfl,rfl⟩));simp only [pT]));refine wpQuiet_nil ?_;intro w2 hw2)
  go_wp2;go_ret;exact⟨by rw [k.out];rfl,hw2.out⟩
theorem Zc6 (bm bi bp:Nat) (u:Value) (p:Psg) (i:Nat) (m:Msn) (vw vh vr:Value) (w:World) (hm:MsnAt w.heap.size w m vw vh vr) (hi1:i+1<m.ways.length) (n41:m.ways.length<=41) (hp:Has w bp #[u,O qL p.fr,O qL p.tw,O qL p.tm,O qL p.en] 58) (hbi:Has w bi #[O qL i] 3) (hbm:Has w bm (Zc m vw vh vr) 26) (hu:Z7 w.heap.size w u p.cor) :
  Calls Tryz.prog 51 #[qP (some ⟨bm,0,none⟩),qP (some ⟨bi,0,none⟩),qP (some ⟨bp,0,none⟩)] w fun e' w'=>e'=.returned (.bool (decide (corE (atW m i) p.fr (atW m (i+1)) p.tw=0) && (withinB (corL (atW m i) p.fr (atW m (i+1)) p.tw) p.cor && !firB p.cor m.rocks)))/\Below w.heap.size w w':=by
 have f1:=fun G=>Z0z ⟨(wy m.ways i).x,(wy m.ways i).y⟩ ⟨(wy m.ways (i+1)).x,(wy m.ways (i+1)).y⟩ p.fr p.tw G
 have f2:=fun vc G (B:Below w.heap.size w G) h=>Z2t vc u (corL ⟨(wy m.ways i).x,(wy m.ways i).y⟩ p.fr ⟨(wy m.ways (i+1)).x,(wy m.ways (i+1)).y⟩ p.tw) p.cor G h ((hu.below B).mono B.size)
 have f3:=fun G (B:Below w.heap.size w G)=>Z1w u vr p.cor m.rocks G ((hu.below B).mono B.size) (((hm.2.2).below B).mono B.size)
 unfold atW;obtain⟨au,cu,rfl⟩:=hu.len;obtain⟨⟨-,a1,D,rfl,g⟩,⟨-,a2,cap2,rfl,-⟩,⟨-,a3,W,rfl,-⟩⟩:=hm;unfold Zc at *;obtain⟨o,l,rfl,hbw,g⟩:=g.resolve_left (by intro h;rw [h] at hi1;simp at hi1)
 obtain⟨x1,x2,-⟩:=g i (by omega)
 obtain⟨x3,x4,-⟩:=g (i+1) hi1;have HP:=qH hp;have HI:=qH hbi;have HM:=qH hbm;clear g hp hbi hbm hu;generalize corL ⟨(wy m.ways i).x,(wy m.ways i).y⟩ p.fr ⟨(wy m.ways (i+1)).x,(wy m.ways (i+1)).y⟩ p.tw=cl at *;generalize corE ⟨(wy m.ways i).x,(wy m.ways i).y⟩ p.fr ⟨(wy m.ways (i+1)).x,(wy m.ways (i+1)).y⟩ p.tw=ce at *;generalize (wy m.ways i).x=px at *;generalize (wy m.ways i).y=py at *;generalize (wy m.ways (i+1)).x=qx at *;generalize (wy m.ways (i+1)).y=qy at *;simp only at f1;generalize withinB cl p.cor=wb at *;generalize bothE cl p.cor=we at *;generalize firB p.cor m.rocks=fb at *;generalize firI p.cor m.rocks=fi at *;generalize firE p.cor m.rocks=fe at *;replace f1:=qH f1;replace f2:=qH f2;replace f3:=qH f3;have ha':(i:Int)<m.ways.length:=by omega
 have hb':((i+1:Nat):Int)<m.ways.length:=by omega
 have hb'':(i:Int)+1<m.ways.length:=by omega
 have ha0:(0:Int)<=i:=by omega
 have hb0:(0:Int)<=(i:Int)+1:=by omega
 have jw:qW qL ((i:Int)+1)=((i+1:Nat):Int):=by rw [show (i:Int)+1=((i+1:Nat):Int) by omega];exact zW2
 have a:=qH (qK w.heap.size w);go_enter Tryz.func51,Tryz.ntmps51;go_upto_region 1 with fail
 have V:w.cell? ⟨bm,0,none⟩=some (qS (some ⟨o,l,none⟩) m.ways.length (m.ways.length+D)):=cX 0 HM.out rfl;have U:=cX 0 HI.out rfl;have p1:=cX 1 HP.out rfl;have p2:=cX 2 HP.out rfl;refine (wpIn_wide (n:=9)).1 ?_;refine Zi (Zk _) 22 (fun X=>Below w.heap.size w X) (by kernel_rfl) (by kernel_rfl) (by kernel_rfl) fun hH inv0=>?_
 have hD:=Below.drew (qK w.heap.size w);generalize T:w.drew=X1 at *;clear T;have a:=qH hD;clear hD;refine sk hH 0 (qP (some ⟨bm,0,none⟩)) (Zd rfl) inv0 (fun X hX=>?_) fun P=>?_
 ·go_simp
 simp only [pT];clear inv0;refine sk hH 1 (qS (some ⟨o,l,none⟩) m.ways.length (m.ways.length+D)) (Zd rfl) P (fun X hX=>?_) fun N=>?_
 ·have S:=(hX.cell (p:=⟨bm,0,none⟩) (qO _ _ V)).trans V;go_simp
 simp only [pT];clear P;refine sk hH 2 (O qL (i:Int)) (Zd rfl) N (fun X hX=>?_) fun Q=>?_
 ·have S:=(hX.cell (p:=⟨bi,0,none⟩) (qO _ _ U)).trans U;go_simp
 simp only [pT];clear N;refine sk hH 3 (qP (some ⟨o,l+i*5,none⟩)) (Zd rfl) Q (fun X hX=>?_) fun M=>?_
 ·go_simp
 simp only [pT];clear Q;refine sk hH 4 (qP (some ⟨o,l+i*5,none⟩)) (Zd rfl) M (fun X hX=>?_) fun H=>?_
 ·go_simp
 simp only [pT];clear M;refine sk hH 5 (.agg #[O qL px,O qL py]) (Zd rfl) H (fun X hX=>?_) fun K=>?_
 ·have S:=(hX.cell (p:=⟨o,l+i*5,none⟩) (qO _ _ x1)).trans x1;have r1:=(hX.cell (p:=⟨o,l+i*5+1,none⟩) (qO _ _ x2)).trans x2;go_simp
 simp only [pT];clear H;refine sk hH 6 (qP (some ⟨bp,1,none⟩)) (Zd rfl) K (fun X hX=>?_) fun F=>?_
 ·go_simp
 simp only [pT];clear K;refine sk hH 7 (O qL p.fr) (Zd rfl) F (fun X hX=>?_) fun I=>?_
 ·have S:=(hX.cell (p:=⟨bp,1,none⟩) (qO _ _ p1)).trans p1;go_simp
 simp only [pT];clear F;refine sk hH 8 (qP (some ⟨bm,0,none⟩)) (Zd rfl) I (fun X hX=>?_) fun J=>?_
 ·go_simp
 simp only [pT];clear I;refine sk hH 9 (qS (some ⟨o,l,none⟩) m.ways.length (m.ways.length+D)) (Zd rfl) J (fun X hX=>?_) fun z=>?_
 ·have S:=(hX.cell (p:=⟨bm,0,none⟩) (qO _ _ V)).trans V;go_simp
 simp only [pT];clear J;refine sk hH 10 (O qL (i:Int)) (Zd rfl) z (fun X hX=>?_) fun E=>?_
 ·have S:=(hX.cell (p:=⟨bi,0,none⟩) (qO _ _ U)).trans U;go_simp
 simp only [pT];clear z;refine sk hH 11 (O qL ((i+1:Nat):Int)) (Zd rfl) E (fun X hX=>?_) fun c=>?_
 ·go_simp
 simp only [pT];clear E;refine sk hH 12 (qP (some ⟨o,l+(i+1)*5,none⟩)) (Zd rfl) c (fun X hX=>?_) fun C=>?_
 ·go_simp
 simp only [pT];clear c;refine sk hH 13 (qP (some ⟨o,l+(i+1)*5,none⟩)) (Zd rfl) C (fun X hX=>?_) fun d=>?_
 ·go_simp
 simp only [pT];clear C;refine sk hH 14 (.agg #[O qL qx,O qL qy]) (Zd rfl) d (fun X hX=>?_) fun k=>?_
 ·have S:=(hX.cell (p:=⟨o,l+(i+1)*5,none⟩) (qO _ _ x3)).trans x3;have r1:=(hX.cell (p:=⟨o,l+(i+1)*5+1,none⟩) (qO _ _ x4)).trans x4;go_simp
 simp only [pT];clear d;refine sk hH 15 (qP (some ⟨bp,2,none⟩)) (Zd rfl) k (fun X hX=>?_) fun s=>?_
 ·go_simp
 simp only [pT];clear k;refine sk hH 16 (O qL p.tw) (Zd rfl) s (fun X hX=>?_) fun A=>?_
 ·have S:=(hX.cell (p:=⟨bp,2,none⟩) (qO _ _ p2)).trans p2;go_simp
 simp only [pT];clear s;have q:=HeadInv.put2 A (j:=17) (by kernel_rfl) (by omega)
 clear A;refine sa1 (r:=17) a.out ?_;refine Zo (Zd rfl) rfl (f:=44) (args:=#[.agg #[O qL px,O qL py],O qL p.fr,.agg #[O qL qx,O qL qy],O qL p.tw]) (by go_simp) (f1.out X1) ?_
 rintro e G ⟨v1,rfl,p9,b1⟩;refine⟨_,rfl,?_⟩;simp only [pT];replace a:=zAd a b1;clear b1;have P1:=qH p9;clear p9;refine sk hH 18 (.tuple #[v1,O qL ce]) (Zd rfl) q (fun X hX=>?_) fun t=>?_
 ·go_simp
 simp only [pT];clear q;refine sk hH 19 v1 (Zd rfl) t (fun X hX=>?_) fun v=>?_
 ·go_simp
 simp only [pT];clear t;refine sk hH 20 (O qL ce) (Zd rfl) v (fun X hX=>?_) fun b=>?_
 ·go_simp
 simp only [pT];clear v;refine sk hH 21 v1 (Zd rfl) b (fun X hX=>?_) fun R=>?_
 ·go_simp
 simp only [pT];clear b R hH;refine Zj (by kernel_rfl) a.out ?_
 simp only [List.drop_succ_cons,List.drop_zero];obtain⟨g1,d1,hv1⟩:=P1.out.len;subst hv1;clear V U p1 p2 x1 x2 x3 x4;have Z:=(zCj HP a).cell (i:=0) rfl;gi_wp2;by_cases hc:ce=0;rotate_left
 ·have dc:(ce == 0)=false:=by rw [beq_eq_false_iff_ne];exact hc
  have Y:=qH (decide_eq_false hc);clear hc Z;go_wp2;go_ret;exact⟨by rw [Y.out];rfl,a.out⟩
 have dc:(ce == 0)=true:=by rw [beq_iff_eq];exact hc
 have Y:=qH (decide_eq_true hc);clear hc;go_wp2_with fail;refine (f2.out _ _ a.out P1.out).mono ?_;rintro e w2 ⟨rfl,b2⟩;replace a:=zAd a b2;have L:=qH b2;clear b2 Z;have Z:=(zCj HP a).cell (i:=0) rfl;have q3:w2.cell? ⟨bm,3,none⟩=some (qS a3 m.rocks.length (m.rocks.length+W)):=(zCj HM a).cell (i:=3) rfl;go_wp2_with fail;refine (f3.out _ a.out).mono ?_;rintro e w3 ⟨rfl,b3⟩;replace a:=zAd a b3;replace L:=zAd L b3;clear b3 Z q3;cases wb
 ·go_wp2
  go_ret;exact⟨by rw [Y.out];rfl,a.out⟩
 go_wp2;go_ret;exact⟨by rw [Y.out];simp,a.out⟩
end
theorem Z7I {m:Msn} {i:Nat} {u v t e:Int}:kpsE m i u v t e=0↔ccB m i u (i+1) v=true/\(ccC m (i+1) v (dep m (i+1))=true/\lieB m (bkR m (i+1) v (dep m (i+1)))=true)/\e+homeE m (i+1) (dep m (i+1))<=m.battery/\t+homeT m (i+1) (dep m (i+1))<=m.deadline:=by
 unfold kpsE hwE;cases ccB m i u (i+1) v <;> cases ccC m (i+1) v (dep m (i+1)) <;> cases lieB m (bkR m (i+1) v (dep m (i+1))) <;> simp;by_cases h1:m.battery<e+homeE m (i+1) (dep m (i+1))
 ·rw [if_pos h1];exact⟨fun h=>by omega,fun h=>by omega⟩
 ·rw [if_neg h1]
  by_cases h2:m.deadline<t+homeT m (i+1) (dep m (i+1))
  ·rw [if_pos h2];exact⟨fun h=>by omega,fun h=>by omega⟩
  ·rw [if_neg h2];exact⟨fun _=>by omega,fun _=>rfl⟩
section
variable (m:Msn) (R:List (List Pt)) (b d s:Int)
end
section
attribute [local irreducible] wpQuiet
open Go.RowKit
theorem bef_bd {m:Msn} (V:VMsn m) {c:Crt} (hal:∀ j,j<c.psg.length->okP c j=true) {k:Nat} (hk:k<c.psg.length) (hk1:k<m.ways.length):(0<=befT m c k/\befT m c k<=1000000000000)/\0<=befE m c k/\befE m c k<=1000000000000:=by
 unfold befT befE;by_cases h0:k=0
 ·simp [h0]
 rw [if_neg h0,if_neg h0];obtain⟨-,-,-,o,n,-⟩:=Z3z (hal (k-1) (by omega))
 obtain⟨-,-,-,-,l,g,e,f,-⟩:=ZP (Z0b V.ways (j:=k) hk1);have a:=V.idle;have d:=Int.mul_nonneg a.1 e;have b:m.idle*(wy m.ways k).wait<=1000*100000:=Int.mul_le_mul a.2 f e (by omega)
 split <;> omega
theorem ZaW (m : Msn) (vw vh vr : Value) (c : Crt) (vs vp ve : Value) (w : World) (hm : MsnAt w.heap.size w m vw vh vr) (hc : CrtAt w.heap.size w c vs vp ve) :
  Calls Tryz.prog 15 #[.agg (Zc m vw vh vr),.agg #[vs,vp,ve]] w fun e w'=>e=.returned (.tuple #[.bool (chkB m c),O qL (chkE m c)])/\Below w.heap.size w w':=by
 have ff:=fun C (B:Below w.heap.size w C)=>Z8L m vw vh vr c vs vp ve C ((hm.below B).mono B.size) ((hc.below B).mono B.size)
 have HC:chkB m c=(frmB m c && decide (∀ i,i<c.psg.length->lgB m c i=true)):=rfl;have HE:chkE m c=if frmB m c=true then 0 else 1:=rfl
 have hfs:=fun h=>Z6a (m:=m) (c:=c) h
 have fb:=fun C (B:Below w.heap.size w C) hF i hi=>Z92 m vw vh vr c vs vp ve C ((hm.below B).mono B.size) ((hc.below B).mono B.size) hF i hi
 have fl:=fun C (B:Below w.heap.size w C) (i j:Nat) hV hi hj=>Z1T (m:=m) (a:=i) (b:=j) hV hi hj ▸ Z1U m vw vh vr i j C ((hm.below B).mono B.size)
 have fc:=fun C (B:Below w.heap.size w C) (i j:Nat)=>Z9F m vw vh vr i j C ((hm.below B).mono B.size)
 have fh:=fun C (B:Below w.heap.size w C) hV k hk=>Z1p m vw vh vr k C ((hm.below B).mono B.size) hV hk
 have g3:=fun C (B:Below w.heap.size w C) bp bc bi bm u vs vp ar cr p l i hi hV hi1=>Zc7 bp bc bi bm u vs vp ar cr p l i hi m vw vh vr C ((hm.below B).mono B.size) hV hi1
 have g4:=fun C (B:Below w.heap.size w C) bm bi bp u p i hi1 n41=>Zc6 bm bi bp u p i m vw vh vr C ((hm.below B).mono B.size) hi1 n41
 generalize chkB m c=cb at *;generalize chkE m c=ce at *;have hir:=hc.2.2;obtain⟨⟨-,a1,cap1,rfl,-⟩,⟨-,a2,cap2,rfl,-⟩,⟨-,a3,cap3,rfl,-⟩⟩:=hm;obtain⟨⟨-,aS,cS,rfl,-⟩,⟨-,ap,cp,rfl,hcp⟩,⟨-,ar,cr,rfl,-⟩⟩:=hc;unfold Zc at *;have HCP:=qH hcp;have HIR:=qH hir;replace ff:=qH ff;replace fb:=qH fb;replace fl:=qH fl;replace fc:=qH fc;replace fh:=qH fh;replace g3:=qH g3;replace g4:=qH g4;replace HC:=qH HC;replace HE:=qH HE;clear hcp hir;have q:=qH (qK w.heap.size w);go_enter Tryz.func15,Tryz.ntmps15;go_wp2_with fail;generalize hXX0:qV (qV w _) _=X0;obtain⟨J,q1,v,hzX0⟩:=box2 hXX0;clear hXX0;have q:=qH v;clear v;have MB:=qH J;clear J;have CB:=qH q1;clear q1 hzX0;obtain⟨S,W,P,N,L,R,T,K,U,Q,y⟩:=Zh (m:=m) MB.out;have z:=CB.out;have e0:=cX 0 z rfl;have e1:=cX 1 z rfl;have e2:=cX 2 z rfl;refine (ff.out _ q.out).mono ?_;rintro e C ⟨rfl,b1⟩;replace q:=zAd q b1;have Z:=qH b1;clear b1 S W P N L R T K U Q y z e0 e1 e2;obtain⟨S,W,P,N,L,R,T,K,U,Q,y⟩:=Zh (m:=m) (zCj MB Z);have z:=(zCj CB Z);have e0:=cX 0 z rfl;have e1:=cX 1 z rfl;have e2:=cX 2 z rfl;cases hF:frmB m c
 ·have HV:=qH (qI (show cb=false by rw [HC.out,hF];rfl) (show ce=1 by rw [HE.out,hF];rfl))
  go_wp2;go_ret2;exact⟨by rw [HV.out.1,HV.out.2];rfl,q.out⟩
 have HCE:=qH (show ce=0 by rw [HE.out,hF];rfl)
 have HCB:=qH (show cb=decide (∀ i,i<c.psg.length->lgB m c i=true) by rw [HC.out,hF];rfl)
 obtain⟨hok,hl1,hl2,hal⟩:=hfs hF;obtain⟨hV,-⟩:=Z0a hok;have V:=(Zm m).1 hV;have n41:=V.n41;have gb:=qH (fun C B i hi=>fb.out C B hF i hi)
 have gl:=qH (fun C B i j hi hj=>fl.out C B i j hV hi hj)
 have gh:=qH (fun C B k hk=>fh.out C B hV k hk)
 have VV:=qH V;have HV0:=qH hV;have HL:=qH hl2;have HAL:=qH hal;obtain⟨n,hn⟩:∃ n,c.psg.length=n:=⟨_,rfl⟩;have hnw:n+1<=m.ways.length:=by have:=V.n2;omega
 have HN:=qH hn;clear hok hl1 hl2 hal hV V hF hfs HC HE ff fb fl fh;rw [hn] at e1;go_wp2;have hMB:=qH (zCj MB Z);have hCB:=qH (zCj CB Z);clear S W P N L R T K U Q y z e0 e1 e2 hn
 go_loopw [31] (fun i wr=>∃ k:Nat,k<=n/\i=O qL k/\(∀ j,j<k->lgB m c j=true)/\Below C.heap.size C wr) (fun i _=>n-(intOf i).toNat)
 case atStart=>exact⟨0,Nat.zero_le _,rfl,fun j h=>by omega,qK _ _⟩
 case round =>
  obtain⟨k,hk,rfl,hall,hB⟩:=hrel;obtain⟨A,hwo⟩:∃ x,x=wr:=⟨_,rfl⟩;subst hwo;have HA:=qH hall;have BB:=qH hB;replace q:=zAd q hB;clear hall hB;by_cases hlt:k<n
  ·obtain⟨b,o,rfl,hb,hc⟩:=HCP.out.resolve_left (by intro h;have:=HN.out;rw [h] at this;simp at this;omega)
   obtain⟨u,x0,hu,x1,x2,x3,x4⟩:=hc k (by rw [HN.out];exact hlt)
   replace x0:=cY q.out x0 hb;replace x1:=cY q.out x1 hb;replace x2:=cY q.out x2 hb;replace x3:=cY q.out x3 hb;replace x4:=cY q.out x4 hb;have HU:=qH ((hu.below q.out).mono q.out.size);obtain⟨au,cu,rfl⟩:=HU.out.len;obtain⟨hgv,r1,r2,r3,r4,r5⟩:=Z3z (HAL.out k (by rw [HN.out];exact hlt))
   have M:k+1<m.ways.length:=by omega
   have hno:=qH (fun h:lgB m c k=false=>show cb=false by
    rw [HCB.out,decide_eq_false_iff_not];intro h';rw [h' k (by rw [HN.out];exact hlt)] at h
    cases h)
   have hsp:Hid (lgB m c k=(lg1 m c k && (lg2 m c k && (lg3 m c k && lg4 m c k)))):=rfl;have I:=qH (zCj hMB BB);have hCO:=qH (zCj hCB BB);have gB:=qH (fun C B=>gb.out C B k (by rw [HN.out];exact hlt))
   have gL:=qH (fun C B=>gl.out C B k (k+1) (by omega) M)
   have gC:=fun C B=>fc.out C B k (k+1)
   have okl:=Zcp HV0.out (a:=k) (b:=k+1) (by omega) M
   simp only [pTV,pE,legE,okl,if_true,Int.toNat_natCast] at gC;clear okl;have gH:=qH (fun C B=>gh.out C B (k+1) M)
   have hte:=Z0H VV.out M _ (qN (dep m (k+1)));have hgb:=ZW VV.out.leg VV.out.ways (i:=k) (j:=k+1) (by omega) M
   have heb:=Z3V VV.out (i:=k) (j:=k+1) (by omega) M
   have hbf:=bef_bd VV.out HAL.out (k:=k) (by rw [HN.out];exact hlt) (by omega)
   have htb:=Z3i VV.out.leg VV.out.ways (i:=k) (j:=k+1) (by omega) M
   have L1:Hid (lg1 m c k=(decide (befR m c k<=(pgd c.psg k).fr) && decide ((pgd c.psg k).fr+gLeg m k (k+1)<=(pgd c.psg k).tw))):=rfl;have L2:Hid (lg2 m c k=(decide (befT m c k+tLeg m k (k+1)<=(pgd c.psg k).tm) && (decide (befE m c k+eLeg m k (k+1)<=(pgd c.psg k).en) && decide (homeE m (k+1) (dep m (k+1))<=c.ret.getD k 0)))):=rfl;have L3:Hid (lg3 m c k=(decide ((pgd c.psg k).en+c.ret.getD k 0<=m.battery) && decide (kpsE m k (pgd c.psg k).fr (pgd c.psg k).tw (pgd c.psg k).tm (pgd c.psg k).en=0))):=rfl;have L4:Hid (lg4 m c k=(decide (corE (atW m k) (pgd c.psg k).fr (atW m (k+1)) (pgd c.psg k).tw=0) && (withinB (corL (atW m k) (pgd c.psg k).fr (atW m (k+1)) (pgd c.psg k).tw) (pgd c.psg k).cor && !firB (pgd c.psg k).cor m.rocks))):=rfl;generalize lg1 m c k=l1 at *;generalize lg2 m c k=l2 at *;generalize lg3 m c k=l3 at *;generalize lg4 m c k=l4 at *;generalize befR m c k=bR at *;generalize befT m c k=bT at *;generalize befE m c k=bE at *;generalize gLeg m k (k+1)=lg at *;generalize tLeg m k (k+1)=lt at *;generalize dLeg m k (k+1)=ld at *;generalize eLeg m k (k+1)=le at *;generalize homeT m (k+1) (dep m (k+1))=hT at *;generalize homeE m (k+1) (dep m (k+1))=hE at *;have hir:Hid (k<c.ret.length):=by show k<c.ret.length;have:=HL.out;omega
   have R5:=qH r5;have HP:=qH hte;generalize pgd c.psg k=p at *;clear hgv r5 hte hc hu;replace gC:=qH gC;have dk:decide ((k:Int)<(n:Int))=true:=by rw [decide_eq_true_eq];omega
   have kl:(k:Int)<(n:Int):=by omega
   have k0:(0:Int)<=(k:Int):=by omega
   have jw:qW qL ((k:Int)+1)=((k+1:Nat):Int):=by rw [show (k:Int)+1=((k+1:Nat):Int) by omega];exact zW2
   have t:=qH (qK A.heap.size A);go_upto_region 6 with fail
   clear x0 x1 x2 x3 x4;generalize hXY0:qV (qV A _) _=Y0;obtain⟨J,q1,v,hzY0⟩:=box2 hXY0;clear hXY0;replace q:=zAd q v;have t:=qH v;clear v;have IB:=qH J;clear J;have PB:=qH q1;clear q1;obtain⟨S,W,P,N,L,R,T,K,U,Q,y⟩:=Zh (m:=m) (zCj I t);have z:=(zCj hCO t);have e0:=cX 0 z rfl;have e1:=cX 1 z rfl;have e2:=cX 2 z rfl;have Y:=cX 0 IB.out rfl;go_wp2_with fail;refine (gB.out _ q.out).mono ?_;rintro e X ⟨rfl,b2⟩;replace q:=zAd q b2;replace t:=zAd t b2;have d:=qH b2;clear b2 S W P N L R T K U Q y z e0 e1 e2 Y;obtain⟨S,W,P,N,L,R,T,K,U,Q,y⟩:=Zh (m:=m) (zCj I t);have z:=(zCj hCO t);have e0:=cX 0 z rfl;have e1:=cX 1 z rfl;have e2:=cX 2 z rfl;have Y:=(zCj IB d).cell (i:=0) rfl;clear S W P N L R T K U Q y z e0 e1 e2 Y;go_upto_region 7 with fail
   generalize hXY1:qV (qV (qV X _) _) _=Y1;obtain⟨J,q1,q2,v,hzY1⟩:=box3 hXY1;clear hXY1;replace q:=zAd q v;replace t:=zAd t v;replace d:=zAd d v;clear v;have FB:=qH J;clear J;have TB:=qH q1;clear q1;have EB:=qH q2;clear q2;obtain⟨S,W,P,N,L,R,T,K,U,Q,y⟩:=Zh (m:=m) (zCj I t);have Y:=(zCj IB d).cell (i:=0) rfl;go_wp2_with fail;refine (gL.out _ q.out).mono ?_;rintro e w3 ⟨rfl,b3⟩;replace q:=zAd q b3;replace t:=zAd t b3;replace d:=zAd d b3;have g:=qH b3;clear b3 S W P N L R T K U Q y Y;obtain⟨S,W,P,N,L,R,T,K,U,Q,y⟩:=Zh (m:=m) (zCj I t);have Y:=(zCj IB d).cell (i:=0) rfl;clear S W P N L R T K U Q y Y;go_upto_region 8 with fail
   generalize hXY2:qV w3 _=Y2;obtain⟨J,v,hzY2⟩:=box1 hXY2;clear hXY2;replace q:=zAd q v;replace t:=zAd t v;replace d:=zAd d v;replace g:=zAd g v;clear v;have GB:=qH J;clear J;obtain⟨S,W,P,N,L,R,T,K,U,Q,y⟩:=Zh (m:=m) (zCj I t);have Y:=(zCj IB d).cell (i:=0) rfl;go_wp2_with fail;refine (gC.out _ q.out).mono ?_;rintro e w4 ⟨rfl,b4⟩;replace q:=zAd q b4;replace t:=zAd t b4;replace d:=zAd d b4;replace g:=zAd g b4;have r:=qH b4;clear b4 S W P N L R T K U Q y Y;obtain⟨S,W,P,N,L,R,T,K,U,Q,y⟩:=Zh (m:=m) (zCj I t);have Y:=(zCj IB d).cell (i:=0) rfl;clear S W P N L R T K U Q y Y;go_upto_region 9 with fail
   generalize hXY3:qV (qV w4 _) _=Y3;obtain⟨J,q1,v,hzY3⟩:=box2 hXY3;clear hXY3;replace q:=zAd q v;replace t:=zAd t v;replace d:=zAd d v;replace g:=zAd g v;replace r:=zAd r v;clear v;have AB:=qH J;clear J;have KB:=qH q1;clear q1;obtain⟨S,W,P,N,L,R,T,K,U,Q,y⟩:=Zh (m:=m) (zCj I t);have Y:=(zCj IB d).cell (i:=0) rfl;go_wp2_with fail;refine (gH.out _ q.out).mono ?_;rintro e G ⟨rfl,b5⟩;replace q:=zAd q b5;replace t:=zAd t b5;replace d:=zAd d b5;replace g:=zAd g b5;replace r:=zAd r b5;have s:=qH b5;clear b5 S W P N L R T K U Q y Y;obtain⟨S,W,P,N,L,R,T,K,U,Q,y⟩:=Zh (m:=m) (zCj I t);have Y:=(zCj IB d).cell (i:=0) rfl;clear S W P N L R T K U Q y Y;go_upto_region 10 with fail
   generalize hXY4:qV G _=Y4;obtain⟨J,v,hzY4⟩:=box1 hXY4;clear hXY4;replace q:=zAd q v;replace t:=zAd t v;replace d:=zAd d v;replace g:=zAd g v;replace r:=zAd r v;replace s:=zAd s v;clear v;have HB:=qH J;clear J;go_wp2;generalize hXY5:qV Y4 _=Y5;obtain⟨J,v,hzY5⟩:=box1 hXY5;clear hXY5;replace q:=zAd q v;replace t:=zAd t v;replace d:=zAd d v;replace g:=zAd g v;replace r:=zAd r v;replace s:=zAd s v;have F:=qH v;clear v;have D:=qH J;clear J;refine wp_loop_rounds 5 ?_;replace D:=D.out;rw [hzY4] at D;replace D:=qH D;have s0:Y5.cell? ⟨G.heap.size+1,0,none⟩=some (.func (.func 48) #[] #[qP (some ⟨A.heap.size+1,0,none⟩),qP (some ⟨X.heap.size,0,none⟩),qP (some ⟨w3.heap.size,0,none⟩)]):=cX 0 D.out rfl;have s1:Y5.cell? ⟨G.heap.size+1,1,none⟩=some (.func (.func 49) #[] #[qP (some ⟨A.heap.size+1,0,none⟩),qP (some ⟨X.heap.size+1,0,none⟩),qP (some ⟨w4.heap.size,0,none⟩),qP (some ⟨X.heap.size+1+1,0,none⟩),qP (some ⟨w4.heap.size+1,0,none⟩),qP (some ⟨w.heap.size+1,0,none⟩),qP (some ⟨A.heap.size,0,none⟩),qP (some ⟨G.heap.size,0,none⟩)]):=cX 1 D.out rfl;have s2:Y5.cell? ⟨G.heap.size+1,2,none⟩=some (.func (.func 50) #[] #[qP (some ⟨A.heap.size+1,0,none⟩),qP (some ⟨w.heap.size+1,0,none⟩),qP (some ⟨A.heap.size,0,none⟩),qP (some ⟨w.heap.size,0,none⟩)]):=cX 2 D.out rfl;have s3:Y5.cell? ⟨G.heap.size+1,3,none⟩=some (.func (.func 51) #[] #[qP (some ⟨w.heap.size,0,none⟩),qP (some ⟨A.heap.size,0,none⟩),qP (some ⟨A.heap.size+1,0,none⟩)]):=cX 3 D.out rfl;have E:=D.out.lt;rw [rounds_succ];go_wp2_with fail;have H:=Zc9 _ _ _ _ p bR lg Y5 (zCj PB d) (zCj FB g) (zCj GB r) r1 hgb;rw [<- L1.out] at H;replace H:=qH H;refine (H.out).mono ?_;rintro e w6 ⟨rfl,b6⟩;replace q:=zAd q b6;replace t:=zAd t b6;replace d:=zAd d b6;replace g:=zAd g b6;replace r:=zAd r b6;replace s:=zAd s b6;replace F:=zAd F b6;have f:=qH b6;clear b6 H s0 s1 s2 s3 E;have s0:w6.cell? ⟨G.heap.size+1,0,none⟩=some (.func (.func 48) #[] #[qP (some ⟨A.heap.size+1,0,none⟩),qP (some ⟨X.heap.size,0,none⟩),qP (some ⟨w3.heap.size,0,none⟩)]):=(zCj D f).cell (i:=0) rfl;have s1:w6.cell? ⟨G.heap.size+1,1,none⟩=some (.func (.func 49) #[] #[qP (some ⟨A.heap.size+1,0,none⟩),qP (some ⟨X.heap.size+1,0,none⟩),qP (some ⟨w4.heap.size,0,none⟩),qP (some ⟨X.heap.size+1+1,0,none⟩),qP (some ⟨w4.heap.size+1,0,none⟩),qP (some ⟨w.heap.size+1,0,none⟩),qP (some ⟨A.heap.size,0,none⟩),qP (some ⟨G.heap.size,0,none⟩)]):=(zCj D f).cell (i:=1) rfl;have s2:w6.cell? ⟨G.heap.size+1,2,none⟩=some (.func (.func 50) #[] #[qP (some ⟨A.heap.size+1,0,none⟩),qP (some ⟨w.heap.size+1,0,none⟩),qP (some ⟨A.heap.size,0,none⟩),qP (some ⟨w.heap.size,0,none⟩)]):=(zCj D f).cell (i:=2) rfl;have s3:w6.cell? ⟨G.heap.size+1,3,none⟩=some (.func (.func 51) #[] #[qP (some ⟨w.heap.size,0,none⟩),qP (some ⟨A.heap.size,0,none⟩),qP (some ⟨A.heap.size+1,0,none⟩)]):=(zCj D f).cell (i:=3) rfl;have E:=(zCj D f).lt;cases l1
   ·have HV:=qH (hno.out (by rw [hsp.out];rfl))
    go_wp2;go_ret2;exact⟨by rw [HV.out,HCE.out];rfl,q.out⟩
   go_wp2;rw [rounds_succ];go_wp2_with fail;have H:=Zc8 _ _ _ _ _ _ _ _ _ _ _ _ _ p c.ret k hir.out bT lt bE le hE w6 (zCj PB d) (zCj TB g) (zCj AB s) (zCj EB g) (zCj KB s) (zCj hCO t) (zCj IB d) (zCj HB F) ((HIR.out.below q.out).mono q.out.size) hbf.1 ⟨htb.1,by omega⟩ hbf.2 ⟨heb.2.2.2.2.1,by omega⟩
   rw [<- L2.out] at H;replace H:=qH H;refine (H.out).mono ?_;rintro e w7 ⟨rfl,b7⟩;replace q:=zAd q b7;replace t:=zAd t b7;replace d:=zAd d b7;replace g:=zAd g b7;replace r:=zAd r b7;replace s:=zAd s b7;replace F:=zAd F b7;replace f:=zAd f b7;clear b7 H s0 s1 s2 s3 E;have s0:w7.cell? ⟨G.heap.size+1,0,none⟩=some (.func (.func 48) #[] #[qP (some ⟨A.heap.size+1,0,none⟩),qP (some ⟨X.heap.size,0,none⟩),qP (some ⟨w3.heap.size,0,none⟩)]):=(zCj D f).cell (i:=0) rfl;have s1:w7.cell? ⟨G.heap.size+1,1,none⟩=some (.func (.func 49) #[] #[qP (some ⟨A.heap.size+1,0,none⟩),qP (some ⟨X.heap.size+1,0,none⟩),qP (some ⟨w4.heap.size,0,none⟩),qP (some ⟨X.heap.size+1+1,0,none⟩),qP (some ⟨w4.heap.size+1,0,none⟩),qP (some ⟨w.heap.size+1,0,none⟩),qP (some ⟨A.heap.size,0,none⟩),qP (some ⟨G.heap.size,0,none⟩)]):=(zCj D f).cell (i:=1) rfl;have s2:w7.cell? ⟨G.heap.size+1,2,none⟩=some (.func (.func 50) #[] #[qP (some ⟨A.heap.size+1,0,none⟩),qP (some ⟨w.heap.size+1,0,none⟩),qP (some ⟨A.heap.size,0,none⟩),qP (some ⟨w.heap.size,0,none⟩)]):=(zCj D f).cell (i:=2) rfl;have s3:w7.cell? ⟨G.heap.size+1,3,none⟩=some (.func (.func 51) #[] #[qP (some ⟨w.heap.size,0,none⟩),qP (some ⟨A.heap.size,0,none⟩),qP (some ⟨A.heap.size+1,0,none⟩)]):=(zCj D f).cell (i:=3) rfl;have E:=(zCj D f).lt;cases l2
   ·have HV:=qH (hno.out (by rw [hsp.out];rfl))
    go_wp2;go_ret2;exact⟨by rw [HV.out,HCE.out];rfl,q.out⟩
   go_wp2;rw [rounds_succ];go_wp2_with fail;have H:=g3.out w7 q.out _ _ _ _ _ _ _ _ _ p c.ret k hir.out HV0.out M (zCj PB d) (zCj hCO t) (zCj IB d) (zCj I t) ((HIR.out.below q.out).mono q.out.size) r3 r4 R5.out;rw [<- L3.out] at H;replace H:=qH H;refine (H.out).mono ?_;rintro e w8 ⟨rfl,b8⟩;replace q:=zAd q b8;replace t:=zAd t b8;replace d:=zAd d b8;replace g:=zAd g b8;replace r:=zAd r b8;replace s:=zAd s b8;replace F:=zAd F b8;replace f:=zAd f b8;clear b8 H s0 s1 s2 s3 E;have s0:w8.cell? ⟨G.heap.size+1,0,none⟩=some (.func (.func 48) #[] #[qP (some ⟨A.heap.size+1,0,none⟩),qP (some ⟨X.heap.size,0,none⟩),qP (some ⟨w3.heap.size,0,none⟩)]):=(zCj D f).cell (i:=0) rfl;have s1:w8.cell? ⟨G.heap.size+1,1,none⟩=some (.func (.func 49) #[] #[qP (some ⟨A.heap.size+1,0,none⟩),qP (some ⟨X.heap.size+1,0,none⟩),qP (some ⟨w4.heap.size,0,none⟩),qP (some ⟨X.heap.size+1+1,0,none⟩),qP (some ⟨w4.heap.size+1,0,none⟩),qP (some ⟨w.heap.size+1,0,none⟩),qP (some ⟨A.heap.size,0,none⟩),qP (some ⟨G.heap.size,0,none⟩)]):=(zCj D f).cell (i:=1) rfl;have s2:w8.cell? ⟨G.heap.size+1,2,none⟩=some (.func (.func 50) #[] #[qP (some ⟨A.heap.size+1,0,none⟩),qP (some ⟨w.heap.size+1,0,none⟩),qP (some ⟨A.heap.size,0,none⟩),qP (some ⟨w.heap.size,0,none⟩)]):=(zCj D f).cell (i:=2) rfl;have s3:w8.cell? ⟨G.heap.size+1,3,none⟩=some (.func (.func 51) #[] #[qP (some ⟨w.heap.size,0,none⟩),qP (some ⟨A.heap.size,0,none⟩),qP (some ⟨A.heap.size+1,0,none⟩)]):=(zCj D f).cell (i:=3) rfl;have E:=(zCj D f).lt;cases l3
   ·have HV:=qH (hno.out (by rw [hsp.out];rfl))
    go_wp2;go_ret2;exact⟨by rw [HV.out,HCE.out];rfl,q.out⟩
   go_wp2;rw [rounds_succ];go_wp2_with fail;have H:=g4.out w8 q.out _ _ _ _ p k M n41 (zCj PB d) (zCj IB d) (zCj I t) ((HU.out.below t.out).mono t.out.size);rw [<- L4.out] at H;replace H:=qH H;refine (H.out).mono ?_;rintro e w9 ⟨rfl,b9⟩;replace q:=zAd q b9;replace t:=zAd t b9;replace d:=zAd d b9;replace g:=zAd g b9;replace r:=zAd r b9;replace s:=zAd s b9;replace F:=zAd F b9;replace f:=zAd f b9;clear b9 H s0 s1 s2 s3 E;have s0:w9.cell? ⟨G.heap.size+1,0,none⟩=some (.func (.func 48) #[] #[qP (some ⟨A.heap.size+1,0,none⟩),qP (some ⟨X.heap.size,0,none⟩),qP (some ⟨w3.heap.size,0,none⟩)]):=(zCj D f).cell (i:=0) rfl;have s1:w9.cell? ⟨G.heap.size+1,1,none⟩=some (.func (.func 49) #[] #[qP (some ⟨A.heap.size+1,0,none⟩),qP (some ⟨X.heap.size+1,0,none⟩),qP (some ⟨w4.heap.size,0,none⟩),qP (some ⟨X.heap.size+1+1,0,none⟩),qP (some ⟨w4.heap.size+1,0,none⟩),qP (some ⟨w.heap.size+1,0,none⟩),qP (some ⟨A.heap.size,0,none⟩),qP (some ⟨G.heap.size,0,none⟩)]):=(zCj D f).cell (i:=1) rfl;have s2:w9.cell? ⟨G.heap.size+1,2,none⟩=some (.func (.func 50) #[] #[qP (some ⟨A.heap.size+1,0,none⟩),qP (some ⟨w.heap.size+1,0,none⟩),qP (some ⟨A.heap.size,0,none⟩),qP (some ⟨w.heap.size,0,none⟩)]):=(zCj D f).cell (i:=2) rfl;have s3:w9.cell? ⟨G.heap.size+1,3,none⟩=some (.func (.func 51) #[] #[qP (some ⟨w.heap.size,0,none⟩),qP (some ⟨A.heap.size,0,none⟩),qP (some ⟨A.heap.size+1,0,none⟩)]):=(zCj D f).cell (i:=3) rfl;have E:=(zCj D f).lt;cases l4
   ·have HV:=qH (hno.out (by rw [hsp.out];rfl))
    go_wp2;go_ret2;exact⟨by rw [HV.out,HCE.out];rfl,q.out⟩
   go_wp2;clear s0 s1 s2 s3 E;rw [rounds_succ];go_wp2;have HV:=qH (show lgB m c k=true by rw [hsp.out];rfl)
   go_roundw
   case rel =>
    refine⟨k+1,by omega,by go_num,fun j hj=>?_,BB.out.trans (t.out.mono BB.out.size)⟩
    by_cases e:j=k
    ·rw [e];exact HV.out
    ·exact HA.out j (by omega)
   case measure=>simp [intOf];omega
  obtain rfl:k=n:=by omega
  have jj:decide ((k:Int)<(k:Int))=false:=by simp
  have HV:=qH (show cb=true by rw [HCB.out,decide_eq_true_eq,HN.out];exact HA.out)
  go_wp2;go_ret2;exact⟨by rw [HV.out,HCE.out];rfl,q.out⟩
end
end Go.Proofs.YthipcinibldgnaaGreat
