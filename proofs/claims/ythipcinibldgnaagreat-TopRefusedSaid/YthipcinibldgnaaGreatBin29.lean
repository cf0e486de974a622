/- package cert: isClear. | package cert: home. | package cert: keeps. | package cert: the closures of Check. | Certificates: what stays right with fe .. -/
import Derived.Test.YthipcinibldgnaaGreatBin28
import Derived.Test.YthipcinibldgnaaGreatBin27
open Go.Value renaming int->O,pointer->qP,slice->qS
open Go.IntKind renaming wrap->qW,i64->qL
open Go.Lib renaming hid->qH
open Go.RowKit.Below renaming refl->qK
open Go.World renaming alloc->qV,block_lt_of_cell?->qO
open Nat renaming le_refl->qN
open And renaming intro->qI
open Go.Act renaming put->qJ
set_option linter.unusedSimpArgs false
set_option linter.unusedVariables false
set_option maxRecDepth 8000
set_option maxHeartbeats 6400000
namespace Go.Proofs.YthipcinibldgnaaGreat
section
attribute [local irreducible] wpQuiet
open Go.RowKit
theorem Z3w (m:Msn) (vw vh vr:Value) (w:World) (hm:MsnAt w.heap.size w m vw vh vr) (V:VMsn m) (a b:Nat) (u v:Int) (ha:a<m.ways.length) (hb:b<m.ways.length) :
  Calls Tryz.prog 97 #[.agg (Zc m vw vh vr),O qL a,O qL u,O qL b,O qL v] w fun e w'=>e=.returned (.bool (ccB m a u b v))/\Below w.heap.size w w':=by
 have n41:=V.n41;have hfe:=fun h=>Zbi V (a:=a) (b:=b) (u:=u) (v:=v) h
 unfold atW at hfe;have f1:=fun w1=>Z0s ⟨(wy m.ways a).x,(wy m.ways a).y⟩ ⟨(wy m.ways b).x,(wy m.ways b).y⟩ u v w1
 have f2:=fun vc w1 (B:Below w.heap.size w w1) h=>Z1i vc vr (corL ⟨(wy m.ways a).x,(wy m.ways a).y⟩ u ⟨(wy m.ways b).x,(wy m.ways b).y⟩ v) m.rocks w1 h (((hm.2.2).below B).mono B.size)
 unfold ccB clrB atW;obtain⟨⟨-,a1,c1,rfl,hcw⟩,⟨-,a2,c2,rfl,-⟩,⟨-,a3,c3,rfl,-⟩⟩:=hm;obtain⟨bw,ow,rfl,hbw,hcw⟩:=hcw.resolve_left (by intro h;rw [h] at ha;simp at ha)
 obtain⟨x1,x2,-⟩:=hcw a ha;obtain⟨x3,x4,-⟩:=hcw b hb;clear hcw V;unfold Zc at *;generalize corL ⟨(wy m.ways a).x,(wy m.ways a).y⟩ u ⟨(wy m.ways b).x,(wy m.ways b).y⟩ v=cl at *;obtain⟨ce,hce⟩:∃ x,corE ⟨(wy m.ways a).x,(wy m.ways a).y⟩ u ⟨(wy m.ways b).x,(wy m.ways b).y⟩ v=x:=⟨_,rfl⟩;simp only [hce] at f1 hfe ⊢;clear hce;obtain⟨px,h1⟩:∃ x,(wy m.ways a).x=x:=⟨_,rfl⟩;obtain⟨py,h2⟩:∃ x,(wy m.ways a).y=x:=⟨_,rfl⟩;obtain⟨qx,h3⟩:∃ x,(wy m.ways b).x=x:=⟨_,rfl⟩;obtain⟨qy,h4⟩:∃ x,(wy m.ways b).y=x:=⟨_,rfl⟩;rw [h1,h2,h3,h4] at f1;rw [h1] at x1;rw [h2] at x2;rw [h3] at x3;rw [h4] at x4;clear h1 h2 h3 h4;generalize firB cl m.rocks=fb at *;generalize firI cl m.rocks=fi at *;generalize firE cl m.rocks=fe at *;replace f1:=qH f1;replace f2:=qH f2;replace hfe:=qH hfe;have ha':(a:Int)<m.ways.length:=by omega
 have hb':(b:Int)<m.ways.length:=by omega
 have ha0:(0:Int)<=a:=by omega
 have hb0:(0:Int)<=b:=by omega
 have BW:=qH (qK w.heap.size w);go_enter Tryz.func97,Tryz.ntmps97;go_upto_region 1 with fail
 generalize hXX0:qV w _=X0;obtain⟨q0,hA,hzX0⟩:=box1 hXX0;clear hXX0;have BW:=qH hA;clear hA;have RB:=qH q0;clear q0;replace x1:=(BW.out.cell (p:=⟨bw,ow+a*5,none⟩) hbw).trans x1;replace x2:=(BW.out.cell (p:=⟨bw,ow+a*5+1,none⟩) hbw).trans x2;replace x3:=(BW.out.cell (p:=⟨bw,ow+b*5,none⟩) hbw).trans x3;replace x4:=(BW.out.cell (p:=⟨bw,ow+b*5+1,none⟩) hbw).trans x4;have x0:X0.cell? ⟨w.heap.size,0,none⟩=some (qS (some ⟨bw,ow,none⟩) m.ways.length (m.ways.length+c1)):=RB.out.cell (i:=0) rfl;refine (wpIn_wide (n:=9)).1 ?_;refine Zi (Zk _) 19 (fun X=>Below X0.heap.size X0 X) (by kernel_rfl) (by kernel_rfl) (by kernel_rfl) fun hH inv0=>?_
 have hD:=Below.drew (qK X0.heap.size X0);generalize hXX1:X0.drew=X1 at *;clear hXX1;replace BW:=zAf BW hD;have B_X0:=qH hD;clear hD;refine sk hH (i:=0) (v:=qP (some ⟨w.heap.size,0,none⟩)) (Zd rfl) inv0 (fun X hX=>?_) fun inv1=>?_
 ·go_simp
 simp only [qJ,zq4,zr4,zs4];clear inv0;refine sk hH (i:=1) (v:=qS (some ⟨bw,ow,none⟩) m.ways.length (m.ways.length+c1)) (Zd rfl) inv1 (fun X hX=>?_) fun inv2=>?_
 ·have r0:=(hX.cell (p:=⟨w.heap.size,0,none⟩) (qO _ _ x0)).trans x0;go_simp
 simp only [qJ,zq4,zr4,zs4];clear inv1;refine sk hH (i:=2) (v:=O qL (a:Int)) (Zd rfl) inv2 (fun X hX=>?_) fun inv3=>?_
 ·go_simp
 simp only [qJ,zq4,zr4,zs4];clear inv2;refine sk hH (i:=3) (v:=qP (some ⟨bw,ow+a*5,none⟩)) (Zd rfl) inv3 (fun X hX=>?_) fun inv4=>?_
 ·go_simp
 simp only [qJ,zq4,zr4,zs4];clear inv3;refine sk hH (i:=4) (v:=qP (some ⟨bw,ow+a*5,none⟩)) (Zd rfl) inv4 (fun X hX=>?_) fun inv5=>?_
 ·go_simp
 simp only [qJ,zq4,zr4,zs4];clear inv4;refine sk hH (i:=5) (v:=.agg #[O qL px,O qL py]) (Zd rfl) inv5 (fun X hX=>?_) fun inv6=>?_
 ·have r0:=(hX.cell (p:=⟨bw,ow+a*5,none⟩) (qO _ _ x1)).trans x1;have r1:=(hX.cell (p:=⟨bw,ow+a*5+1,none⟩) (qO _ _ x2)).trans x2;go_simp
 simp only [qJ,zq4,zr4,zs4];clear inv5;refine sk hH (i:=6) (v:=O qL u) (Zd rfl) inv6 (fun X hX=>?_) fun inv7=>?_
 ·go_simp
 simp only [qJ,zq4,zr4,zs4];clear inv6;refine sk hH (i:=7) (v:=qP (some ⟨w.heap.size,0,none⟩)) (Zd rfl) inv7 (fun X hX=>?_) fun inv8=>?_
 ·go_simp
 simp only [qJ,zq4,zr4,zs4];clear inv7;refine sk hH (i:=8) (v:=qS (some ⟨bw,ow,none⟩) m.ways.length (m.ways.length+c1)) (Zd rfl) inv8 (fun X hX=>?_) fun inv9=>?_
 ·have r0:=(hX.cell (p:=⟨w.heap.size,0,none⟩) (qO _ _ x0)).trans x0;go_simp
 simp only [qJ,zq4,zr4,zs4];clear inv8;refine sk hH (i:=9) (v:=O qL (b:Int)) (Zd rfl) inv9 (fun X hX=>?_) fun inv10=>?_
 ·go_simp
 simp only [qJ,zq4,zr4,zs4];clear inv9;refine sk hH (i:=10) (v:=qP (some ⟨bw,ow+b*5,none⟩)) (Zd rfl) inv10 (fun X hX=>?_) fun inv11=>?_
 ·go_simp
 simp only [qJ,zq4,zr4,zs4];clear inv10;refine sk hH (i:=11) (v:=qP (some ⟨bw,ow+b*5,none⟩)) (Zd rfl) inv11 (fun X hX=>?_) fun inv12=>?_
 ·go_simp
 simp only [qJ,zq4,zr4,zs4];clear inv11;refine sk hH (i:=12) (v:=.agg #[O qL qx,O qL qy]) (Zd rfl) inv12 (fun X hX=>?_) fun inv13=>?_
 ·have r0:=(hX.cell (p:=⟨bw,ow+b*5,none⟩) (qO _ _ x3)).trans x3;have r1:=(hX.cell (p:=⟨bw,ow+b*5+1,none⟩) (qO _ _ x4)).trans x4;go_simp
 simp only [qJ,zq4,zr4,zs4];clear inv12;refine sk hH (i:=13) (v:=O qL v) (Zd rfl) inv13 (fun X hX=>?_) fun inv14=>?_
 ·go_simp
 simp only [qJ,zq4,zr4,zs4];clear inv13;have inv15:=HeadInv.put2 inv14 (j:=14) (by kernel_rfl) (by omega)
 clear inv14;refine sa1 (r:=14) B_X0.out ?_;refine Zr (Zd rfl) rfl (f:=44) (args:=#[.agg #[O qL px,O qL py],O qL u,.agg #[O qL qx,O qL qy],O qL v]) (by go_simp) (f1.out X1) ?_
 rintro e w1 ⟨v1,rfl,p1,b1⟩;refine⟨_,rfl,?_⟩;simp only [qJ,zq4,zr4,zs4];replace BW:=zAf BW b1;replace B_X0:=zAf B_X0 b1;clear b1;have P1:=qH p1;clear p1;refine sk hH (i:=15) (v:=.tuple #[v1,O qL ce]) (Zd rfl) inv15 (fun X hX=>?_) fun inv16=>?_
 ·go_simp
 simp only [qJ,zq4,zr4,zs4];clear inv15;refine sk hH (i:=16) (v:=v1) (Zd rfl) inv16 (fun X hX=>?_) fun inv17=>?_
 ·go_simp
 simp only [qJ,zq4,zr4,zs4];clear inv16;refine sk hH (i:=17) (v:=O qL ce) (Zd rfl) inv17 (fun X hX=>?_) fun inv18=>?_
 ·go_simp
 simp only [qJ,zq4,zr4,zs4];clear inv17;refine sk hH (i:=18) (v:=v1) (Zd rfl) inv18 (fun X hX=>?_) fun inv19=>?_
 ·go_simp
 simp only [qJ,zq4,zr4,zs4];clear inv18 inv19 hH;refine Zm (by kernel_rfl) B_X0.out ?_
 simp only [List.drop_succ_cons,List.drop_zero];obtain⟨g1,d1,hv1⟩:=P1.out.len;subst hv1;clear x0 x1 x2 x3 x4;have x3:w1.cell? ⟨w.heap.size,3,none⟩=some (qS a3 m.rocks.length (m.rocks.length+c3)):=(zCl RB B_X0).cell (i:=3) rfl;gi_wp2;by_cases hc:ce=0
 ·have dc:(ce == 0)=true:=by rw [beq_iff_eq];exact hc
  obtain rfl:fe=0:=hfe.out hc;subst hc;go_wp2_with fail;refine (f2.out _ _ BW.out P1.out).mono ?_;rintro e w2 ⟨rfl,b2⟩;replace BW:=zAf BW b2;replace B_X0:=zAf B_X0 b2;have B_w1:=qH b2;clear b2;cases fb
  all_goals
   go_wp2;go_ret;exact⟨by simp,BW.out⟩
 ·have dc:(ce == 0)=false:=by rw [beq_eq_false_iff_ne];exact hc
  have db:decide (ce=0)=false:=by rw [decide_eq_false_iff_not];exact hc
  clear hfe;go_wp2;go_ret;exact⟨by rw [db];rfl,BW.out⟩
theorem Zaq (m : Msn) (vw vh vr : Value) (w : World) (hm : MsnAt w.heap.size w m vw vh vr) (hV : validB m = true) (a : Nat) (ha : a < m.ways.length) (ha0 : 0 < a) (r0 : Int) (hr0 : 0 <= r0 /\ r0 <= 100000) :
  Calls Tryz.prog 98 #[.agg (Zc m vw vh vr),O qL a,O qL r0] w fun e w'=>e=endX (hwE m a r0)/\Below w.heap.size w w':=by
 have V:=(Zj m).1 hV;have n41:=V.n41;have fr:=fun w1 (B:Below w.heap.size w w1)=>Z3c m vw vh vr ((a:Nat):Int) w1 ((hm.below B).mono B.size)
 rw [(Z0P hV ha).1,(Z0P hV ha).2] at fr;have fl:=fun w1 (B:Below w.heap.size w w1) (i j:Nat) hi hj=>Z3s (m:=m) (a:=i) (b:=j) hV hi hj ▸ Z2o m vw vh vr i j w1 ((hm.below B).mono B.size)
 have fc:=fun w1 (B:Below w.heap.size w w1) (i j:Nat) u v hi hj=>Z3w m vw vh vr w1 ((hm.below B).mono B.size) V i j u v hi hj
 have fw:=fun vp p w1 (B:Below w.heap.size w w1) hp=>Z2i vp vh p m.home w1 hp ((hm.2.1.below B).mono B.size)
 have hlt:=fun j (hj:j<=dep m a)=>Z0S V.ways ha hj
 have hgb:=fun i j hi hj=>Z00 V.leg V.ways (i:=i) (j:=j) hi hj
 have hd:=Z3F V.ways ha;have hn1:1<=dep m a:=by
  have:=Z6S V.ways ha;rcases Nat.eq_zero_or_pos (dep m a) with e | e
  ·rw [e] at this;simp only [itB] at this;omega
  ·exact e
 have hle:=fun r h=>qI (Z9o V (r:=r) h) (Z9n V (r:=r) h)
 have rb:=fun j h=>ccC_bd (m:=m) (a:=a) hr0 j h
 have HH:hwE m a r0=if ccC m a r0 (dep m a)=false then 50 else if lieB m (bkR m a r0 (dep m a))=false then 52 else 0:=rfl
 have hlen:(intL (upto (itB m a) (dep m a+1))).length=dep m a+1:=by simp [intL,upto]
 have hdown:=fun j (hj:j<=dep m a) (h:ccC m a r0 j=false)=>show ccC m a r0 (dep m a)=false by
  cases h2:ccC m a r0 (dep m a)
  ·rfl
  ·rw [Z7J _ j hj h2] at h;cases h
 have h0:0<m.ways.length:=by omega
 obtain⟨⟨-,a1,cap1,rfl,hcw⟩,⟨-,a2,cap2,rfl,-⟩,⟨-,a3,cap3,rfl,-⟩⟩:=hm;obtain⟨bw,ow,rfl,hbw,hcw⟩:=hcw.resolve_left (by intro h;rw [h] at ha;simp at ha)
 have HCW:=qH (hcw 0 h0);clear hcw;obtain⟨n,hn⟩:∃ n,dep m a=n:=⟨_,rfl⟩;simp only [hn] at hlt hd HH hlen hdown fr hn1;unfold Zc at *;replace fr:=qH fr;replace fl:=qH fl;replace fc:=qH fc;replace fw:=qH fw;replace hlt:=qH hlt;replace hgb:=qH hgb;replace hle:=qH hle;replace rb:=qH rb;replace HH:=qH HH;replace hlen:=qH hlen;replace hdown:=qH hdown;clear V hV hn;have BW:=qH (qK w.heap.size w);go_enter Tryz.func98,Tryz.ntmps98;go_wp2_with fail;generalize hXX0:qV w _=X0;obtain⟨q0,hA,hzX0⟩:=box1 hXX0;clear hXX0;have BW:=qH hA;clear hA;have MB:=qH q0;clear q0 hzX0;obtain⟨c0,c1,c2,c3,c4,c5,c6,c7,c8,c9,c10⟩:=Zg (m:=m) MB.out;refine (fr.out _ BW.out).mono ?_;rintro e w1 ⟨v1,rfl,p1,b1⟩;replace BW:=zAf BW b1;have B_X0:=qH b1;clear b1;obtain⟨b3,o3,e3,hv1,hb3,hc3⟩:=Z1y p1 hlen.out;subst hv1;have RO:=qH hc3;have LRO:=qH hb3;clear hc3 hb3 p1 c0 c1 c2 c3 c4 c5 c6 c7 c8 c9 c10;obtain⟨c0,c1,c2,c3,c4,c5,c6,c7,c8,c9,c10⟩:=Zg (m:=m) (zCl MB B_X0);have hRX:=qH (qK w1.heap.size w1);clear c0 c1 c2 c3 c4 c5 c6 c7 c8 c9 c10;have HMB:=qH (zCl MB B_X0);have ltM:=HMB.out.lt;obtain⟨hL1,hL2⟩:(1:Int)<=((n+1:Nat):Int)/\((n+1:Nat):Int)-1=(n:Int):=by omega
 have hL3:n+1-1=n:=by omega
 have hL5:¬ (1=n+1+e3):=by omega
 go_wp2
 go_loopw [2,27] (fun r i wr=>∃ j:Nat,j<=n/\r=O qL (bkR m a r0 j)/\i=O qL (j:Int)/\ccC m a r0 j=true/\Below w1.heap.size w1 wr) (fun _ i _=>n-(intOf i).toNat)
 case atStart=>exact⟨0,Nat.zero_le _,rfl,rfl,rfl,qK _ _⟩
 case round =>
  obtain⟨j,hj,rfl,rfl,hcj,hB⟩:=hrel;obtain⟨wo,hwo⟩:∃ x,x=wr:=⟨_,rfl⟩;subst hwo;have BB:=qH (qI hB (BW.out.trans (hB.mono BW.out.size)));have RR:=HMB.out.below hB ltM;have HCJ:=qH hcj;clear hB hcj;by_cases hjn:j<n
  ·have h1:=hlt.out j (by omega)
   have h2:=hlt.out (j+1) (by omega)
   have r1:=rb.out j HCJ.out;have y1':=RO.out j (by omega)
   have y2':=RO.out (j+1) (by omega)
   rw [Z1W (by omega)] at y1' y2'
   replace y1':=(BB.out.1.cell (p:=⟨b3,o3+j,none⟩) LRO.out).trans y1';replace y2':=(BB.out.1.cell (p:=⟨b3,o3+(j+1),none⟩) LRO.out).trans y2';rw [show o3+(j+1)=o3+1+j by omega] at y2'
   have gl:=qH (fun w2 (B:Low wo w2)=>fl.out w2 (BB.out.2.trans (B.out.mono BB.out.2.size)) _ _ h1 h2)
   have gc:=qH (fun w2 (B:Low wo w2)=>fc.out w2 (BB.out.2.trans (B.out.mono BB.out.2.size)) _ _ (bkR m a r0 j) (bkR m a r0 (j+1)) h1 h2)
   have s1:Hid (bkR m a r0 (j+1)=bkR m a r0 j+gLeg m (itB m a j) (itB m a (j+1))):=rfl;have s2:Hid (ccC m a r0 (j+1)=(ccC m a r0 j && ccB m (itB m a j) (bkR m a r0 j) (itB m a (j+1)) (bkR m a r0 (j+1)))):=rfl;have gb:=hgb.out _ _ h1 h2;have jl1:(j:Int)<(n:Int)+1:=by omega
   have jl2:(j:Int)<(n:Int):=by omega
   have jl3:decide ((j:Int)<(n:Int))=true:=zTq;have jl0:(0:Int)<=(j:Int):=by omega
   obtain⟨ra,hra⟩:∃ x,bkR m a r0 j=x:=⟨_,rfl⟩;obtain⟨rc,hrc⟩:∃ x,bkR m a r0 (j+1)=x:=⟨_,rfl⟩;simp only [hra,hrc] at r1 gc s1 s2 ⊢;generalize itB m a j=p1 at *;generalize itB m a (j+1)=p2 at *;generalize gLeg m p1 p2=gg at *;generalize dLeg m p1 p2=dd at *;generalize tLeg m p1 p2=tt at *;obtain⟨cc,hcc⟩:∃ x,ccB m p1 ra p2 rc=x:=⟨_,rfl⟩;simp only [hcc] at s2 gc;clear hcc hra;have rw1:qW qL (ra+gg)=rc:=by have e:=s1.out;rw [e];exact zW2
   have HRC:=qH hrc;clear s1 h1 h2 r1 gb hrc;go_upto_region 5 with fail
   have z1:=Low.fact y1';clear y1' y2';have q0:=Low.fact (RR.cell (i:=0) rfl);have q1:=Low.fact (RR.cell (i:=1) rfl);have q2:=Low.fact (RR.cell (i:=2) rfl);have q3:=Low.fact (RR.cell (i:=3) rfl);have q4:=Low.fact (RR.cell (i:=4) rfl);have q5:=Low.fact (RR.cell (i:=5) rfl);have q6:=Low.fact (RR.cell (i:=6) rfl);have q7:=Low.fact (RR.cell (i:=7) rfl);have q8:=Low.fact (RR.cell (i:=8) rfl);have q9:=Low.fact (RR.cell (i:=9) rfl);have q10:=Low.fact (RR.cell (i:=10) rfl)
   (refine Zh (by kernel_rfl) (by kernel_rfl) ?_;(iterate 16 (apply Zf;(case hw=>rfl);(case hval=>(intro w1 hw1;have hcx:=Low.cells hw1;simp only [Oper.quietAt];go_simp;first | done | (first | (go_at_call 20;exact Low.calls hw1 (gl.out _ hw1))) | rfl | exact⟨rfl,rfl⟩));simp only [qJ,zq4,zr4,zs4]));refine wpQuiet_nil ?_;intro w2 hw2)
   clear gl;obtain⟨wa,hwa⟩:∃ x,x=w2:=⟨_,rfl⟩;subst hwa;have hw:=qH hw2;clear hw2;have gc2:=qH (fun w3 (B:Low wa w3)=>gc.out w3 (hw.out.out.trans (B.out.mono hw.out.out.size)))
   have BB2:=qH (qI (BB.out.1.trans (hw.out.out.mono BB.out.1.size)) (BB.out.2.trans (hw.out.out.mono BB.out.2.size)));replace z1:=Low.fact (z1 _ hw.out);replace q0:=Low.fact (q0 _ hw.out);replace q1:=Low.fact (q1 _ hw.out);replace q2:=Low.fact (q2 _ hw.out);replace q3:=Low.fact (q3 _ hw.out);replace q4:=Low.fact (q4 _ hw.out);replace q5:=Low.fact (q5 _ hw.out);replace q6:=Low.fact (q6 _ hw.out);replace q7:=Low.fact (q7 _ hw.out);replace q8:=Low.fact (q8 _ hw.out);replace q9:=Low.fact (q9 _ hw.out);replace q10:=Low.fact (q10 _ hw.out);clear gc;go_upto_region 6 with fail
   (refine (wpIn_wide (n:=9)).1 ?_;refine Zn (Zk _) 11 (by kernel_rfl) (by kernel_rfl) (by kernel_rfl) ?_;simp only [List.take_succ_cons,List.take_zero,List.drop_succ_cons,List.drop_zero];(iterate 11 (apply Zf;(case hw=>rfl);(case hval=>(intro w1 hw1;have hcx:=Low.cells hw1;simp only [Oper.quietAt];go_simp;first | done | (first | (go_at_call 97;exact Low.calls hw1 (gc2.out _ hw1))) | rfl | exact⟨rfl,rfl⟩));simp only [qJ,zq4,zr4,zs4]));refine wpQuiet_nil ?_;intro w2 hw2)
   have BB3:=qH (qI (BB2.out.1.trans (hw2.out.mono BB2.out.1.size)) (BB2.out.2.trans (hw2.out.mono BB2.out.2.size)));clear hw2 q0 q1 q2 q3 q4 q5 q6 q7 q8 q9 q10 z1;cases cc
   ·have HV:=qH (show hwE m a r0=50 by rw [HH.out,hdown.out (j+1) (by omega) (by rw [s2.out,HCJ.out];rfl)];rfl)
    gi_wp2_with (refine⟨trivial,?_⟩;gi_at_call 96;refine (callsIn_wide.2 (Z3o _ _)).mono ?_;rintro e w' ⟨rfl,rfl⟩)
    exact Z49 rfl ⟨by rw [HV.out,Z31 (by decide)],BB3.out.2⟩
   ·gi_wp2_with (refine⟨trivial,?_⟩;gi_at_call 96;refine (callsIn_wide.2 (Z3n _ _)).mono ?_;rintro e w' ⟨rfl,rfl⟩)
    go_wp2;go_roundw
    case rel=>exact⟨j+1,by omega,by rw [HRC.out],by go_num,by rw [s2.out,HCJ.out];rfl,BB3.out.1⟩
    case measure=>simp [intOf];omega
  obtain rfl:j=n:=by omega
  have jj:decide ((j:Int)<(j:Int))=false:=by simp
  have hrr:=rb.out j HCJ.out;obtain⟨ebo,e1',e2',e3'⟩:=hle.out _ hrr;have HH2:=HH.out;rw [HCJ.out,if_neg (by simp)] at HH2
  generalize bkR m a r0 j=rr at *;unfold atW at ebo e2' e3';have fd:=fun w1=>Z3q rr w1
  rw [e1'] at fd;have fs:=fun v w1 h=>Z0R v (dskL rr) ⟨(wy m.ways 0).x,(wy m.ways 0).y⟩ w1 h
  rw [e2'] at fs;have fw2:=fun vp w1 B hp=>fw.out vp (shL (dskL rr) ⟨(wy m.ways 0).x,(wy m.ways 0).y⟩) w1 B hp
  rw [e3',ebo] at fw2;generalize shL (dskL rr) ⟨(wy m.ways 0).x,(wy m.ways 0).y⟩=sl at fs fw2;generalize dskL rr=dl at fd fs;clear ebo e1' e2' e3';generalize lieB m rr=bc at *;simp only at fs;have HX12:=qH (qI HCW.out.1 HCW.out.2.1);have h0':(0:Int)<m.ways.length:=by omega
  rw [Nat.zero_mul,Nat.add_zero] at HX12;generalize (wy m.ways 0).x=px at *;generalize (wy m.ways 0).y=py at *;replace fd:=qH fd;replace fs:=qH fs;replace fw2:=qH fw2;replace HH2:=qH HH2;replace BW:=qH BB.out.2;have MR:=qH RR;clear RR hL1 hL2 hL3;go_wp2_with fail;refine (fd.out wo).mono ?_;rintro e w2 ⟨v9,rfl,p9,b2⟩;replace BW:=zAf BW b2;have B_wo:=qH b2;clear b2;have P1:=qH p9;clear p9;obtain⟨g1',k1',hv1⟩:=P1.out.len;subst hv1;have x1:=(BW.out.cell (p:=⟨bw,ow,none⟩) hbw).trans HX12.out.1;have x2:=(BW.out.cell (p:=⟨bw,ow+1,none⟩) hbw).trans HX12.out.2;have x0:w2.cell? ⟨w.heap.size,0,none⟩=some (qS (some ⟨bw,ow,none⟩) m.ways.length (m.ways.length+cap1)):=(zCl MR B_wo).cell (i:=0) rfl;go_wp2_with fail;refine (fs.out _ _ P1.out).mono ?_;rintro e w3 ⟨v9,rfl,p9,b3⟩;replace BW:=zAf BW b3;replace B_wo:=zAf B_wo b3;have B_w2:=qH b3;clear b3;have P2:=qH p9;clear p9;obtain⟨g2',k2',hv1⟩:=P2.out.len;subst hv1;clear x0 x1 x2;have x0:w3.cell? ⟨w.heap.size,1,none⟩=some (qS a2 m.home.length (m.home.length+cap2)):=(zCl MR B_wo).cell (i:=1) rfl;go_wp2_with fail;refine (fw2.out _ _ BW.out P2.out).mono ?_;rintro e w4 ⟨rfl,b4⟩;replace BW:=zAf BW b4;replace B_wo:=zAf B_wo b4;replace B_w2:=zAf B_w2 b4;have B_w3:=qH b4;clear b4 x0;cases bc
  ·have HV:=qH (show hwE m a r0=52 by rw [HH2.out];rfl)
   go_wp2_with fail;refine (Z3o _ _).mono ?_;rintro e w' ⟨rfl,rfl⟩;exact Z49 rfl ⟨by rw [HV.out,Z31 (by decide)],BW.out⟩
  ·have HV:=qH (show hwE m a r0=0 by rw [HH2.out];rfl)
   go_wp2_with fail;refine (Z3n _ _).mono ?_;rintro e w' ⟨rfl,rfl⟩;go_wp2;go_end0;exact⟨by rw [HV.out,Z5W],BW.out⟩
theorem Z4t (m:Msn) (vw vh vr:Value) (w:World) (hm:MsnAt w.heap.size w m vw vh vr) (hV:validB m=true) (i:Nat) (hi:i+1<m.ways.length) (pv:Value) (u v t e:Int) (ht:0<=t/\t<=1000000000000000) (he:0<=e/\e<=1000000000000000) :
  Calls Tryz.prog 43 #[.agg (Zc m vw vh vr),O qL i,.agg #[pv,O qL u,O qL v,O qL t,O qL e]] w fun e' w'=>e'=.returned (O qL (kpsE m i u v t e))/\Below w.heap.size w w':=by
 have V:=(Zj m).1 hV;have n41:=V.n41;have fc:=fun w1 (B:Below w.heap.size w w1)=>Z3w m vw vh vr w1 ((hm.below B).mono B.size) V i (i+1) u v (by omega) hi
 have fh:=fun w1 (B:Below w.heap.size w w1) hv=>Zaq m vw vh vr w1 ((hm.below B).mono B.size) hV (i+1) hi (by omega) v hv
 have fp:=fun w1 (B:Below w.heap.size w w1)=>Z1Z m vw vh vr (i+1) w1 ((hm.below B).mono B.size) hV hi
 have hte:=Z0T V hi _ (qN (dep m (i+1)));have hd:=Z3F V.ways hi;have hcb:=fun h=>ZbU (m:=m) (a:=i) (b:=i+1) (u:=u) (w:=v) h
 have hor:=hwE_or m (i+1) v;have HK:kpsE m i u v t e=if ccB m i u (i+1) v=false then 50 else if hwE m (i+1) v=50 then 50 else if hwE m (i+1) v=52 then 52 else if e+homeE m (i+1) (dep m (i+1))>m.battery then 51 else if t+homeT m (i+1) (dep m (i+1))>m.deadline then 6 else 0:=rfl
 generalize kpsE m i u v t e=kk at *;generalize ccB m i u (i+1) v=cb at *;generalize hwE m (i+1) v=hw at *;generalize homeE m (i+1) (dep m (i+1))=hE at *;generalize homeT m (i+1) (dep m (i+1))=hT at *;generalize dep m (i+1)=dp at *;obtain⟨⟨-,a1,cap1,rfl,-⟩,⟨-,a2,cap2,rfl,-⟩,⟨-,a3,cap3,rfl,-⟩⟩:=hm;unfold Zc at *;replace fc:=qH fc;replace fh:=qH fh;replace fp:=qH fp;replace HK:=qH HK;replace hcb:=qH hcb;replace hor:=qH hor;have jw:qW qL ((i:Int)+1)=((i+1:Nat):Int):=by rw [show (i:Int)+1=((i+1:Nat):Int) by omega];exact zW2
 have wE:qW qL (e+hE)=e+hE:=zW2;have wT:qW qL (t+hT)=t+hT:=zW2;clear V hV hte ht he hd;have BW:=qH (qK w.heap.size w)
 go_enter_defers Tryz.func43,Tryz.ntmps43
 go_wp2_with fail;generalize hXX0:qV (qV (qV w _) _) _=X0;obtain⟨q0,q1,q2,hA,hzX0⟩:=box3 hXX0;clear hXX0;have BW:=qH hA;clear hA;have MB:=qH q0;clear q0;have PB:=qH q1;clear q1;have EB:=qH q2;clear q2;obtain⟨c0,c1,c2,c3,c4,c5,c6,c7,c8,c9,c10⟩:=Zg (m:=m) MB.out;have hp:=PB.out;have d0:=hp.cell (i:=0) rfl;have d1:=hp.cell (i:=1) rfl;have d2:=hp.cell (i:=2) rfl;have d3:=hp.cell (i:=3) rfl;have d4:=hp.cell (i:=4) rfl;refine (fc.out _ BW.out).mono ?_;rintro e w1 ⟨rfl,b1⟩;replace BW:=zAf BW b1;have B_X0:=qH b1;clear b1 c0 c1 c2 c3 c4 c5 c6 c7 c8 c9 c10 hp d0 d1 d2 d3 d4;obtain⟨c0,c1,c2,c3,c4,c5,c6,c7,c8,c9,c10⟩:=Zg (m:=m) (zCl MB B_X0);have hp:=(zCl PB B_X0);have d0:=hp.cell (i:=0) rfl;have d1:=hp.cell (i:=1) rfl;have d2:=hp.cell (i:=2) rfl;have d3:=hp.cell (i:=3) rfl;have d4:=hp.cell (i:=4) rfl;cases cb
 ·skip
  have HV:=qH (show kk=50 by rw [HK.out,if_pos rfl])
  go_wp2_with fail;refine (Z3o _ _).mono ?_;rintro e0 w0 ⟨rfl,hw0⟩;rw [hw0];clear hw0 w0 c0 c1 c2 c3 c4 c5 c6 c7 c8 c9 c10 hp d0 d1 d2 d3 d4;have HE:=qH (zCl EB B_X0);refine leaves_cons (f:=95) (args:=#[qP (some ⟨w.heap.size+1+1,0,none⟩)]) (by simp) (by simp [go_sem]) ?_
  refine (Z0b ⟨w.heap.size+1+1,0,none⟩ (O qL 0) 50 _ (HE.out.cell (i:=0) rfl) (Ze HE.out 0)).mono ?_;rintro e9 u9 w9 ⟨rfl,rfl,hw9⟩;have hA9:=(qK w1.heap.size w1).alloc (qN _) (.cells #[O qL 50] 195);have hE9:=(HE.out.below hA9 HE.out.lt).set 0 (O qL 50);have BZ:=(BW.out.trans (hA9.mono BW.out.size)).setCell (p:=⟨w.heap.size+1+1,0,none⟩) (by show w.heap.size<=w.heap.size+1+1;omega) (O qL 50)
  rw [<- hw9] at hE9 BZ;have c9:w9.cell? ⟨w.heap.size+1+1,0,none⟩=some (O qL 50):=hE9.cell (i:=0) rfl;clear hw9 hE9 hA9;simp [Leaves,settle,results,Tryz.results43,go_sem,c9,HV.out,BZ]
 obtain⟨hu,hv⟩:=hcb.out rfl;replace HK:=HK.out;rw [if_neg (by simp)] at HK
 replace HK:=qH HK;clear hu;go_wp2_with fail;refine (Z3n _ _).mono ?_;rintro e0 w0 ⟨rfl,hw0⟩;rw [hw0];clear hw0 w0;have gh:=qH (fun w1 B=>fh.out w1 B hv)
 clear fh hv;rcases hor.out with rfl | rfl | rfl
 ·skip
  have HV:=qH (show kk=50 by rw [HK.out];rfl)
  go_wp2_with fail;refine (gh.out _ BW.out).mono ?_;rintro e w2 ⟨rfl,b2⟩;replace BW:=zAf BW b2;replace B_X0:=zAf B_X0 b2;clear b2 c0 c1 c2 c3 c4 c5 c6 c7 c8 c9 c10 hp d0 d1 d2 d3 d4;obtain⟨c0,c1,c2,c3,c4,c5,c6,c7,c8,c9,c10⟩:=Zg (m:=m) (zCl MB B_X0);have hp:=(zCl PB B_X0);have d0:=hp.cell (i:=0) rfl;have d1:=hp.cell (i:=1) rfl;have d2:=hp.cell (i:=2) rfl;have d3:=hp.cell (i:=3) rfl;have d4:=hp.cell (i:=4) rfl;rw [Z31 (by decide)]
  clear c0 c1 c2 c3 c4 c5 c6 c7 c8 c9 c10 hp d0 d1 d2 d3 d4;have HE:=qH (zCl EB B_X0);refine leaves_cons (f:=95) (args:=#[qP (some ⟨w.heap.size+1+1,0,none⟩)]) (by simp) (by simp [go_sem]) ?_
  refine (Z0b ⟨w.heap.size+1+1,0,none⟩ (O qL 0) 50 _ (HE.out.cell (i:=0) rfl) (Ze HE.out 0)).mono ?_;rintro e9 u9 w9 ⟨rfl,rfl,hw9⟩;have hA9:=(qK w2.heap.size w2).alloc (qN _) (.cells #[O qL 50] 195);have hE9:=(HE.out.below hA9 HE.out.lt).set 0 (O qL 50);have BZ:=(BW.out.trans (hA9.mono BW.out.size)).setCell (p:=⟨w.heap.size+1+1,0,none⟩) (by show w.heap.size<=w.heap.size+1+1;omega) (O qL 50)
  rw [<- hw9] at hE9 BZ;have c9:w9.cell? ⟨w.heap.size+1+1,0,none⟩=some (O qL 50):=hE9.cell (i:=0) rfl;clear hw9 hE9 hA9;simp [Leaves,settle,results,Tryz.results43,go_sem,c9,HV.out,BZ]
 ·skip
  have HV:=qH (show kk=52 by rw [HK.out];rfl)
  go_wp2_with fail;refine (gh.out _ BW.out).mono ?_;rintro e w3 ⟨rfl,b3⟩;replace BW:=zAf BW b3;replace B_X0:=zAf B_X0 b3;clear b3 c0 c1 c2 c3 c4 c5 c6 c7 c8 c9 c10 hp d0 d1 d2 d3 d4;obtain⟨c0,c1,c2,c3,c4,c5,c6,c7,c8,c9,c10⟩:=Zg (m:=m) (zCl MB B_X0);have hp:=(zCl PB B_X0);have d0:=hp.cell (i:=0) rfl;have d1:=hp.cell (i:=1) rfl;have d2:=hp.cell (i:=2) rfl;have d3:=hp.cell (i:=3) rfl;have d4:=hp.cell (i:=4) rfl;rw [Z31 (by decide)]
  clear c0 c1 c2 c3 c4 c5 c6 c7 c8 c9 c10 hp d0 d1 d2 d3 d4;have HE:=qH (zCl EB B_X0);refine leaves_cons (f:=95) (args:=#[qP (some ⟨w.heap.size+1+1,0,none⟩)]) (by simp) (by simp [go_sem]) ?_
  refine (Z0b ⟨w.heap.size+1+1,0,none⟩ (O qL 0) 52 _ (HE.out.cell (i:=0) rfl) (Ze HE.out 0)).mono ?_;rintro e9 u9 w9 ⟨rfl,rfl,hw9⟩;have hA9:=(qK w3.heap.size w3).alloc (qN _) (.cells #[O qL 52] 195);have hE9:=(HE.out.below hA9 HE.out.lt).set 0 (O qL 52);have BZ:=(BW.out.trans (hA9.mono BW.out.size)).setCell (p:=⟨w.heap.size+1+1,0,none⟩) (by show w.heap.size<=w.heap.size+1+1;omega) (O qL 52)
  rw [<- hw9] at hE9 BZ;have c9:w9.cell? ⟨w.heap.size+1+1,0,none⟩=some (O qL 52):=hE9.cell (i:=0) rfl;clear hw9 hE9 hA9;simp [Leaves,settle,results,Tryz.results43,go_sem,c9,HV.out,BZ]
 have HK2:=qH (show kk=if e+hE>m.battery then 51 else if t+hT>m.deadline then 6 else 0 from by rw [HK.out];rfl)
 go_wp2_with fail;refine (gh.out _ BW.out).mono ?_;rintro e w4 ⟨rfl,b4⟩;replace BW:=zAf BW b4;replace B_X0:=zAf B_X0 b4;clear b4;rw [Z5W];clear c0 c1 c2 c3 c4 c5 c6 c7 c8 c9 c10 hp d0 d1 d2 d3 d4;obtain⟨c0,c1,c2,c3,c4,c5,c6,c7,c8,c9,c10⟩:=Zg (m:=m) (zCl MB B_X0);have hp:=(zCl PB B_X0);have d0:=hp.cell (i:=0) rfl;have d1:=hp.cell (i:=1) rfl;have d2:=hp.cell (i:=2) rfl;have d3:=hp.cell (i:=3) rfl;have d4:=hp.cell (i:=4) rfl;go_wp2_with fail;refine (fp.out _ BW.out).mono ?_;rintro e w5 ⟨rfl,b5⟩;replace BW:=zAf BW b5;replace B_X0:=zAf B_X0 b5;clear b5 c0 c1 c2 c3 c4 c5 c6 c7 c8 c9 c10 hp d0 d1 d2 d3 d4;obtain⟨c0,c1,c2,c3,c4,c5,c6,c7,c8,c9,c10⟩:=Zg (m:=m) (zCl MB B_X0);have hp:=(zCl PB B_X0);have d0:=hp.cell (i:=0) rfl;have d1:=hp.cell (i:=1) rfl;have d2:=hp.cell (i:=2) rfl;have d3:=hp.cell (i:=3) rfl;have d4:=hp.cell (i:=4) rfl;by_cases hbat:e+hE>m.battery
 ·skip
  have dB:decide (e+hE<=m.battery)=false:=by rw [decide_eq_false_iff_not];omega
  have HV:=qH (show kk=51 by rw [HK2.out,if_pos hbat])
  go_wp2_with fail;refine (Z3o _ _).mono ?_;rintro e0 w0 ⟨rfl,hw0⟩;rw [hw0];clear hw0 w0 c0 c1 c2 c3 c4 c5 c6 c7 c8 c9 c10 hp d0 d1 d2 d3 d4;have HE:=qH (zCl EB B_X0);refine leaves_cons (f:=95) (args:=#[qP (some ⟨w.heap.size+1+1,0,none⟩)]) (by simp) (by simp [go_sem]) ?_
  refine (Z0b ⟨w.heap.size+1+1,0,none⟩ (O qL 0) 51 _ (HE.out.cell (i:=0) rfl) (Ze HE.out 0)).mono ?_;rintro e9 u9 w9 ⟨rfl,rfl,hw9⟩;have hA9:=(qK w5.heap.size w5).alloc (qN _) (.cells #[O qL 51] 195);have hE9:=(HE.out.below hA9 HE.out.lt).set 0 (O qL 51);have BZ:=(BW.out.trans (hA9.mono BW.out.size)).setCell (p:=⟨w.heap.size+1+1,0,none⟩) (by show w.heap.size<=w.heap.size+1+1;omega) (O qL 51)
  rw [<- hw9] at hE9 BZ;have c9:w9.cell? ⟨w.heap.size+1+1,0,none⟩=some (O qL 51):=hE9.cell (i:=0) rfl;clear hw9 hE9 hA9;simp [Leaves,settle,results,Tryz.results43,go_sem,c9,HV.out,BZ]
 have dB:decide (e+hE<=m.battery)=true:=zTq;replace HK2:=HK2.out;rw [if_neg hbat] at HK2;replace HK2:=qH HK2;go_wp2_with fail;refine (Z3n _ _).mono ?_;rintro e0 w0 ⟨rfl,hw0⟩;rw [hw0];clear hw0 w0;by_cases htim:t+hT>m.deadline
 ·skip
  have dT:decide (t+hT<=m.deadline)=false:=by rw [decide_eq_false_iff_not];omega
  have HV:=qH (show kk=6 by rw [HK2.out,if_pos htim])
  go_wp2_with fail;refine (Z3o _ _).mono ?_;rintro e0 w0 ⟨rfl,hw0⟩;rw [hw0];clear hw0 w0 c0 c1 c2 c3 c4 c5 c6 c7 c8 c9 c10 hp d0 d1 d2 d3 d4;have HE:=qH (zCl EB B_X0);refine leaves_cons (f:=95) (args:=#[qP (some ⟨w.heap.size+1+1,0,none⟩)]) (by simp) (by simp [go_sem]) ?_
  refine (Z0b ⟨w.heap.size+1+1,0,none⟩ (O qL 0) 6 _ (HE.out.cell (i:=0) rfl) (Ze HE.out 0)).mono ?_;rintro e9 u9 w9 ⟨rfl,rfl,hw9⟩;have hA9:=(qK w5.heap.size w5).alloc (qN _) (.cells #[O qL 6] 195);have hE9:=(HE.out.below hA9 HE.out.lt).set 0 (O qL 6);have BZ:=(BW.out.trans (hA9.mono BW.out.size)).setCell (p:=⟨w.heap.size+1+1,0,none⟩) (by show w.heap.size<=w.heap.size+1+1;omega) (O qL 6)
  rw [<- hw9] at hE9 BZ;have c9:w9.cell? ⟨w.heap.size+1+1,0,none⟩=some (O qL 6):=hE9.cell (i:=0) rfl;clear hw9 hE9 hA9;simp [Leaves,settle,results,Tryz.results43,go_sem,c9,HV.out,BZ]
 have dT:decide (t+hT<=m.deadline)=true:=zTq;have HV:=qH (show kk=0 by rw [HK2.out,if_neg htim])
 go_wp2_with fail;refine (Z3n _ _).mono ?_;rintro e0 w0 ⟨rfl,hw0⟩;rw [hw0];clear hw0 w0;have HE:=qH (zCl EB B_X0);have he0:=HE.out.cell (i:=0) rfl;have he1:=Ze HE.out 0;go_wp2;refine leaves_cons (f:=95) (args:=#[qP (some ⟨w.heap.size+1+1,0,none⟩)]) (by simp) (by simp [go_sem]) ?_
 refine (Z3S ⟨w.heap.size+1+1,0,none⟩ _).mono ?_;rintro e9 u9 w9 ⟨rfl,rfl,hw9⟩;have hE9:=HE.out.set 0 (O qL 0);have BZ:=BW.out.setCell (p:=⟨w.heap.size+1+1,0,none⟩) (by show w.heap.size<=w.heap.size+1+1;omega) (O qL 0)
 rw [<- hw9] at hE9 BZ;have c9:w9.cell? ⟨w.heap.size+1+1,0,none⟩=some (O qL 0):=hE9.cell (i:=0) rfl;clear hw9 hE9;simp [Leaves,settle,results,Tryz.results43,go_sem,c9,HV.out,BZ]
noncomputable def lg1 (m:Msn) (c:Crt) (i:Nat):Bool:=decide (befR m c i<=(pgd c.psg i).fr) && decide ((pgd c.psg i).fr+gLeg m i (i+1)<=(pgd c.psg i).tw)
noncomputable def lg2 (m:Msn) (c:Crt) (i:Nat):Bool:=decide (befT m c i+tLeg m i (i+1)<=(pgd c.psg i).tm) && (decide (befE m c i+eLeg m i (i+1)<=(pgd c.psg i).en) && decide (homeE m (i+1) (dep m (i+1))<=c.ret.getD i 0))
noncomputable def lg3 (m:Msn) (c:Crt) (i:Nat):Bool:=decide ((pgd c.psg i).en+c.ret.getD i 0<=m.battery) && decide (kpsE m i (pgd c.psg i).fr (pgd c.psg i).tw (pgd c.psg i).tm (pgd c.psg i).en=0)
noncomputable def lg4 (m:Msn) (c:Crt) (i:Nat):Bool:=decide (corE (atW m i) (pgd c.psg i).fr (atW m (i+1)) (pgd c.psg i).tw=0) && (withinB (corL (atW m i) (pgd c.psg i).fr (atW m (i+1)) (pgd c.psg i).tw) (pgd c.psg i).cor && !firB (pgd c.psg i).cor m.rocks)
noncomputable def lgB (m:Msn) (c:Crt) (i:Nat):Bool:=lg1 m c i && (lg2 m c i && (lg3 m c i && lg4 m c i))
noncomputable def chkB (m:Msn) (c:Crt):Bool:=frmB m c && decide (∀ i,i<c.psg.length->lgB m c i=true)
noncomputable def chkE (m:Msn) (c:Crt):Int:=if frmB m c=true then 0 else 1
theorem Zby (bp bf bg:Nat) (u:Value) (p:Psg) (f g:Int) (w:World) (hp:Has w bp #[u,O qL p.fr,O qL p.tw,O qL p.tm,O qL p.en] 58) (hf:Has w bf #[O qL f] 3) (hg:Has w bg #[O qL g] 3) (h1:0<=p.fr/\p.fr<=100000) (h2:0<=g/\g<=1000000000000) :
  Calls Tryz.prog 48 #[qP (some ⟨bp,0,none⟩),qP (some ⟨bf,0,none⟩),qP (some ⟨bg,0,none⟩)] w fun e w'=>e=.returned (.bool (decide (f<=p.fr) && decide (p.fr+g<=p.tw)))/\Below w.heap.size w w':=by
 have x1:=hp.cell (i:=1) rfl;have x2:=hp.cell (i:=2) rfl;have y:=hf.cell (i:=0) rfl;have z:=hg.cell (i:=0) rfl;have ww:qW qL (p.fr+g)=p.fr+g:=zW2;clear hp hf hg;by_cases hd:f<=p.fr
 ·have d1:decide (p.fr>=f)=true:=by rw [decide_eq_true_eq];exact hd
  have HD:=qH (decide_eq_true hd);clear hd;go_enter Tryz.func48,Tryz.ntmps48;go_wp2;go_ret;exact⟨by rw [HD.out];simp [ge_iff_le],qK _ _⟩
 ·have d1:decide (p.fr>=f)=false:=by rw [decide_eq_false_iff_not];exact hd
  have HD:=qH (decide_eq_false hd);clear hd;go_enter Tryz.func48,Tryz.ntmps48;go_wp2;go_ret;exact⟨by rw [HD.out];rfl,qK _ _⟩
theorem Zbx (bp b1 b2 b3 b4 bc bi b7:Nat) (u vs vp:Value) (ar:Option Addr) (cr:Nat) (p:Psg) (l:List Int) (i:Nat) (hi:i<l.length) (t a e c r:Int) (w:World) (hp:Has w bp #[u,O qL p.fr,O qL p.tw,O qL p.tm,O qL p.en] 58) (h1:Has w b1 #[O qL t] 3) (h2:Has w b2 #[O qL a] 3) (h3:Has w b3 #[O qL e] 3) (h4:Has w b4 #[O qL c] 3) (hc:Has w bc #[vs,vp,qS ar l.length (l.length+cr)] 47) (hbi:Has w bi #[O qL i] 3) (h7:Has w b7 #[O qL r] 3)
  (hl:Z8 w.heap.size w (qS ar l.length (l.length+cr)) l) (g1:0<=t/\t<=1000000000000) (g2:0<=a/\a<=1000000000000) (g3:0<=e/\e<=1000000000000) (g4:0<=c/\c<=1000000000000) :
  Calls Tryz.prog 49 #[qP (some ⟨bp,0,none⟩),qP (some ⟨b1,0,none⟩),qP (some ⟨b2,0,none⟩),qP (some ⟨b3,0,none⟩),qP (some ⟨b4,0,none⟩),qP (some ⟨bc,0,none⟩),qP (some ⟨bi,0,none⟩),qP (some ⟨b7,0,none⟩)] w fun e' w'=>e'=.returned (.bool (decide (t+a<=p.tm) && (decide (e+c<=p.en) && decide (r<=l.getD i 0))))/\Below w.heap.size w w':=by
 obtain⟨-,a',cap',e0,hcc⟩:=hl;obtain⟨b,o,ha,hb,hcc⟩:=hcc.resolve_left (by intro h;rw [h] at hi;simp at hi)
 simp only [Value.slice.injEq] at e0;obtain⟨e1,-,-⟩:=e0;rw [ha] at e1;subst e1;have q0:=hcc i hi;have q1:=hp.cell (i:=3) rfl;have q2:=hp.cell (i:=4) rfl;have q3:=h1.cell (i:=0) rfl;have q4:=h2.cell (i:=0) rfl;have q5:=h3.cell (i:=0) rfl;have q6:=h4.cell (i:=0) rfl;have q7:w.cell? ⟨bc,2,none⟩=some (qS (some ⟨b,o,none⟩) l.length (l.length+cr)):=hc.cell (i:=2) rfl;have q8:=hbi.cell (i:=0) rfl;have q9:=h7.cell (i:=0) rfl;have w1:qW qL (t+a)=t+a:=zW2;have w2':qW qL (e+c)=e+c:=zW2;have il:(i:Int)<l.length:=by omega
 have il0:(0:Int)<=i:=by omega
 generalize l.getD i 0=li at *;clear hp h1 h2 h3 h4 hc hbi h7 hcc ha;have qs:=qH (qI q0 (qI q1 (qI q2 (qI q3 (qI q4 (qI q5 (qI q6 (qI q7 (qI q8 q9)))))))));clear q0 q1 q2 q3 q4 q5 q6 q7 q8 q9;by_cases hd:t+a<=p.tm
 ·have d1:decide (p.tm>=t+a)=true:=by rw [decide_eq_true_eq];exact hd
  have HD:=qH (decide_eq_true hd);by_cases he:e+c<=p.en
  ·have d2:decide (p.en>=e+c)=true:=by rw [decide_eq_true_eq];exact he
   have HE:=qH (decide_eq_true he);clear hd he;go_enter Tryz.func49,Tryz.ntmps49;go_upto_region 1 with fail
   have z0:=Low.fact qs.out.1;have z1:=Low.fact qs.out.2.1;have z2:=Low.fact qs.out.2.2.1;have z3:=Low.fact qs.out.2.2.2.1;have z4:=Low.fact qs.out.2.2.2.2.1;have z5:=Low.fact qs.out.2.2.2.2.2.1;have z6:=Low.fact qs.out.2.2.2.2.2.2.1;have z7:=Low.fact qs.out.2.2.2.2.2.2.2.1;have z8:=Low.fact qs.out.2.2.2.2.2.2.2.2.1;have z9:=Low.fact qs.out.2.2.2.2.2.2.2.2.2
   (refine Zh (by kernel_rfl) (by kernel_rfl) ?_;(iterate 24 (apply Zf;(case hw=>rfl);(case hval=>(intro w1 hw1;have hcx:=Low.cells hw1;simp only [Oper.quietAt];go_simp;first | done | rfl | exact⟨rfl,rfl⟩));simp only [qJ,zq4,zr4,zs4]));refine wpQuiet_nil ?_;intro w2 hw2)
   go_wp2;go_ret;exact⟨by rw [HD.out,HE.out];simp [ge_iff_le],hw2.out⟩
  ·have d2:decide (p.en>=e+c)=false:=by rw [decide_eq_false_iff_not];exact he
   have HE:=qH (decide_eq_false he);clear hd he;go_enter Tryz.func49,Tryz.ntmps49;go_upto_region 1 with fail
   have z0:=Low.fact qs.out.1;have z1:=Low.fact qs.out.2.1;have z2:=Low.fact qs.out.2.2.1;have z3:=Low.fact qs.out.2.2.2.1;have z4:=Low.fact qs.out.2.2.2.2.1;have z5:=Low.fact qs.out.2.2.2.2.2.1;have z6:=Low.fact qs.out.2.2.2.2.2.2.1;have z7:=Low.fact qs.out.2.2.2.2.2.2.2.1;have z8:=Low.fact qs.out.2.2.2.2.2.2.2.2.1;have z9:=Low.fact qs.out.2.2.2.2.2.2.2.2.2
   (refine Zh (by kernel_rfl) (by kernel_rfl) ?_;(iterate 15 (apply Zf;(case hw=>rfl);(case hval=>(intro w1 hw1;have hcx:=Low.cells hw1;simp only [Oper.quietAt];go_simp;first | done | rfl | exact⟨rfl,rfl⟩));simp only [qJ,zq4,zr4,zs4]));(iterate 7 (apply Zu;(case hw=>rfl);simp only [qJ,zq4,zr4,zs4]));(iterate 2 (apply Zf;(case hw=>rfl);(case hval=>(intro w1 hw1;have hcx:=Low.cells hw1;simp only [Oper.quietAt];go_simp;first | done | rfl | exact⟨rfl,rfl⟩));simp only [qJ,zq4,zr4,zs4]));refine wpQuiet_nil ?_;intro w2 hw2)
   go_wp2;go_ret;exact⟨by rw [HD.out,HE.out];rfl,hw2.out⟩
 ·have d1:decide (p.tm>=t+a)=false:=by rw [decide_eq_false_iff_not];exact hd
  have HD:=qH (decide_eq_false hd);clear hd;go_enter Tryz.func49,Tryz.ntmps49;go_upto_region 1 with fail
  have z0:=Low.fact qs.out.1;have z1:=Low.fact qs.out.2.1;have z2:=Low.fact qs.out.2.2.1;have z3:=Low.fact qs.out.2.2.2.1;have z4:=Low.fact qs.out.2.2.2.2.1;have z5:=Low.fact qs.out.2.2.2.2.2.1;have z6:=Low.fact qs.out.2.2.2.2.2.2.1;have z7:=Low.fact qs.out.2.2.2.2.2.2.2.1;have z8:=Low.fact qs.out.2.2.2.2.2.2.2.2.1;have z9:=Low.fact qs.out.2.2.2.2.2.2.2.2.2
  (refine Zh (by kernel_rfl) (by kernel_rfl) ?_;(iterate 7 (apply Zf;(case hw=>rfl);(case hval=>(intro w1 hw1;have hcx:=Low.cells hw1;simp only [Oper.quietAt];go_simp;first | done | rfl | exact⟨rfl,rfl⟩));simp only [qJ,zq4,zr4,zs4]));(iterate 6 (apply Zu;(case hw=>rfl);simp only [qJ,zq4,zr4,zs4]));(iterate 2 (apply Zf;(case hw=>rfl);(case hval=>(intro w1 hw1;have hcx:=Low.cells hw1;simp only [Oper.quietAt];go_simp;first | done | rfl | exact⟨rfl,rfl⟩));simp only [qJ,zq4,zr4,zs4]));(iterate 7 (apply Zu;(case hw=>rfl);simp only [qJ,zq4,zr4,zs4]));(iterate 2 (apply Zf;(case hw=>rfl);(case hval=>(intro w1 hw1;have hcx:=Low.cells hw1;simp only [Oper.quietAt];go_simp;first | done | rfl | exact⟨rfl,rfl⟩));simp only [qJ,zq4,zr4,zs4]));refine wpQuiet_nil ?_;intro w2 hw2)
  go_wp2;go_ret;exact⟨by rw [HD.out];rfl,hw2.out⟩
theorem Zbw (bp bc bi bm:Nat) (u vs vp:Value) (ar:Option Addr) (cr:Nat) (p:Psg) (l:List Int) (i:Nat) (hi:i<l.length) (m:Msn) (vw vh vr:Value) (w:World) (hm:MsnAt w.heap.size w m vw vh vr) (hV:validB m=true) (hi1:i+1<m.ways.length) (hp:Has w bp #[u,O qL p.fr,O qL p.tw,O qL p.tm,O qL p.en] 58) (hc:Has w bc #[vs,vp,qS ar l.length (l.length+cr)] 47) (hbi:Has w bi #[O qL i] 3) (hbm:Has w bm (Zc m vw vh vr) 26)
  (hl:Z8 w.heap.size w (qS ar l.length (l.length+cr)) l) (g1:0<=p.tm/\p.tm<=1000000000) (g2:0<=p.en/\p.en<=1000000000) (g3:0<=l.getD i 0/\l.getD i 0<=1000000000) :
  Calls Tryz.prog 50 #[qP (some ⟨bp,0,none⟩),qP (some ⟨bc,0,none⟩),qP (some ⟨bi,0,none⟩),qP (some ⟨bm,0,none⟩)] w fun e' w'=>e'=.returned (.bool (decide (p.en+l.getD i 0<=m.battery) && decide (kpsE m i p.fr p.tw p.tm p.en=0)))/\Below w.heap.size w w':=by
 have fk:=fun w1 (B:Below w.heap.size w w1)=>Z4t m vw vh vr w1 ((hm.below B).mono B.size) hV i hi1 u p.fr p.tw p.tm p.en ⟨g1.1,by omega⟩ ⟨g2.1,by omega⟩
 generalize kpsE m i p.fr p.tw p.tm p.en=kk at *;obtain⟨-,a',cap',e0,hcc⟩:=hl;obtain⟨b,o,ha,hb,hcc⟩:=hcc.resolve_left (by intro h;rw [h] at hi;simp at hi)
 simp only [Value.slice.injEq] at e0;obtain⟨e1,-,-⟩:=e0;rw [ha] at e1;subst e1;obtain⟨⟨-,a1,cap1,rfl,hcw⟩,⟨-,a2,cap2,rfl,-⟩,⟨-,a3,cap3,rfl,-⟩⟩:=hm;unfold Zc at *;have qs:=qH (qI (hcc i hi) (qI hp (qI (show w.cell? ⟨bc,2,none⟩=some (qS (some ⟨b,o,none⟩) l.length (l.length+cr)) from hc.cell (i:=2) rfl) (qI (hbi.cell (i:=0) rfl) hbm))))
 have il:(i:Int)<l.length:=by omega
 have il0:(0:Int)<=i:=by omega
 generalize l.getD i 0=li at *;have w1:qW qL (p.en+li)=p.en+li:=zW2;replace fk:=qH fk;have dkk:(kk == 0)=decide (kk=0):=by rw [Bool.eq_iff_iff];simp
 clear hp hc hbi hbm hcc ha hcw hV;by_cases hd:p.en+li<=m.battery
 ·have d1:decide (p.en+li<=m.battery)=true:=by rw [decide_eq_true_eq];exact hd
  have HD:=qH (decide_eq_true hd);clear hd;go_enter Tryz.func50,Tryz.ntmps50;go_upto_region 1 with fail
  have z0:=Low.fact qs.out.1;have hp:=qs.out.2.1;have hM:=qs.out.2.2.2.2;have y0:=Low.fact (hp.cell (i:=0) rfl);have y1:=Low.fact (hp.cell (i:=1) rfl);have y2:=Low.fact (hp.cell (i:=2) rfl);have y3:=Low.fact (hp.cell (i:=3) rfl);have y4:=Low.fact (hp.cell (i:=4) rfl);have z7:=Low.fact qs.out.2.2.1;have z8:=Low.fact qs.out.2.2.2.1;have c0:=Low.fact (hM.cell (i:=0) rfl);have c1:=Low.fact (hM.cell (i:=1) rfl);have c2:=Low.fact (hM.cell (i:=2) rfl);have c3:=Low.fact (hM.cell (i:=3) rfl);have c4:=Low.fact (hM.cell (i:=4) rfl);have c5:=Low.fact (hM.cell (i:=5) rfl);have c6:=Low.fact (hM.cell (i:=6) rfl);have c7:=Low.fact (hM.cell (i:=7) rfl);have c8:=Low.fact (hM.cell (i:=8) rfl);have c9:=Low.fact (hM.cell (i:=9) rfl);have c10:=Low.fact (hM.cell (i:=10) rfl);clear hp hM
  (refine Zh (by kernel_rfl) (by kernel_rfl) ?_;(iterate 19 (apply Zf;(case hw=>rfl);(case hval=>(intro w1 hw1;have hcx:=Low.cells hw1;simp only [Oper.quietAt];go_simp;first | done | (first | (go_at_call 43;exact Low.calls hw1 (fk.out _ hw1.out))) | rfl | exact⟨rfl,rfl⟩));simp only [qJ,zq4,zr4,zs4]));refine wpQuiet_nil ?_;intro w2 hw2)
  go_wp2;go_ret;exact⟨by rw [HD.out];first | rfl | exact congrArg (fun b=>Ending.returned (Value.bool b)) dkk,hw2.out⟩
 ·have d1:decide (p.en+li<=m.battery)=false:=by rw [decide_eq_false_iff_not];exact hd
  have HD:=qH (decide_eq_false hd);clear hd;go_enter Tryz.func50,Tryz.ntmps50;go_upto_region 1 with fail
  have z0:=Low.fact qs.out.1;have hp:=qs.out.2.1;have hM:=qs.out.2.2.2.2;have y4:=Low.fact (hp.cell (i:=4) rfl);have z7:=Low.fact qs.out.2.2.1;have z8:=Low.fact qs.out.2.2.2.1;have c9:=Low.fact (hM.cell (i:=9) rfl);clear hp hM
  (refine Zh (by kernel_rfl) (by kernel_rfl) ?_;(iterate 12 (apply Zf;(case hw=>rfl);(case hval=>(intro w1 hw1;have hcx:=Low.cells hw1;simp only [Oper.quietAt];go_simp;first | done | rfl | exact⟨rfl,rfl⟩));simp only [qJ,zq4,zr4,zs4]));(iterate 5 (apply Zu;(case hw=>rfl);simp only [qJ,zq4,zr4,zs4]));(iterate 2 (apply Zf;(case hw=>rfl);(case hval=>(intro w1 hw1;have hcx:=Low.cells hw1;simp only [Oper.quietAt];go_simp;first | done | rfl | exact⟨rfl,rfl⟩));simp only [qJ,zq4,zr4,zs4]));refine wpQuiet_nil ?_;intro w2 hw2)
  go_wp2;go_ret;exact⟨by rw [HD.out];rfl,hw2.out⟩
theorem Zbv (bm bi bp:Nat) (u:Value) (p:Psg) (i:Nat) (m:Msn) (vw vh vr:Value) (w:World) (hm:MsnAt w.heap.size w m vw vh vr) (hi1:i+1<m.ways.length) (n41:m.ways.length<=41) (hp:Has w bp #[u,O qL p.fr,O qL p.tw,O qL p.tm,O qL p.en] 58) (hbi:Has w bi #[O qL i] 3) (hbm:Has w bm (Zc m vw vh vr) 26) (hu:Z7 w.heap.size w u p.cor) :
  Calls Tryz.prog 51 #[qP (some ⟨bm,0,none⟩),qP (some ⟨bi,0,none⟩),qP (some ⟨bp,0,none⟩)] w fun e' w'=>e'=.returned (.bool (decide (corE (atW m i) p.fr (atW m (i+1)) p.tw=0) && (withinB (corL (atW m i) p.fr (atW m (i+1)) p.tw) p.cor && !firB p.cor m.rocks)))/\Below w.heap.size w w':=by
 have f1:=fun w1=>Z0s ⟨(wy m.ways i).x,(wy m.ways i).y⟩ ⟨(wy m.ways (i+1)).x,(wy m.ways (i+1)).y⟩ p.fr p.tw w1
 have f2:=fun vc w1 (B:Below w.heap.size w w1) h=>Z2i vc u (corL ⟨(wy m.ways i).x,(wy m.ways i).y⟩ p.fr ⟨(wy m.ways (i+1)).x,(wy m.ways (i+1)).y⟩ p.tw) p.cor w1 h ((hu.below B).mono B.size)
 have f3:=fun w1 (B:Below w.heap.size w w1)=>Z1i u vr p.cor m.rocks w1 ((hu.below B).mono B.size) (((hm.2.2).below B).mono B.size)
 unfold atW;obtain⟨au,cu,rfl⟩:=hu.len;obtain⟨⟨-,a1,cap1,rfl,hcw⟩,⟨-,a2,cap2,rfl,-⟩,⟨-,a3,cap3,rfl,-⟩⟩:=hm;unfold Zc at *;obtain⟨bw,ow,rfl,hbw,hcw⟩:=hcw.resolve_left (by intro h;rw [h] at hi1;simp at hi1)
 obtain⟨x1,x2,-⟩:=hcw i (by omega)
 obtain⟨x3,x4,-⟩:=hcw (i+1) hi1;have HP:=qH hp;have HI:=qH hbi;have HM:=qH hbm;clear hcw hp hbi hbm hu;generalize corL ⟨(wy m.ways i).x,(wy m.ways i).y⟩ p.fr ⟨(wy m.ways (i+1)).x,(wy m.ways (i+1)).y⟩ p.tw=cl at *;generalize corE ⟨(wy m.ways i).x,(wy m.ways i).y⟩ p.fr ⟨(wy m.ways (i+1)).x,(wy m.ways (i+1)).y⟩ p.tw=ce at *;generalize (wy m.ways i).x=px at *;generalize (wy m.ways i).y=py at *;generalize (wy m.ways (i+1)).x=qx at *;generalize (wy m.ways (i+1)).y=qy at *;simp only at f1;generalize withinB cl p.cor=wb at *;generalize bothE cl p.cor=we at *;generalize firB p.cor m.rocks=fb at *;generalize firI p.cor m.rocks=fi at *;generalize firE p.cor m.rocks=fe at *;replace f1:=qH f1;replace f2:=qH f2;replace f3:=qH f3;have ha':(i:Int)<m.ways.length:=by omega
 have hb':((i+1:Nat):Int)<m.ways.length:=by omega
 have hb'':(i:Int)+1<m.ways.length:=by omega
 have ha0:(0:Int)<=i:=by omega
 have hb0:(0:Int)<=(i:Int)+1:=by omega
 have jw:qW qL ((i:Int)+1)=((i+1:Nat):Int):=by rw [show (i:Int)+1=((i+1:Nat):Int) by omega];exact zW2
 have BW:=qH (qK w.heap.size w);go_enter Tryz.func51,Tryz.ntmps51;go_upto_region 1 with fail
 have m0:w.cell? ⟨bm,0,none⟩=some (qS (some ⟨bw,ow,none⟩) m.ways.length (m.ways.length+cap1)):=HM.out.cell (i:=0) rfl;have i0:=HI.out.cell (i:=0) rfl;have p1:=HP.out.cell (i:=1) rfl;have p2:=HP.out.cell (i:=2) rfl;refine (wpIn_wide (n:=9)).1 ?_;refine Zi (Zk _) 22 (fun X=>Below w.heap.size w X) (by kernel_rfl) (by kernel_rfl) (by kernel_rfl) fun hH inv0=>?_
 have hD:=Below.drew (qK w.heap.size w);generalize hXX1:w.drew=X1 at *;clear hXX1;have BW:=qH hD;clear hD;refine sk hH (i:=0) (v:=qP (some ⟨bm,0,none⟩)) (Zd rfl) inv0 (fun X hX=>?_) fun inv1=>?_
 ·go_simp
 simp only [qJ,zq4,zr4,zs4];clear inv0;refine sk hH (i:=1) (v:=qS (some ⟨bw,ow,none⟩) m.ways.length (m.ways.length+cap1)) (Zd rfl) inv1 (fun X hX=>?_) fun inv2=>?_
 ·have r0:=(hX.cell (p:=⟨bm,0,none⟩) (qO _ _ m0)).trans m0;go_simp
 simp only [qJ,zq4,zr4,zs4];clear inv1;refine sk hH (i:=2) (v:=O qL (i:Int)) (Zd rfl) inv2 (fun X hX=>?_) fun inv3=>?_
 ·have r0:=(hX.cell (p:=⟨bi,0,none⟩) (qO _ _ i0)).trans i0;go_simp
 simp only [qJ,zq4,zr4,zs4];clear inv2;refine sk hH (i:=3) (v:=qP (some ⟨bw,ow+i*5,none⟩)) (Zd rfl) inv3 (fun X hX=>?_) fun inv4=>?_
 ·go_simp
 simp only [qJ,zq4,zr4,zs4];clear inv3;refine sk hH (i:=4) (v:=qP (some ⟨bw,ow+i*5,none⟩)) (Zd rfl) inv4 (fun X hX=>?_) fun inv5=>?_
 ·go_simp
 simp only [qJ,zq4,zr4,zs4];clear inv4;refine sk hH (i:=5) (v:=.agg #[O qL px,O qL py]) (Zd rfl) inv5 (fun X hX=>?_) fun inv6=>?_
 ·have r0:=(hX.cell (p:=⟨bw,ow+i*5,none⟩) (qO _ _ x1)).trans x1;have r1:=(hX.cell (p:=⟨bw,ow+i*5+1,none⟩) (qO _ _ x2)).trans x2;go_simp
 simp only [qJ,zq4,zr4,zs4];clear inv5;refine sk hH (i:=6) (v:=qP (some ⟨bp,1,none⟩)) (Zd rfl) inv6 (fun X hX=>?_) fun inv7=>?_
 ·go_simp
 simp only [qJ,zq4,zr4,zs4];clear inv6;refine sk hH (i:=7) (v:=O qL p.fr) (Zd rfl) inv7 (fun X hX=>?_) fun inv8=>?_
 ·have r0:=(hX.cell (p:=⟨bp,1,none⟩) (qO _ _ p1)).trans p1;go_simp
 simp only [qJ,zq4,zr4,zs4];clear inv7;refine sk hH (i:=8) (v:=qP (some ⟨bm,0,none⟩)) (Zd rfl) inv8 (fun X hX=>?_) fun inv9=>?_
 ·go_simp
 simp only [qJ,zq4,zr4,zs4];clear inv8;refine sk hH (i:=9) (v:=qS (some ⟨bw,ow,none⟩) m.ways.length (m.ways.length+cap1)) (Zd rfl) inv9 (fun X hX=>?_) fun inv10=>?_
 ·have r0:=(hX.cell (p:=⟨bm,0,none⟩) (qO _ _ m0)).trans m0;go_simp
 simp only [qJ,zq4,zr4,zs4];clear inv9;refine sk hH (i:=10) (v:=O qL (i:Int)) (Zd rfl) inv10 (fun X hX=>?_) fun inv11=>?_
 ·have r0:=(hX.cell (p:=⟨bi,0,none⟩) (qO _ _ i0)).trans i0;go_simp
 simp only [qJ,zq4,zr4,zs4];clear inv10;refine sk hH (i:=11) (v:=O qL ((i+1:Nat):Int)) (Zd rfl) inv11 (fun X hX=>?_) fun inv12=>?_
 ·go_simp
 simp only [qJ,zq4,zr4,zs4];clear inv11;refine sk hH (i:=12) (v:=qP (some ⟨bw,ow+(i+1)*5,none⟩)) (Zd rfl) inv12 (fun X hX=>?_) fun inv13=>?_
 ·go_simp
 simp only [qJ,zq4,zr4,zs4];clear inv12;refine sk hH (i:=13) (v:=qP (some ⟨bw,ow+(i+1)*5,none⟩)) (Zd rfl) inv13 (fun X hX=>?_) fun inv14=>?_
 ·go_simp
 simp only [qJ,zq4,zr4,zs4];clear inv13;refine sk hH (i:=14) (v:=.agg #[O qL qx,O qL qy]) (Zd rfl) inv14 (fun X hX=>?_) fun inv15=>?_
 ·have r0:=(hX.cell (p:=⟨bw,ow+(i+1)*5,none⟩) (qO _ _ x3)).trans x3;have r1:=(hX.cell (p:=⟨bw,ow+(i+1)*5+1,none⟩) (qO _ _ x4)).trans x4;go_simp
 simp only [qJ,zq4,zr4,zs4];clear inv14;refine sk hH (i:=15) (v:=qP (some ⟨bp,2,none⟩)) (Zd rfl) inv15 (fun X hX=>?_) fun inv16=>?_
 ·go_simp
 simp only [qJ,zq4,zr4,zs4];clear inv15;refine sk hH (i:=16) (v:=O qL p.tw) (Zd rfl) inv16 (fun X hX=>?_) fun inv17=>?_
 ·have r0:=(hX.cell (p:=⟨bp,2,none⟩) (qO _ _ p2)).trans p2;go_simp
 simp only [qJ,zq4,zr4,zs4];clear inv16;have inv18:=HeadInv.put2 inv17 (j:=17) (by kernel_rfl) (by omega)
 clear inv17;refine sa1 (r:=17) BW.out ?_;refine Zr (Zd rfl) rfl (f:=44) (args:=#[.agg #[O qL px,O qL py],O qL p.fr,.agg #[O qL qx,O qL qy],O qL p.tw]) (by go_simp) (f1.out X1) ?_
 rintro e w1 ⟨v1,rfl,p9,b1⟩;refine⟨_,rfl,?_⟩;simp only [qJ,zq4,zr4,zs4];replace BW:=zAf BW b1;clear b1;have P1:=qH p9;clear p9;refine sk hH (i:=18) (v:=.tuple #[v1,O qL ce]) (Zd rfl) inv18 (fun X hX=>?_) fun inv19=>?_
 ·go_simp
 simp only [qJ,zq4,zr4,zs4];clear inv18;refine sk hH (i:=19) (v:=v1) (Zd rfl) inv19 (fun X hX=>?_) fun inv20=>?_
 ·go_simp
 simp only [qJ,zq4,zr4,zs4];clear inv19;refine sk hH (i:=20) (v:=O qL ce) (Zd rfl) inv20 (fun X hX=>?_) fun inv21=>?_
 ·go_simp
 simp only [qJ,zq4,zr4,zs4];clear inv20;refine sk hH (i:=21) (v:=v1) (Zd rfl) inv21 (fun X hX=>?_) fun inv22=>?_
 ·go_simp
 simp only [qJ,zq4,zr4,zs4];clear inv21 inv22 hH;refine Zm (by kernel_rfl) BW.out ?_
 simp only [List.drop_succ_cons,List.drop_zero];obtain⟨g1,d1,hv1⟩:=P1.out.len;subst hv1;clear m0 i0 p1 p2 x1 x2 x3 x4;have q0:=(zCl HP BW).cell (i:=0) rfl;gi_wp2;by_cases hc:ce=0;rotate_left
 ·have dc:(ce == 0)=false:=by rw [beq_eq_false_iff_ne];exact hc
  have db:=qH (decide_eq_false hc);clear hc q0;go_wp2;go_ret;exact⟨by rw [db.out];rfl,BW.out⟩
 have dc:(ce == 0)=true:=by rw [beq_iff_eq];exact hc
 have db:=qH (decide_eq_true hc);clear hc;go_wp2_with fail;refine (f2.out _ _ BW.out P1.out).mono ?_;rintro e w2 ⟨rfl,b2⟩;replace BW:=zAf BW b2;have B_w1:=qH b2;clear b2 q0;have q0:=(zCl HP BW).cell (i:=0) rfl;have q3:w2.cell? ⟨bm,3,none⟩=some (qS a3 m.rocks.length (m.rocks.length+cap3)):=(zCl HM BW).cell (i:=3) rfl;go_wp2_with fail;refine (f3.out _ BW.out).mono ?_;rintro e w3 ⟨rfl,b3⟩;replace BW:=zAf BW b3;replace B_w1:=zAf B_w1 b3;clear b3 q0 q3;cases wb
 ·go_wp2
  go_ret;exact⟨by rw [db.out];rfl,BW.out⟩
 go_wp2;go_ret;exact⟨by rw [db.out];simp,BW.out⟩
end
theorem Z7r {m:Msn} {i:Nat} {u v t e:Int}:kpsE m i u v t e=0↔ccB m i u (i+1) v=true/\(ccC m (i+1) v (dep m (i+1))=true/\lieB m (bkR m (i+1) v (dep m (i+1)))=true)/\e+homeE m (i+1) (dep m (i+1))<=m.battery/\t+homeT m (i+1) (dep m (i+1))<=m.deadline:=by
 unfold kpsE hwE;cases ccB m i u (i+1) v <;> cases ccC m (i+1) v (dep m (i+1)) <;> cases lieB m (bkR m (i+1) v (dep m (i+1))) <;> simp;by_cases h1:m.battery<e+homeE m (i+1) (dep m (i+1))
 ·rw [if_pos h1];exact⟨fun h=>by omega,fun h=>by omega⟩
 ·rw [if_neg h1]
  by_cases h2:m.deadline<t+homeT m (i+1) (dep m (i+1))
  ·rw [if_pos h2];exact⟨fun h=>by omega,fun h=>by omega⟩
  ·rw [if_neg h2];exact⟨fun _=>by omega,fun _=>rfl⟩
section
variable (m:Msn) (R:List (List Pt)) (b d s:Int)
end
section
attribute [local irreducible] wpQuiet
open Go.RowKit
theorem bef_bd {m:Msn} (V:VMsn m) {c:Crt} (hal:∀ j,j<c.psg.length->okP c j=true) {k:Nat} (hk:k<c.psg.length) (hk1:k<m.ways.length):(0<=befT m c k/\befT m c k<=1000000000000)/\0<=befE m c k/\befE m c k<=1000000000000:=by
 unfold befT befE;by_cases h0:k=0
 ·simp [h0]
 rw [if_neg h0,if_neg h0];obtain⟨-,-,-,r3,r4,-⟩:=Z3k (hal (k-1) (by omega))
 obtain⟨-,-,-,-,g1,g2,g3,g4,-⟩:=ZO (Z06 V.ways (j:=k) hk1);have hid0:=V.idle;have hmul:=Int.mul_nonneg hid0.1 g3;have hmul2:m.idle*(wy m.ways k).wait<=1000*100000:=Int.mul_le_mul hid0.2 g4 g3 (by omega)
 split <;> omega
theorem Z65 (m : Msn) (vw vh vr : Value) (c : Crt) (vs vp ve : Value) (w : World) (hm : MsnAt w.heap.size w m vw vh vr) (hc : CrtAt w.heap.size w c vs vp ve) :
  Calls Tryz.prog 15 #[.agg (Zc m vw vh vr),.agg #[vs,vp,ve]] w fun e w'=>e=.returned (.tuple #[.bool (chkB m c),O qL (chkE m c)])/\Below w.heap.size w w':=by
 have ff:=fun w1 (B:Below w.heap.size w w1)=>Z8v m vw vh vr c vs vp ve w1 ((hm.below B).mono B.size) ((hc.below B).mono B.size)
 have HC:chkB m c=(frmB m c && decide (∀ i,i<c.psg.length->lgB m c i=true)):=rfl;have HE:chkE m c=if frmB m c=true then 0 else 1:=rfl
 have hfs:=fun h=>Z5S (m:=m) (c:=c) h
 have fb:=fun w1 (B:Below w.heap.size w w1) hF i hi=>Z8K m vw vh vr c vs vp ve w1 ((hm.below B).mono B.size) ((hc.below B).mono B.size) hF i hi
 have fl:=fun w1 (B:Below w.heap.size w w1) (i j:Nat) hV hi hj=>Z3s (m:=m) (a:=i) (b:=j) hV hi hj ▸ Z2o m vw vh vr i j w1 ((hm.below B).mono B.size)
 have fc:=fun w1 (B:Below w.heap.size w w1) (i j:Nat)=>Z9d m vw vh vr i j w1 ((hm.below B).mono B.size)
 have fh:=fun w1 (B:Below w.heap.size w w1) hV k hk=>Z1Z m vw vh vr k w1 ((hm.below B).mono B.size) hV hk
 have g3:=fun w1 (B:Below w.heap.size w w1) bp bc bi bm u vs vp ar cr p l i hi hV hi1=>Zbw bp bc bi bm u vs vp ar cr p l i hi m vw vh vr w1 ((hm.below B).mono B.size) hV hi1
 have g4:=fun w1 (B:Below w.heap.size w w1) bm bi bp u p i hi1 n41=>Zbv bm bi bp u p i m vw vh vr w1 ((hm.below B).mono B.size) hi1 n41
 generalize chkB m c=cb at *;generalize chkE m c=ce at *;have hir:=hc.2.2;obtain⟨⟨-,a1,cap1,rfl,-⟩,⟨-,a2,cap2,rfl,-⟩,⟨-,a3,cap3,rfl,-⟩⟩:=hm;obtain⟨⟨-,aS,cS,rfl,-⟩,⟨-,ap,cp,rfl,hcp⟩,⟨-,ar,cr,rfl,-⟩⟩:=hc;unfold Zc at *;have HCP:=qH hcp;have HIR:=qH hir;replace ff:=qH ff;replace fb:=qH fb;replace fl:=qH fl;replace fc:=qH fc;replace fh:=qH fh;replace g3:=qH g3;replace g4:=qH g4;replace HC:=qH HC;replace HE:=qH HE;clear hcp hir;have BW:=qH (qK w.heap.size w);go_enter Tryz.func15,Tryz.ntmps15;go_wp2_with fail;generalize hXX0:qV (qV w _) _=X0;obtain⟨q0,q1,hA,hzX0⟩:=box2 hXX0;clear hXX0;have BW:=qH hA;clear hA;have MB:=qH q0;clear q0;have CB:=qH q1;clear q1 hzX0;obtain⟨c0,c1,c2,c3,c4,c5,c6,c7,c8,c9,c10⟩:=Zg (m:=m) MB.out;have hcb:=CB.out;have e0:=hcb.cell (i:=0) rfl;have e1:=hcb.cell (i:=1) rfl;have e2:=hcb.cell (i:=2) rfl;refine (ff.out _ BW.out).mono ?_;rintro e w1 ⟨rfl,b1⟩;replace BW:=zAf BW b1;have B_X0:=qH b1;clear b1 c0 c1 c2 c3 c4 c5 c6 c7 c8 c9 c10 hcb e0 e1 e2;obtain⟨c0,c1,c2,c3,c4,c5,c6,c7,c8,c9,c10⟩:=Zg (m:=m) (zCl MB B_X0);have hcb:=(zCl CB B_X0);have e0:=hcb.cell (i:=0) rfl;have e1:=hcb.cell (i:=1) rfl;have e2:=hcb.cell (i:=2) rfl;cases hF:frmB m c
 ·have HV:=qH (qI (show cb=false by rw [HC.out,hF];rfl) (show ce=1 by rw [HE.out,hF];rfl))
  go_wp2;go_ret2;exact⟨by rw [HV.out.1,HV.out.2];rfl,BW.out⟩
 have HCE:=qH (show ce=0 by rw [HE.out,hF];rfl)
 have HCB:=qH (show cb=decide (∀ i,i<c.psg.length->lgB m c i=true) by rw [HC.out,hF];rfl)
 obtain⟨hok,hl1,hl2,hal⟩:=hfs hF;obtain⟨hV,-⟩:=Z05 hok;have V:=(Zj m).1 hV;have n41:=V.n41;have gb:=qH (fun w1 B i hi=>fb.out w1 B hF i hi)
 have gl:=qH (fun w1 B i j hi hj=>fl.out w1 B i j hV hi hj)
 have gh:=qH (fun w1 B k hk=>fh.out w1 B hV k hk)
 have VV:=qH V;have HV0:=qH hV;have HL:=qH hl2;have HAL:=qH hal;obtain⟨n,hn⟩:∃ n,c.psg.length=n:=⟨_,rfl⟩;have hnw:n+1<=m.ways.length:=by have:=V.n2;omega
 have HN:=qH hn;clear hok hl1 hl2 hal hV V hF hfs HC HE ff fb fl fh;rw [hn] at e1;go_wp2;have hMB:=qH (zCl MB B_X0);have hCB:=qH (zCl CB B_X0);clear c0 c1 c2 c3 c4 c5 c6 c7 c8 c9 c10 hcb e0 e1 e2 hn
 go_loopw [31] (fun i wr=>∃ k:Nat,k<=n/\i=O qL k/\(∀ j,j<k->lgB m c j=true)/\Below w1.heap.size w1 wr) (fun i _=>n-(intOf i).toNat)
 case atStart=>exact⟨0,Nat.zero_le _,rfl,fun j h=>by omega,qK _ _⟩
 case round =>
  obtain⟨k,hk,rfl,hall,hB⟩:=hrel;obtain⟨wo,hwo⟩:∃ x,x=wr:=⟨_,rfl⟩;subst hwo;have HA:=qH hall;have BB:=qH hB;replace BW:=zAf BW hB;clear hall hB;by_cases hlt:k<n
  ·obtain⟨b,o,rfl,hb,hc⟩:=HCP.out.resolve_left (by intro h;have:=HN.out;rw [h] at this;simp at this;omega)
   obtain⟨u,x0,hu,x1,x2,x3,x4⟩:=hc k (by rw [HN.out];exact hlt)
   replace x0:=(BW.out.cell (p:=⟨b,o+k*5,none⟩) hb).trans x0;replace x1:=(BW.out.cell (p:=⟨b,o+k*5+1,none⟩) hb).trans x1;replace x2:=(BW.out.cell (p:=⟨b,o+k*5+2,none⟩) hb).trans x2;replace x3:=(BW.out.cell (p:=⟨b,o+k*5+3,none⟩) hb).trans x3;replace x4:=(BW.out.cell (p:=⟨b,o+k*5+4,none⟩) hb).trans x4;have HU:=qH ((hu.below BW.out).mono BW.out.size);obtain⟨au,cu,rfl⟩:=HU.out.len;obtain⟨hgv,r1,r2,r3,r4,r5⟩:=Z3k (HAL.out k (by rw [HN.out];exact hlt))
   have hk1:k+1<m.ways.length:=by omega
   have hno:=qH (fun h:lgB m c k=false=>show cb=false by
    rw [HCB.out,decide_eq_false_iff_not];intro h';rw [h' k (by rw [HN.out];exact hlt)] at h
    cases h)
   have hsp:Hid (lgB m c k=(lg1 m c k && (lg2 m c k && (lg3 m c k && lg4 m c k)))):=rfl;have hMO:=qH (zCl hMB BB);have hCO:=qH (zCl hCB BB);have gB:=qH (fun w1 B=>gb.out w1 B k (by rw [HN.out];exact hlt))
   have gL:=qH (fun w1 B=>gl.out w1 B k (k+1) (by omega) hk1)
   have gC:=fun w1 B=>fc.out w1 B k (k+1)
   have okl:=ZbJ HV0.out (a:=k) (b:=k+1) (by omega) hk1
   simp only [pT,pE,legE,okl,if_true,Int.toNat_natCast] at gC;clear okl;have gH:=qH (fun w1 B=>gh.out w1 B (k+1) hk1)
   have hte:=Z0T VV.out hk1 _ (qN (dep m (k+1)));have hgb:=Z00 VV.out.leg VV.out.ways (i:=k) (j:=k+1) (by omega) hk1
   have heb:=Z3C VV.out (i:=k) (j:=k+1) (by omega) hk1
   have hbf:=bef_bd VV.out HAL.out (k:=k) (by rw [HN.out];exact hlt) (by omega)
   have htb:=Z35 VV.out.leg VV.out.ways (i:=k) (j:=k+1) (by omega) hk1
   have L1:Hid (lg1 m c k=(decide (befR m c k<=(pgd c.psg k).fr) && decide ((pgd c.psg k).fr+gLeg m k (k+1)<=(pgd c.psg k).tw))):=rfl;have L2:Hid (lg2 m c k=(decide (befT m c k+tLeg m k (k+1)<=(pgd c.psg k).tm) && (decide (befE m c k+eLeg m k (k+1)<=(pgd c.psg k).en) && decide (homeE m (k+1) (dep m (k+1))<=c.ret.getD k 0)))):=rfl;have L3:Hid (lg3 m c k=(decide ((pgd c.psg k).en+c.ret.getD k 0<=m.battery) && decide (kpsE m k (pgd c.psg k).fr (pgd c.psg k).tw (pgd c.psg k).tm (pgd c.psg k).en=0))):=rfl;have L4:Hid (lg4 m c k=(decide (corE (atW m k) (pgd c.psg k).fr (atW m (k+1)) (pgd c.psg k).tw=0) && (withinB (corL (atW m k) (pgd c.psg k).fr (atW m (k+1)) (pgd c.psg k).tw) (pgd c.psg k).cor && !firB (pgd c.psg k).cor m.rocks))):=rfl;generalize lg1 m c k=l1 at *;generalize lg2 m c k=l2 at *;generalize lg3 m c k=l3 at *;generalize lg4 m c k=l4 at *;generalize befR m c k=bR at *;generalize befT m c k=bT at *;generalize befE m c k=bE at *;generalize gLeg m k (k+1)=lg at *;generalize tLeg m k (k+1)=lt at *;generalize dLeg m k (k+1)=ld at *;generalize eLeg m k (k+1)=le at *;generalize homeT m (k+1) (dep m (k+1))=hT at *;generalize homeE m (k+1) (dep m (k+1))=hE at *;have hir:Hid (k<c.ret.length):=by show k<c.ret.length;have:=HL.out;omega
   have R5:=qH r5;have HP:=qH hte;generalize pgd c.psg k=p at *;clear hgv r5 hte hc hu;replace gC:=qH gC;have dk:decide ((k:Int)<(n:Int))=true:=zTq;have kl:(k:Int)<(n:Int):=by omega
   have k0:(0:Int)<=(k:Int):=by omega
   have jw:qW qL ((k:Int)+1)=((k+1:Nat):Int):=by rw [show (k:Int)+1=((k+1:Nat):Int) by omega];exact zW2
   have BR:=qH (qK wo.heap.size wo);go_upto_region 6 with fail
   clear x0 x1 x2 x3 x4;generalize hXY0:qV (qV wo _) _=Y0;obtain⟨q0,q1,hA,hzY0⟩:=box2 hXY0;clear hXY0;replace BW:=zAf BW hA;have BR:=qH hA;clear hA;have IB:=qH q0;clear q0;have PB:=qH q1;clear q1;obtain⟨c0,c1,c2,c3,c4,c5,c6,c7,c8,c9,c10⟩:=Zg (m:=m) (zCl hMO BR);have hcb:=(zCl hCO BR);have e0:=hcb.cell (i:=0) rfl;have e1:=hcb.cell (i:=1) rfl;have e2:=hcb.cell (i:=2) rfl;have i0:=IB.out.cell (i:=0) rfl;go_wp2_with fail;refine (gB.out _ BW.out).mono ?_;rintro e w2 ⟨rfl,b2⟩;replace BW:=zAf BW b2;replace BR:=zAf BR b2;have B_Y0:=qH b2;clear b2 c0 c1 c2 c3 c4 c5 c6 c7 c8 c9 c10 hcb e0 e1 e2 i0;obtain⟨c0,c1,c2,c3,c4,c5,c6,c7,c8,c9,c10⟩:=Zg (m:=m) (zCl hMO BR);have hcb:=(zCl hCO BR);have e0:=hcb.cell (i:=0) rfl;have e1:=hcb.cell (i:=1) rfl;have e2:=hcb.cell (i:=2) rfl;have i0:=(zCl IB B_Y0).cell (i:=0) rfl;clear c0 c1 c2 c3 c4 c5 c6 c7 c8 c9 c10 hcb e0 e1 e2 i0;go_upto_region 7 with fail
   generalize hXY1:qV (qV (qV w2 _) _) _=Y1;obtain⟨q0,q1,q2,hA,hzY1⟩:=box3 hXY1;clear hXY1;replace BW:=zAf BW hA;replace BR:=zAf BR hA;replace B_Y0:=zAf B_Y0 hA;clear hA;have FB:=qH q0;clear q0;have TB:=qH q1;clear q1;have EB:=qH q2;clear q2;obtain⟨c0,c1,c2,c3,c4,c5,c6,c7,c8,c9,c10⟩:=Zg (m:=m) (zCl hMO BR);have i0:=(zCl IB B_Y0).cell (i:=0) rfl;go_wp2_with fail;refine (gL.out _ BW.out).mono ?_;rintro e w3 ⟨rfl,b3⟩;replace BW:=zAf BW b3;replace BR:=zAf BR b3;replace B_Y0:=zAf B_Y0 b3;have B_Y1:=qH b3;clear b3 c0 c1 c2 c3 c4 c5 c6 c7 c8 c9 c10 i0;obtain⟨c0,c1,c2,c3,c4,c5,c6,c7,c8,c9,c10⟩:=Zg (m:=m) (zCl hMO BR);have i0:=(zCl IB B_Y0).cell (i:=0) rfl;clear c0 c1 c2 c3 c4 c5 c6 c7 c8 c9 c10 i0;go_upto_region 8 with fail
   generalize hXY2:qV w3 _=Y2;obtain⟨q0,hA,hzY2⟩:=box1 hXY2;clear hXY2;replace BW:=zAf BW hA;replace BR:=zAf BR hA;replace B_Y0:=zAf B_Y0 hA;replace B_Y1:=zAf B_Y1 hA;clear hA;have GB:=qH q0;clear q0;obtain⟨c0,c1,c2,c3,c4,c5,c6,c7,c8,c9,c10⟩:=Zg (m:=m) (zCl hMO BR);have i0:=(zCl IB B_Y0).cell (i:=0) rfl;go_wp2_with fail;refine (gC.out _ BW.out).mono ?_;rintro e w4 ⟨rfl,b4⟩;replace BW:=zAf BW b4;replace BR:=zAf BR b4;replace B_Y0:=zAf B_Y0 b4;replace B_Y1:=zAf B_Y1 b4;have B_Y2:=qH b4;clear b4 c0 c1 c2 c3 c4 c5 c6 c7 c8 c9 c10 i0;obtain⟨c0,c1,c2,c3,c4,c5,c6,c7,c8,c9,c10⟩:=Zg (m:=m) (zCl hMO BR);have i0:=(zCl IB B_Y0).cell (i:=0) rfl;clear c0 c1 c2 c3 c4 c5 c6 c7 c8 c9 c10 i0;go_upto_region 9 with fail
   generalize hXY3:qV (qV w4 _) _=Y3;obtain⟨q0,q1,hA,hzY3⟩:=box2 hXY3;clear hXY3;replace BW:=zAf BW hA;replace BR:=zAf BR hA;replace B_Y0:=zAf B_Y0 hA;replace B_Y1:=zAf B_Y1 hA;replace B_Y2:=zAf B_Y2 hA;clear hA;have AB:=qH q0;clear q0;have KB:=qH q1;clear q1;obtain⟨c0,c1,c2,c3,c4,c5,c6,c7,c8,c9,c10⟩:=Zg (m:=m) (zCl hMO BR);have i0:=(zCl IB B_Y0).cell (i:=0) rfl;go_wp2_with fail;refine (gH.out _ BW.out).mono ?_;rintro e w5 ⟨rfl,b5⟩;replace BW:=zAf BW b5;replace BR:=zAf BR b5;replace B_Y0:=zAf B_Y0 b5;replace B_Y1:=zAf B_Y1 b5;replace B_Y2:=zAf B_Y2 b5;have B_Y3:=qH b5;clear b5 c0 c1 c2 c3 c4 c5 c6 c7 c8 c9 c10 i0;obtain⟨c0,c1,c2,c3,c4,c5,c6,c7,c8,c9,c10⟩:=Zg (m:=m) (zCl hMO BR);have i0:=(zCl IB B_Y0).cell (i:=0) rfl;clear c0 c1 c2 c3 c4 c5 c6 c7 c8 c9 c10 i0;go_upto_region 10 with fail
   generalize hXY4:qV w5 _=Y4;obtain⟨q0,hA,hzY4⟩:=box1 hXY4;clear hXY4;replace BW:=zAf BW hA;replace BR:=zAf BR hA;replace B_Y0:=zAf B_Y0 hA;replace B_Y1:=zAf B_Y1 hA;replace B_Y2:=zAf B_Y2 hA;replace B_Y3:=zAf B_Y3 hA;clear hA;have HB:=qH q0;clear q0;go_wp2;generalize hXY5:qV Y4 _=Y5;obtain⟨q0,hA,hzY5⟩:=box1 hXY5;clear hXY5;replace BW:=zAf BW hA;replace BR:=zAf BR hA;replace B_Y0:=zAf B_Y0 hA;replace B_Y1:=zAf B_Y1 hA;replace B_Y2:=zAf B_Y2 hA;replace B_Y3:=zAf B_Y3 hA;have B_Y4:=qH hA;clear hA;have SL:=qH q0;clear q0;refine wp_loop_rounds 5 ?_;replace SL:=SL.out;rw [hzY4] at SL;replace SL:=qH SL;have s0:Y5.cell? ⟨w5.heap.size+1,0,none⟩=some (.func (.func 48) #[] #[qP (some ⟨wo.heap.size+1,0,none⟩),qP (some ⟨w2.heap.size,0,none⟩),qP (some ⟨w3.heap.size,0,none⟩)]):=SL.out.cell (i:=0) rfl;have s1:Y5.cell? ⟨w5.heap.size+1,1,none⟩=some (.func (.func 49) #[] #[qP (some ⟨wo.heap.size+1,0,none⟩),qP (some ⟨w2.heap.size+1,0,none⟩),qP (some ⟨w4.heap.size,0,none⟩),qP (some ⟨w2.heap.size+1+1,0,none⟩),qP (some ⟨w4.heap.size+1,0,none⟩),qP (some ⟨w.heap.size+1,0,none⟩),qP (some ⟨wo.heap.size,0,none⟩),qP (some ⟨w5.heap.size,0,none⟩)]):=SL.out.cell (i:=1) rfl;have s2:Y5.cell? ⟨w5.heap.size+1,2,none⟩=some (.func (.func 50) #[] #[qP (some ⟨wo.heap.size+1,0,none⟩),qP (some ⟨w.heap.size+1,0,none⟩),qP (some ⟨wo.heap.size,0,none⟩),qP (some ⟨w.heap.size,0,none⟩)]):=SL.out.cell (i:=2) rfl;have s3:Y5.cell? ⟨w5.heap.size+1,3,none⟩=some (.func (.func 51) #[] #[qP (some ⟨w.heap.size,0,none⟩),qP (some ⟨wo.heap.size,0,none⟩),qP (some ⟨wo.heap.size+1,0,none⟩)]):=SL.out.cell (i:=3) rfl;have ltSL:=SL.out.lt;rw [rounds_succ];go_wp2_with fail;have gg:=Zby _ _ _ _ p bR lg Y5 (zCl PB B_Y0) (zCl FB B_Y1) (zCl GB B_Y2) r1 hgb;rw [<- L1.out] at gg;replace gg:=qH gg;refine (gg.out).mono ?_;rintro e w6 ⟨rfl,b6⟩;replace BW:=zAf BW b6;replace BR:=zAf BR b6;replace B_Y0:=zAf B_Y0 b6;replace B_Y1:=zAf B_Y1 b6;replace B_Y2:=zAf B_Y2 b6;replace B_Y3:=zAf B_Y3 b6;replace B_Y4:=zAf B_Y4 b6;have B_Y5:=qH b6;clear b6 gg s0 s1 s2 s3 ltSL;have s0:w6.cell? ⟨w5.heap.size+1,0,none⟩=some (.func (.func 48) #[] #[qP (some ⟨wo.heap.size+1,0,none⟩),qP (some ⟨w2.heap.size,0,none⟩),qP (some ⟨w3.heap.size,0,none⟩)]):=(zCl SL B_Y5).cell (i:=0) rfl;have s1:w6.cell? ⟨w5.heap.size+1,1,none⟩=some (.func (.func 49) #[] #[qP (some ⟨wo.heap.size+1,0,none⟩),qP (some ⟨w2.heap.size+1,0,none⟩),qP (some ⟨w4.heap.size,0,none⟩),qP (some ⟨w2.heap.size+1+1,0,none⟩),qP (some ⟨w4.heap.size+1,0,none⟩),qP (some ⟨w.heap.size+1,0,none⟩),qP (some ⟨wo.heap.size,0,none⟩),qP (some ⟨w5.heap.size,0,none⟩)]):=(zCl SL B_Y5).cell (i:=1) rfl;have s2:w6.cell? ⟨w5.heap.size+1,2,none⟩=some (.func (.func 50) #[] #[qP (some ⟨wo.heap.size+1,0,none⟩),qP (some ⟨w.heap.size+1,0,none⟩),qP (some ⟨wo.heap.size,0,none⟩),qP (some ⟨w.heap.size,0,none⟩)]):=(zCl SL B_Y5).cell (i:=2) rfl;have s3:w6.cell? ⟨w5.heap.size+1,3,none⟩=some (.func (.func 51) #[] #[qP (some ⟨w.heap.size,0,none⟩),qP (some ⟨wo.heap.size,0,none⟩),qP (some ⟨wo.heap.size+1,0,none⟩)]):=(zCl SL B_Y5).cell (i:=3) rfl;have ltSL:=(zCl SL B_Y5).lt;cases l1
   ·have HV:=qH (hno.out (by rw [hsp.out];rfl))
    go_wp2;go_ret2;exact⟨by rw [HV.out,HCE.out];rfl,BW.out⟩
   go_wp2;rw [rounds_succ];go_wp2_with fail;have gg:=Zbx _ _ _ _ _ _ _ _ _ _ _ _ _ p c.ret k hir.out bT lt bE le hE w6 (zCl PB B_Y0) (zCl TB B_Y1) (zCl AB B_Y3) (zCl EB B_Y1) (zCl KB B_Y3) (zCl hCO BR) (zCl IB B_Y0) (zCl HB B_Y4) ((HIR.out.below BW.out).mono BW.out.size) hbf.1 ⟨htb.1,by omega⟩ hbf.2 ⟨heb.2.2.2.2.1,by omega⟩
   rw [<- L2.out] at gg;replace gg:=qH gg;refine (gg.out).mono ?_;rintro e w7 ⟨rfl,b7⟩;replace BW:=zAf BW b7;replace BR:=zAf BR b7;replace B_Y0:=zAf B_Y0 b7;replace B_Y1:=zAf B_Y1 b7;replace B_Y2:=zAf B_Y2 b7;replace B_Y3:=zAf B_Y3 b7;replace B_Y4:=zAf B_Y4 b7;replace B_Y5:=zAf B_Y5 b7;clear b7 gg s0 s1 s2 s3 ltSL;have s0:w7.cell? ⟨w5.heap.size+1,0,none⟩=some (.func (.func 48) #[] #[qP (some ⟨wo.heap.size+1,0,none⟩),qP (some ⟨w2.heap.size,0,none⟩),qP (some ⟨w3.heap.size,0,none⟩)]):=(zCl SL B_Y5).cell (i:=0) rfl;have s1:w7.cell? ⟨w5.heap.size+1,1,none⟩=some (.func (.func 49) #[] #[qP (some ⟨wo.heap.size+1,0,none⟩),qP (some ⟨w2.heap.size+1,0,none⟩),qP (some ⟨w4.heap.size,0,none⟩),qP (some ⟨w2.heap.size+1+1,0,none⟩),qP (some ⟨w4.heap.size+1,0,none⟩),qP (some ⟨w.heap.size+1,0,none⟩),qP (some ⟨wo.heap.size,0,none⟩),qP (some ⟨w5.heap.size,0,none⟩)]):=(zCl SL B_Y5).cell (i:=1) rfl;have s2:w7.cell? ⟨w5.heap.size+1,2,none⟩=some (.func (.func 50) #[] #[qP (some ⟨wo.heap.size+1,0,none⟩),qP (some ⟨w.heap.size+1,0,none⟩),qP (some ⟨wo.heap.size,0,none⟩),qP (some ⟨w.heap.size,0,none⟩)]):=(zCl SL B_Y5).cell (i:=2) rfl;have s3:w7.cell? ⟨w5.heap.size+1,3,none⟩=some (.func (.func 51) #[] #[qP (some ⟨w.heap.size,0,none⟩),qP (some ⟨wo.heap.size,0,none⟩),qP (some ⟨wo.heap.size+1,0,none⟩)]):=(zCl SL B_Y5).cell (i:=3) rfl;have ltSL:=(zCl SL B_Y5).lt;cases l2
   ·have HV:=qH (hno.out (by rw [hsp.out];rfl))
    go_wp2;go_ret2;exact⟨by rw [HV.out,HCE.out];rfl,BW.out⟩
   go_wp2;rw [rounds_succ];go_wp2_with fail;have gg:=g3.out w7 BW.out _ _ _ _ _ _ _ _ _ p c.ret k hir.out HV0.out hk1 (zCl PB B_Y0) (zCl hCO BR) (zCl IB B_Y0) (zCl hMO BR) ((HIR.out.below BW.out).mono BW.out.size) r3 r4 R5.out;rw [<- L3.out] at gg;replace gg:=qH gg;refine (gg.out).mono ?_;rintro e w8 ⟨rfl,b8⟩;replace BW:=zAf BW b8;replace BR:=zAf BR b8;replace B_Y0:=zAf B_Y0 b8;replace B_Y1:=zAf B_Y1 b8;replace B_Y2:=zAf B_Y2 b8;replace B_Y3:=zAf B_Y3 b8;replace B_Y4:=zAf B_Y4 b8;replace B_Y5:=zAf B_Y5 b8;clear b8 gg s0 s1 s2 s3 ltSL;have s0:w8.cell? ⟨w5.heap.size+1,0,none⟩=some (.func (.func 48) #[] #[qP (some ⟨wo.heap.size+1,0,none⟩),qP (some ⟨w2.heap.size,0,none⟩),qP (some ⟨w3.heap.size,0,none⟩)]):=(zCl SL B_Y5).cell (i:=0) rfl;have s1:w8.cell? ⟨w5.heap.size+1,1,none⟩=some (.func (.func 49) #[] #[qP (some ⟨wo.heap.size+1,0,none⟩),qP (some ⟨w2.heap.size+1,0,none⟩),qP (some ⟨w4.heap.size,0,none⟩),qP (some ⟨w2.heap.size+1+1,0,none⟩),qP (some ⟨w4.heap.size+1,0,none⟩),qP (some ⟨w.heap.size+1,0,none⟩),qP (some ⟨wo.heap.size,0,none⟩),qP (some ⟨w5.heap.size,0,none⟩)]):=(zCl SL B_Y5).cell (i:=1) rfl;have s2:w8.cell? ⟨w5.heap.size+1,2,none⟩=some (.func (.func 50) #[] #[qP (some ⟨wo.heap.size+1,0,none⟩),qP (some ⟨w.heap.size+1,0,none⟩),qP (some ⟨wo.heap.size,0,none⟩),qP (some ⟨w.heap.size,0,none⟩)]):=(zCl SL B_Y5).cell (i:=2) rfl;have s3:w8.cell? ⟨w5.heap.size+1,3,none⟩=some (.func (.func 51) #[] #[qP (some ⟨w.heap.size,0,none⟩),qP (some ⟨wo.heap.size,0,none⟩),qP (some ⟨wo.heap.size+1,0,none⟩)]):=(zCl SL B_Y5).cell (i:=3) rfl;have ltSL:=(zCl SL B_Y5).lt;cases l3
   ·have HV:=qH (hno.out (by rw [hsp.out];rfl))
    go_wp2;go_ret2;exact⟨by rw [HV.out,HCE.out];rfl,BW.out⟩
   go_wp2;rw [rounds_succ];go_wp2_with fail;have gg:=g4.out w8 BW.out _ _ _ _ p k hk1 n41 (zCl PB B_Y0) (zCl IB B_Y0) (zCl hMO BR) ((HU.out.below BR.out).mono BR.out.size);rw [<- L4.out] at gg;replace gg:=qH gg;refine (gg.out).mono ?_;rintro e w9 ⟨rfl,b9⟩;replace BW:=zAf BW b9;replace BR:=zAf BR b9;replace B_Y0:=zAf B_Y0 b9;replace B_Y1:=zAf B_Y1 b9;replace B_Y2:=zAf B_Y2 b9;replace B_Y3:=zAf B_Y3 b9;replace B_Y4:=zAf B_Y4 b9;replace B_Y5:=zAf B_Y5 b9;clear b9 gg s0 s1 s2 s3 ltSL;have s0:w9.cell? ⟨w5.heap.size+1,0,none⟩=some (.func (.func 48) #[] #[qP (some ⟨wo.heap.size+1,0,none⟩),qP (some ⟨w2.heap.size,0,none⟩),qP (some ⟨w3.heap.size,0,none⟩)]):=(zCl SL B_Y5).cell (i:=0) rfl;have s1:w9.cell? ⟨w5.heap.size+1,1,none⟩=some (.func (.func 49) #[] #[qP (some ⟨wo.heap.size+1,0,none⟩),qP (some ⟨w2.heap.size+1,0,none⟩),qP (some ⟨w4.heap.size,0,none⟩),qP (some ⟨w2.heap.size+1+1,0,none⟩),qP (some ⟨w4.heap.size+1,0,none⟩),qP (some ⟨w.heap.size+1,0,none⟩),qP (some ⟨wo.heap.size,0,none⟩),qP (some ⟨w5.heap.size,0,none⟩)]):=(zCl SL B_Y5).cell (i:=1) rfl;have s2:w9.cell? ⟨w5.heap.size+1,2,none⟩=some (.func (.func 50) #[] #[qP (some ⟨wo.heap.size+1,0,none⟩),qP (some ⟨w.heap.size+1,0,none⟩),qP (some ⟨wo.heap.size,0,none⟩),qP (some ⟨w.heap.size,0,none⟩)]):=(zCl SL B_Y5).cell (i:=2) rfl;have s3:w9.cell? ⟨w5.heap.size+1,3,none⟩=some (.func (.func 51) #[] #[qP (some ⟨w.heap.size,0,none⟩),qP (some ⟨wo.heap.size,0,none⟩),qP (some ⟨wo.heap.size+1,0,none⟩)]):=(zCl SL B_Y5).cell (i:=3) rfl;have ltSL:=(zCl SL B_Y5).lt;cases l4
   ·have HV:=qH (hno.out (by rw [hsp.out];rfl))
    go_wp2;go_ret2;exact⟨by rw [HV.out,HCE.out];rfl,BW.out⟩
   go_wp2;clear s0 s1 s2 s3 ltSL;rw [rounds_succ];go_wp2;have HV:=qH (show lgB m c k=true by rw [hsp.out];rfl)
   go_roundw
   case rel =>
    refine⟨k+1,by omega,by go_num,fun j hj=>?_,BB.out.trans (BR.out.mono BB.out.size)⟩
    by_cases e:j=k
    ·rw [e];exact HV.out
    ·exact HA.out j (by omega)
   case measure=>simp [intOf];omega
  obtain rfl:k=n:=by omega
  have jj:decide ((k:Int)<(k:Int))=false:=by simp
  have HV:=qH (show cb=true by rw [HCB.out,decide_eq_true_eq,HN.out];exact HA.out)
  go_wp2;go_ret2;exact⟨by rw [HV.out,HCE.out];rfl,BW.out⟩
end
end Go.Proofs.YthipcinibldgnaaGreat
