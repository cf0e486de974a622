/- package cert: isClear. | package cert: home. | package cert: keeps. | package cert: the closures of Check. | Certificates: what stays right with fe .. -/
import Derived.Test.YtpimbaaahcemhaaGreatBin35
import Derived.Test.YtpimbaaahcemhaaGreatBin34
set_option linter.unusedSimpArgs false
set_option linter.unusedVariables false
set_option maxRecDepth 8000
set_option maxHeartbeats 6400000
namespace Go.Proofs.YtpimbaaahcemhaaGreat
section
attribute [local irreducible] wpQuiet
open Go.RowKit
theorem Z3w (m:Msn) (vw vh vr:Value) (w:World) (hm:MsnAt w.heap.size w m vw vh vr) (V:VMsn m) (a b:Nat) (u v:Int) (ha:a<m.ways.length) (hb:b<m.ways.length) :
  Calls Tryz.prog 78 #[.agg (Zd m vw vh vr),.int .i64 a,.int .i64 u,.int .i64 b,.int .i64 v] w fun e w'=>e=.returned (.bool (ccB m a u b v))∧Below w.heap.size w w':=by
 have n41:=V.n41;have hfe:=fun h=>ZaK V (a:=a) (b:=b) (u:=u) (v:=v) h
 unfold atW at hfe;have f1:=fun w1=>Z1k ⟨(wy m.ways a).x,(wy m.ways a).y⟩ ⟨(wy m.ways b).x,(wy m.ways b).y⟩ u v w1
 have f2:=fun vc w1 (B:Below w.heap.size w w1) h=>Z5R vc vr (corL ⟨(wy m.ways a).x,(wy m.ways a).y⟩ u ⟨(wy m.ways b).x,(wy m.ways b).y⟩ v) m.rocks w1 h (((hm.2.2).below B).mono B.size)
 unfold ccB clrB atW;obtain⟨⟨-,a1,c1,rfl,hcw⟩,⟨-,a2,c2,rfl,-⟩,⟨-,a3,c3,rfl,-⟩⟩:=hm;obtain⟨bw,ow,rfl,hbw,hcw⟩:=hcw.resolve_left (by intro h;rw [h] at ha;simp at ha)
 obtain⟨x1,x2,-⟩:=hcw a ha;obtain⟨x3,x4,-⟩:=hcw b hb;clear hcw V;unfold Zd at *;generalize corL ⟨(wy m.ways a).x,(wy m.ways a).y⟩ u ⟨(wy m.ways b).x,(wy m.ways b).y⟩ v=cl at *;obtain⟨ce,hce⟩:∃ x,corE ⟨(wy m.ways a).x,(wy m.ways a).y⟩ u ⟨(wy m.ways b).x,(wy m.ways b).y⟩ v=x:=⟨_,rfl⟩;simp only [hce] at f1 hfe ⊢;clear hce;obtain⟨px,h1⟩:∃ x,(wy m.ways a).x=x:=⟨_,rfl⟩;obtain⟨py,h2⟩:∃ x,(wy m.ways a).y=x:=⟨_,rfl⟩;obtain⟨qx,h3⟩:∃ x,(wy m.ways b).x=x:=⟨_,rfl⟩;obtain⟨qy,h4⟩:∃ x,(wy m.ways b).y=x:=⟨_,rfl⟩;rw [h1,h2,h3,h4] at f1;rw [h1] at x1;rw [h2] at x2;rw [h3] at x3;rw [h4] at x4;clear h1 h2 h3 h4;generalize firB cl m.rocks=fb at *;generalize firI cl m.rocks=fi at *;generalize firE cl m.rocks=fe at *;replace f1:=Lib.hid f1;replace f2:=Lib.hid f2;replace hfe:=Lib.hid hfe;have ha':(a:Int)<m.ways.length:=by omega
 have hb':(b:Int)<m.ways.length:=by omega
 have ha0:(0:Int)≤a:=by omega
 have hb0:(0:Int)≤b:=by omega
 have BW:=Lib.hid (Below.refl w.heap.size w);go_enter Tryz.func78,Tryz.ntmps78;go_upto_region 1 with fail
 generalize hXX0:World.alloc w _=X0;obtain⟨q0,hA,hzX0⟩:=box1 hXX0;clear hXX0;have BW:=Lib.hid hA;clear hA;have RB:=Lib.hid q0;clear q0;replace x1:=(BW.out.cell (p:=⟨bw,ow+a*5,none⟩) hbw).trans x1;replace x2:=(BW.out.cell (p:=⟨bw,ow+a*5+1,none⟩) hbw).trans x2;replace x3:=(BW.out.cell (p:=⟨bw,ow+b*5,none⟩) hbw).trans x3;replace x4:=(BW.out.cell (p:=⟨bw,ow+b*5+1,none⟩) hbw).trans x4;have x0:X0.cell? ⟨w.heap.size,0,none⟩=some (.slice (some ⟨bw,ow,none⟩) m.ways.length (m.ways.length+c1)):=RB.out.cell (i:=0) rfl;refine (wpIn_wide (n:=9)).1 ?_;refine Zj (Zt _) 19 (fun X=>Below X0.heap.size X0 X) (by kernel_rfl) (by kernel_rfl) (by kernel_rfl) fun hH inv0=>?_
 have hD:=Below.drew (Below.refl X0.heap.size X0);generalize hXX1:X0.drew=X1 at *;clear hXX1;replace BW:=zAg BW hD;have B_X0:=Lib.hid hD;clear hD;refine sk hH (i:=0) (v:=.pointer (some ⟨w.heap.size,0,none⟩)) (Ze rfl) inv0 (fun X hX=>?_) fun inv1=>?_
 ·go_simp
 simp only [Act.put,zq5,zr5,zs5];clear inv0;refine sk hH (i:=1) (v:=.slice (some ⟨bw,ow,none⟩) m.ways.length (m.ways.length+c1)) (Ze rfl) inv1 (fun X hX=>?_) fun inv2=>?_
 ·have r0:=(hX.cell (p:=⟨w.heap.size,0,none⟩) (World.block_lt_of_cell? _ _ x0)).trans x0;go_simp
 simp only [Act.put,zq5,zr5,zs5];clear inv1;refine sk hH (i:=2) (v:=.int .i64 (a:Int)) (Ze rfl) inv2 (fun X hX=>?_) fun inv3=>?_
 ·go_simp
 simp only [Act.put,zq5,zr5,zs5];clear inv2;refine sk hH (i:=3) (v:=.pointer (some ⟨bw,ow+a*5,none⟩)) (Ze rfl) inv3 (fun X hX=>?_) fun inv4=>?_
 ·go_simp
 simp only [Act.put,zq5,zr5,zs5];clear inv3;refine sk hH (i:=4) (v:=.pointer (some ⟨bw,ow+a*5,none⟩)) (Ze rfl) inv4 (fun X hX=>?_) fun inv5=>?_
 ·go_simp
 simp only [Act.put,zq5,zr5,zs5];clear inv4;refine sk hH (i:=5) (v:=.agg #[.int .i64 px,.int .i64 py]) (Ze rfl) inv5 (fun X hX=>?_) fun inv6=>?_
 ·have r0:=(hX.cell (p:=⟨bw,ow+a*5,none⟩) (World.block_lt_of_cell? _ _ x1)).trans x1;have r1:=(hX.cell (p:=⟨bw,ow+a*5+1,none⟩) (World.block_lt_of_cell? _ _ x2)).trans x2;go_simp
 simp only [Act.put,zq5,zr5,zs5];clear inv5;refine sk hH (i:=6) (v:=.int .i64 u) (Ze rfl) inv6 (fun X hX=>?_) fun inv7=>?_
 ·go_simp
 simp only [Act.put,zq5,zr5,zs5];clear inv6;refine sk hH (i:=7) (v:=.pointer (some ⟨w.heap.size,0,none⟩)) (Ze rfl) inv7 (fun X hX=>?_) fun inv8=>?_
 ·go_simp
 simp only [Act.put,zq5,zr5,zs5];clear inv7;refine sk hH (i:=8) (v:=.slice (some ⟨bw,ow,none⟩) m.ways.length (m.ways.length+c1)) (Ze rfl) inv8 (fun X hX=>?_) fun inv9=>?_
 ·have r0:=(hX.cell (p:=⟨w.heap.size,0,none⟩) (World.block_lt_of_cell? _ _ x0)).trans x0;go_simp
 simp only [Act.put,zq5,zr5,zs5];clear inv8;refine sk hH (i:=9) (v:=.int .i64 (b:Int)) (Ze rfl) inv9 (fun X hX=>?_) fun inv10=>?_
 ·go_simp
 simp only [Act.put,zq5,zr5,zs5];clear inv9;refine sk hH (i:=10) (v:=.pointer (some ⟨bw,ow+b*5,none⟩)) (Ze rfl) inv10 (fun X hX=>?_) fun inv11=>?_
 ·go_simp
 simp only [Act.put,zq5,zr5,zs5];clear inv10;refine sk hH (i:=11) (v:=.pointer (some ⟨bw,ow+b*5,none⟩)) (Ze rfl) inv11 (fun X hX=>?_) fun inv12=>?_
 ·go_simp
 simp only [Act.put,zq5,zr5,zs5];clear inv11;refine sk hH (i:=12) (v:=.agg #[.int .i64 qx,.int .i64 qy]) (Ze rfl) inv12 (fun X hX=>?_) fun inv13=>?_
 ·have r0:=(hX.cell (p:=⟨bw,ow+b*5,none⟩) (World.block_lt_of_cell? _ _ x3)).trans x3;have r1:=(hX.cell (p:=⟨bw,ow+b*5+1,none⟩) (World.block_lt_of_cell? _ _ x4)).trans x4;go_simp
 simp only [Act.put,zq5,zr5,zs5];clear inv12;refine sk hH (i:=13) (v:=.int .i64 v) (Ze rfl) inv13 (fun X hX=>?_) fun inv14=>?_
 ·go_simp
 simp only [Act.put,zq5,zr5,zs5];clear inv13;have inv15:=HeadInv.put2 inv14 (j:=14) (by kernel_rfl) (by omega)
 clear inv14;refine sa1 (r:=14) B_X0.out ?_;refine ZM (Ze rfl) rfl (f:=25) (args:=#[.agg #[.int .i64 px,.int .i64 py],.int .i64 u,.agg #[.int .i64 qx,.int .i64 qy],.int .i64 v]) (by go_simp) (f1.out X1) ?_
 rintro e w1 ⟨v1,rfl,p1,b1⟩;refine⟨_,rfl,?_⟩;simp only [Act.put,zq5,zr5,zs5];replace BW:=zAg BW b1;replace B_X0:=zAg B_X0 b1;clear b1;have P1:=Lib.hid p1;clear p1;refine sk hH (i:=15) (v:=.tuple #[v1,.int .i64 ce]) (Ze rfl) inv15 (fun X hX=>?_) fun inv16=>?_
 ·go_simp
 simp only [Act.put,zq5,zr5,zs5];clear inv15;refine sk hH (i:=16) (v:=v1) (Ze rfl) inv16 (fun X hX=>?_) fun inv17=>?_
 ·go_simp
 simp only [Act.put,zq5,zr5,zs5];clear inv16;refine sk hH (i:=17) (v:=.int .i64 ce) (Ze rfl) inv17 (fun X hX=>?_) fun inv18=>?_
 ·go_simp
 simp only [Act.put,zq5,zr5,zs5];clear inv17;refine sk hH (i:=18) (v:=v1) (Ze rfl) inv18 (fun X hX=>?_) fun inv19=>?_
 ·go_simp
 simp only [Act.put,zq5,zr5,zs5];clear inv18 inv19 hH;refine Zv (by kernel_rfl) B_X0.out ?_
 simp only [List.drop_succ_cons,List.drop_zero];obtain⟨g1,d1,hv1⟩:=P1.out.len;subst hv1;clear x0 x1 x2 x3 x4;have x3:w1.cell? ⟨w.heap.size,3,none⟩=some (.slice a3 m.rocks.length (m.rocks.length+c3)):=(zCw RB B_X0).cell (i:=3) rfl;gi_wp2;by_cases hc:ce=0
 ·have dc:(ce == 0)=true:=by rw [beq_iff_eq];exact hc
  obtain rfl:fe=0:=hfe.out hc;subst hc;go_wp2_with fail;refine (f2.out _ _ BW.out P1.out).mono ?_;rintro e w2 ⟨rfl,b2⟩;replace BW:=zAg BW b2;replace B_X0:=zAg B_X0 b2;have B_w1:=Lib.hid b2;clear b2;cases fb
  all_goals
   go_wp2;go_ret;exact⟨by simp,BW.out⟩
 ·have dc:(ce == 0)=false:=by rw [beq_eq_false_iff_ne];exact hc
  have db:decide (ce=0)=false:=by rw [decide_eq_false_iff_not];exact hc
  clear hfe;go_wp2;go_ret;exact⟨by rw [db];rfl,BW.out⟩
theorem Z9V (m : Msn) (vw vh vr : Value) (w : World) (hm : MsnAt w.heap.size w m vw vh vr) (hV : validB m = true) (a : Nat) (ha : a < m.ways.length) (ha0 : 0 < a) (r0 : Int) (hr0 : 0 ≤ r0 ∧ r0 ≤ 100000) :
  Calls Tryz.prog 79 #[.agg (Zd m vw vh vr),.int .i64 a,.int .i64 r0] w fun e w'=>e=endX (hwE m a r0)∧Below w.heap.size w w':=by
 have V:=(Zp m).1 hV;have n41:=V.n41;have fr:=fun w1 (B:Below w.heap.size w w1)=>Z5r m vw vh vr ((a:Nat):Int) w1 ((hm.below B).mono B.size)
 rw [(Z1U hV ha).1,(Z1U hV ha).2] at fr;have fl:=fun w1 (B:Below w.heap.size w w1) (i j:Nat) hi hj=>Z3q (m:=m) (a:=i) (b:=j) hV hi hj ▸ Z4U m vw vh vr i j w1 ((hm.below B).mono B.size)
 have fc:=fun w1 (B:Below w.heap.size w w1) (i j:Nat) u v hi hj=>Z3w m vw vh vr w1 ((hm.below B).mono B.size) V i j u v hi hj
 have fw:=fun vp p w1 (B:Below w.heap.size w w1) hp=>Z2k vp vh p m.home w1 hp ((hm.2.1.below B).mono B.size)
 have hlt:=fun j (hj:j≤dep m a)=>Z1f V.ways ha hj
 have hgb:=fun i j hi hj=>Z02 V.leg V.ways (i:=i) (j:=j) hi hj
 have hd:=Z2f V.ways ha;have hn1:1≤dep m a:=by
  have:=Z59 V.ways ha;rcases Nat.eq_zero_or_pos (dep m a) with e | e
  ·rw [e] at this;simp only [itB] at this;omega
  ·exact e
 have hle:=fun r h=>And.intro (Z9c V (r:=r) h) (lie_eq V (r:=r) h)
 have rb:=fun j h=>Zba (m:=m) (a:=a) hr0 j h
 have HH:hwE m a r0=if ccC m a r0 (dep m a)=false then 50 else if lieB m (bkR m a r0 (dep m a))=false then 52 else 0:=rfl
 have hlen:(intL (upto (itB m a) (dep m a+1))).length=dep m a+1:=by simp [intL,upto]
 have hdown:=fun j (hj:j≤dep m a) (h:ccC m a r0 j=false)=>show ccC m a r0 (dep m a)=false by
  cases h2:ccC m a r0 (dep m a)
  ·rfl
  ·rw [Z5f _ j hj h2] at h;cases h
 have h0:0<m.ways.length:=by omega
 obtain⟨⟨-,a1,cap1,rfl,hcw⟩,⟨-,a2,cap2,rfl,-⟩,⟨-,a3,cap3,rfl,-⟩⟩:=hm;obtain⟨bw,ow,rfl,hbw,hcw⟩:=hcw.resolve_left (by intro h;rw [h] at ha;simp at ha)
 have HCW:=Lib.hid (hcw 0 h0);clear hcw;obtain⟨n,hn⟩:∃ n,dep m a=n:=⟨_,rfl⟩;simp only [hn] at hlt hd HH hlen hdown fr hn1;unfold Zd at *;replace fr:=Lib.hid fr;replace fl:=Lib.hid fl;replace fc:=Lib.hid fc;replace fw:=Lib.hid fw;replace hlt:=Lib.hid hlt;replace hgb:=Lib.hid hgb;replace hle:=Lib.hid hle;replace rb:=Lib.hid rb;replace HH:=Lib.hid HH;replace hlen:=Lib.hid hlen;replace hdown:=Lib.hid hdown;clear V hV hn;have BW:=Lib.hid (Below.refl w.heap.size w);go_enter Tryz.func79,Tryz.ntmps79;go_wp2_with fail;generalize hXX0:World.alloc w _=X0;obtain⟨q0,hA,hzX0⟩:=box1 hXX0;clear hXX0;have BW:=Lib.hid hA;clear hA;have MB:=Lib.hid q0;clear q0 hzX0;obtain⟨c0,c1,c2,c3,c4,c5,c6,c7,c8,c9,c10⟩:=Zi (m:=m) MB.out;refine (fr.out _ BW.out).mono ?_;rintro e w1 ⟨v1,rfl,p1,b1⟩;replace BW:=zAg BW b1;have B_X0:=Lib.hid b1;clear b1;obtain⟨b3,o3,e3,hv1,hb3,hc3⟩:=Z2s p1 hlen.out;subst hv1;have RO:=Lib.hid hc3;have LRO:=Lib.hid hb3;clear hc3 hb3 p1 c0 c1 c2 c3 c4 c5 c6 c7 c8 c9 c10;obtain⟨c0,c1,c2,c3,c4,c5,c6,c7,c8,c9,c10⟩:=Zi (m:=m) (zCw MB B_X0);have hRX:=Lib.hid (Below.refl w1.heap.size w1);clear c0 c1 c2 c3 c4 c5 c6 c7 c8 c9 c10;have HMB:=Lib.hid (zCw MB B_X0);have ltM:=HMB.out.lt;obtain⟨hL1,hL2⟩:(1:Int)≤((n+1:Nat):Int)∧((n+1:Nat):Int)-1=(n:Int):=by omega
 have hL3:n+1-1=n:=by omega
 have hL5:¬ (1=n+1+e3):=by omega
 go_wp2
 go_loopw [2,27] (fun r i wr=>∃ j:Nat,j≤n∧r=.int .i64 (bkR m a r0 j)∧i=.int .i64 (j:Int)∧ccC m a r0 j=true∧Below w1.heap.size w1 wr) (fun _ i _=>n-(intOf i).toNat)
 case atStart=>exact⟨0,Nat.zero_le _,rfl,rfl,rfl,Below.refl _ _⟩
 case round =>
  obtain⟨j,hj,rfl,rfl,hcj,hB⟩:=hrel;obtain⟨wo,hwo⟩:∃ x,x=wr:=⟨_,rfl⟩;subst hwo;have BB:=Lib.hid (And.intro hB (BW.out.trans (hB.mono BW.out.size)));have RR:=HMB.out.below hB ltM;have HCJ:=Lib.hid hcj;clear hB hcj;by_cases hjn:j<n
  ·have h1:=hlt.out j (by omega)
   have h2:=hlt.out (j+1) (by omega)
   have r1:=rb.out j HCJ.out;have y1':=RO.out j (by omega)
   have y2':=RO.out (j+1) (by omega)
   rw [Z3a (by omega)] at y1' y2'
   replace y1':=(BB.out.1.cell (p:=⟨b3,o3+j,none⟩) LRO.out).trans y1';replace y2':=(BB.out.1.cell (p:=⟨b3,o3+(j+1),none⟩) LRO.out).trans y2';rw [show o3+(j+1)=o3+1+j by omega] at y2'
   have gl:=Lib.hid (fun w2 (B:Low wo w2)=>fl.out w2 (BB.out.2.trans (B.out.mono BB.out.2.size)) _ _ h1 h2)
   have gc:=Lib.hid (fun w2 (B:Low wo w2)=>fc.out w2 (BB.out.2.trans (B.out.mono BB.out.2.size)) _ _ (bkR m a r0 j) (bkR m a r0 (j+1)) h1 h2)
   have s1:Hid (bkR m a r0 (j+1)=bkR m a r0 j+gLeg m (itB m a j) (itB m a (j+1))):=rfl;have s2:Hid (ccC m a r0 (j+1)=(ccC m a r0 j && ccB m (itB m a j) (bkR m a r0 j) (itB m a (j+1)) (bkR m a r0 (j+1)))):=rfl;have gb:=hgb.out _ _ h1 h2;have jl1:(j:Int)<(n:Int)+1:=by omega
   have jl2:(j:Int)<(n:Int):=by omega
   have jl3:decide ((j:Int)<(n:Int))=true:=zTy;have jl0:(0:Int)≤(j:Int):=by omega
   obtain⟨ra,hra⟩:∃ x,bkR m a r0 j=x:=⟨_,rfl⟩;obtain⟨rc,hrc⟩:∃ x,bkR m a r0 (j+1)=x:=⟨_,rfl⟩;simp only [hra,hrc] at r1 gc s1 s2 ⊢;generalize itB m a j=p1 at *;generalize itB m a (j+1)=p2 at *;generalize gLeg m p1 p2=gg at *;generalize dLeg m p1 p2=dd at *;generalize tLeg m p1 p2=tt at *;obtain⟨cc,hcc⟩:∃ x,ccB m p1 ra p2 rc=x:=⟨_,rfl⟩;simp only [hcc] at s2 gc;clear hcc hra;have rw1:IntKind.i64.wrap (ra+gg)=rc:=by have e:=s1.out;rw [e];exact zW2
   have HRC:=Lib.hid hrc;clear s1 h1 h2 r1 gb hrc;go_upto_region 5 with fail
   have z1:=Low.fact y1';clear y1' y2';have q0:=Low.fact (RR.cell (i:=0) rfl);have q1:=Low.fact (RR.cell (i:=1) rfl);have q2:=Low.fact (RR.cell (i:=2) rfl);have q3:=Low.fact (RR.cell (i:=3) rfl);have q4:=Low.fact (RR.cell (i:=4) rfl);have q5:=Low.fact (RR.cell (i:=5) rfl);have q6:=Low.fact (RR.cell (i:=6) rfl);have q7:=Low.fact (RR.cell (i:=7) rfl);have q8:=Low.fact (RR.cell (i:=8) rfl);have q9:=Low.fact (RR.cell (i:=9) rfl);have q10:=Low.fact (RR.cell (i:=10) rfl)
   (refine Zg (by kernel_rfl) (by kernel_rfl) ?_;(iterate 16 (apply Zf;(case hw=>rfl);(case hval=>(intro w1 hw1;have hcx:=Low.cells hw1;simp only [Oper.quietAt];go_simp;first | done | (first | (go_at_call 43;exact Low.calls hw1 (gl.out _ hw1))) | rfl | exact⟨rfl,rfl⟩));simp only [Act.put,zq5,zr5,zs5]));refine wpQuiet_nil ?_;intro w2 hw2)
   clear gl;obtain⟨wa,hwa⟩:∃ x,x=w2:=⟨_,rfl⟩;subst hwa;have hw:=Lib.hid hw2;clear hw2;have gc2:=Lib.hid (fun w3 (B:Low wa w3)=>gc.out w3 (hw.out.out.trans (B.out.mono hw.out.out.size)))
   have BB2:=Lib.hid (And.intro (BB.out.1.trans (hw.out.out.mono BB.out.1.size)) (BB.out.2.trans (hw.out.out.mono BB.out.2.size)));replace z1:=Low.fact (z1 _ hw.out);replace q0:=Low.fact (q0 _ hw.out);replace q1:=Low.fact (q1 _ hw.out);replace q2:=Low.fact (q2 _ hw.out);replace q3:=Low.fact (q3 _ hw.out);replace q4:=Low.fact (q4 _ hw.out);replace q5:=Low.fact (q5 _ hw.out);replace q6:=Low.fact (q6 _ hw.out);replace q7:=Low.fact (q7 _ hw.out);replace q8:=Low.fact (q8 _ hw.out);replace q9:=Low.fact (q9 _ hw.out);replace q10:=Low.fact (q10 _ hw.out);clear gc;go_upto_region 6 with fail
   (refine (wpIn_wide (n:=9)).1 ?_;refine Zm (Zt _) 11 (by kernel_rfl) (by kernel_rfl) (by kernel_rfl) ?_;simp only [List.take_succ_cons,List.take_zero,List.drop_succ_cons,List.drop_zero];(iterate 11 (apply Zf;(case hw=>rfl);(case hval=>(intro w1 hw1;have hcx:=Low.cells hw1;simp only [Oper.quietAt];go_simp;first | done | (first | (go_at_call 78;exact Low.calls hw1 (gc2.out _ hw1))) | rfl | exact⟨rfl,rfl⟩));simp only [Act.put,zq5,zr5,zs5]));refine wpQuiet_nil ?_;intro w2 hw2)
   have BB3:=Lib.hid (And.intro (BB2.out.1.trans (hw2.out.mono BB2.out.1.size)) (BB2.out.2.trans (hw2.out.mono BB2.out.2.size)));clear hw2 q0 q1 q2 q3 q4 q5 q6 q7 q8 q9 q10 z1;cases cc
   ·have HV:=Lib.hid (show hwE m a r0=50 by rw [HH.out,hdown.out (j+1) (by omega) (by rw [s2.out,HCJ.out];rfl)];rfl)
    gi_wp2_with (refine⟨trivial,?_⟩;gi_at_call 77;refine (callsIn_wide.2 (Z3l _ _)).mono ?_;rintro e w' ⟨rfl,rfl⟩)
    exact Z4b rfl ⟨by rw [HV.out,Z2Z (by decide)],BB3.out.2⟩
   ·gi_wp2_with (refine⟨trivial,?_⟩;gi_at_call 77;refine (callsIn_wide.2 (Z3k _ _)).mono ?_;rintro e w' ⟨rfl,rfl⟩)
    go_wp2;go_roundw
    case rel=>exact⟨j+1,by omega,by rw [HRC.out],by go_num,by rw [s2.out,HCJ.out];rfl,BB3.out.1⟩
    case measure=>simp [intOf];omega
  obtain rfl:j=n:=by omega
  have jj:decide ((j:Int)<(j:Int))=false:=by simp
  have hrr:=rb.out j HCJ.out;obtain⟨ebo,e1',e2',e3'⟩:=hle.out _ hrr;have HH2:=HH.out;rw [HCJ.out,if_neg (by simp)] at HH2
  generalize bkR m a r0 j=rr at *;unfold atW at ebo e2' e3';have fd:=fun w1=>Z9a rr w1
  rw [e1'] at fd;have fs:=fun v w1 h=>Z2p v (dskL rr) ⟨(wy m.ways 0).x,(wy m.ways 0).y⟩ w1 h
  rw [e2'] at fs;have fw2:=fun vp w1 B hp=>fw.out vp (shL (dskL rr) ⟨(wy m.ways 0).x,(wy m.ways 0).y⟩) w1 B hp
  rw [e3',ebo] at fw2;generalize shL (dskL rr) ⟨(wy m.ways 0).x,(wy m.ways 0).y⟩=sl at fs fw2;generalize dskL rr=dl at fd fs;clear ebo e1' e2' e3';generalize lieB m rr=bc at *;simp only at fs;have HX12:=Lib.hid (And.intro HCW.out.1 HCW.out.2.1);have h0':(0:Int)<m.ways.length:=by omega
  rw [Nat.zero_mul,Nat.add_zero] at HX12;generalize (wy m.ways 0).x=px at *;generalize (wy m.ways 0).y=py at *;replace fd:=Lib.hid fd;replace fs:=Lib.hid fs;replace fw2:=Lib.hid fw2;replace HH2:=Lib.hid HH2;replace BW:=Lib.hid BB.out.2;have MR:=Lib.hid RR;clear RR hL1 hL2 hL3;go_wp2_with fail;refine (fd.out wo).mono ?_;rintro e w2 ⟨v9,rfl,p9,b2⟩;replace BW:=zAg BW b2;have B_wo:=Lib.hid b2;clear b2;have P1:=Lib.hid p9;clear p9;obtain⟨g1',k1',hv1⟩:=P1.out.len;subst hv1;have x1:=(BW.out.cell (p:=⟨bw,ow,none⟩) hbw).trans HX12.out.1;have x2:=(BW.out.cell (p:=⟨bw,ow+1,none⟩) hbw).trans HX12.out.2;have x0:w2.cell? ⟨w.heap.size,0,none⟩=some (.slice (some ⟨bw,ow,none⟩) m.ways.length (m.ways.length+cap1)):=(zCw MR B_wo).cell (i:=0) rfl;go_wp2_with fail;refine (fs.out _ _ P1.out).mono ?_;rintro e w3 ⟨v9,rfl,p9,b3⟩;replace BW:=zAg BW b3;replace B_wo:=zAg B_wo b3;have B_w2:=Lib.hid b3;clear b3;have P2:=Lib.hid p9;clear p9;obtain⟨g2',k2',hv1⟩:=P2.out.len;subst hv1;clear x0 x1 x2;have x0:w3.cell? ⟨w.heap.size,1,none⟩=some (.slice a2 m.home.length (m.home.length+cap2)):=(zCw MR B_wo).cell (i:=1) rfl;go_wp2_with fail;refine (fw2.out _ _ BW.out P2.out).mono ?_;rintro e w4 ⟨rfl,b4⟩;replace BW:=zAg BW b4;replace B_wo:=zAg B_wo b4;replace B_w2:=zAg B_w2 b4;have B_w3:=Lib.hid b4;clear b4 x0;cases bc
  ·have HV:=Lib.hid (show hwE m a r0=52 by rw [HH2.out];rfl)
   go_wp2_with fail;refine (Z3l _ _).mono ?_;rintro e w' ⟨rfl,rfl⟩;exact Z4b rfl ⟨by rw [HV.out,Z2Z (by decide)],BW.out⟩
  ·have HV:=Lib.hid (show hwE m a r0=0 by rw [HH2.out];rfl)
   go_wp2_with fail;refine (Z3k _ _).mono ?_;rintro e w' ⟨rfl,rfl⟩;go_wp2;go_end0;exact⟨by rw [HV.out,Z5T],BW.out⟩
theorem Z4s (m:Msn) (vw vh vr:Value) (w:World) (hm:MsnAt w.heap.size w m vw vh vr) (hV:validB m=true) (i:Nat) (hi:i+1<m.ways.length) (pv:Value) (u v t e:Int) (ht:0≤t∧t≤1000000000000000) (he:0≤e∧e≤1000000000000000) :
  Calls Tryz.prog 31 #[.agg (Zd m vw vh vr),.int .i64 i,.agg #[pv,.int .i64 u,.int .i64 v,.int .i64 t,.int .i64 e]] w fun e' w'=>e'=.returned (.int .i64 (kpsE m i u v t e))∧Below w.heap.size w w':=by
 have V:=(Zp m).1 hV;have n41:=V.n41;have fc:=fun w1 (B:Below w.heap.size w w1)=>Z3w m vw vh vr w1 ((hm.below B).mono B.size) V i (i+1) u v (by omega) hi
 have fh:=fun w1 (B:Below w.heap.size w w1) hv=>Z9V m vw vh vr w1 ((hm.below B).mono B.size) hV (i+1) hi (by omega) v hv
 have fp:=fun w1 (B:Below w.heap.size w w1)=>Z3g m vw vh vr (i+1) w1 ((hm.below B).mono B.size) hV hi
 have hte:=Z0z V hi _ (Nat.le_refl (dep m (i+1)));have hd:=Z2f V.ways hi;have hcb:=fun h=>Zbb (m:=m) (a:=i) (b:=i+1) (u:=u) (w:=v) h
 have hor:=hwE_or m (i+1) v;have HK:kpsE m i u v t e=if ccB m i u (i+1) v=false then 50 else if hwE m (i+1) v=50 then 50 else if hwE m (i+1) v=52 then 52 else if e+homeE m (i+1) (dep m (i+1))>m.battery then 51 else if t+homeT m (i+1) (dep m (i+1))>m.deadline then 6 else 0:=rfl
 generalize kpsE m i u v t e=kk at *;generalize ccB m i u (i+1) v=cb at *;generalize hwE m (i+1) v=hw at *;generalize homeE m (i+1) (dep m (i+1))=hE at *;generalize homeT m (i+1) (dep m (i+1))=hT at *;generalize dep m (i+1)=dp at *;obtain⟨⟨-,a1,cap1,rfl,-⟩,⟨-,a2,cap2,rfl,-⟩,⟨-,a3,cap3,rfl,-⟩⟩:=hm;unfold Zd at *;replace fc:=Lib.hid fc;replace fh:=Lib.hid fh;replace fp:=Lib.hid fp;replace HK:=Lib.hid HK;replace hcb:=Lib.hid hcb;replace hor:=Lib.hid hor;have jw:IntKind.i64.wrap ((i:Int)+1)=((i+1:Nat):Int):=by rw [show (i:Int)+1=((i+1:Nat):Int) by omega];exact zW2
 have wE:IntKind.i64.wrap (e+hE)=e+hE:=zW2;have wT:IntKind.i64.wrap (t+hT)=t+hT:=zW2;clear V hV hte ht he hd;have BW:=Lib.hid (Below.refl w.heap.size w)
 go_enter_defers Tryz.func31,Tryz.ntmps31
 go_wp2_with fail;generalize hXX0:World.alloc (World.alloc (World.alloc w _) _) _=X0;obtain⟨q0,q1,q2,hA,hzX0⟩:=box3 hXX0;clear hXX0;have BW:=Lib.hid hA;clear hA;have MB:=Lib.hid q0;clear q0;have PB:=Lib.hid q1;clear q1;have EB:=Lib.hid q2;clear q2;obtain⟨c0,c1,c2,c3,c4,c5,c6,c7,c8,c9,c10⟩:=Zi (m:=m) MB.out;have hp:=PB.out;have d0:=hp.cell (i:=0) rfl;have d1:=hp.cell (i:=1) rfl;have d2:=hp.cell (i:=2) rfl;have d3:=hp.cell (i:=3) rfl;have d4:=hp.cell (i:=4) rfl;refine (fc.out _ BW.out).mono ?_;rintro e w1 ⟨rfl,b1⟩;replace BW:=zAg BW b1;have B_X0:=Lib.hid b1;clear b1 c0 c1 c2 c3 c4 c5 c6 c7 c8 c9 c10 hp d0 d1 d2 d3 d4;obtain⟨c0,c1,c2,c3,c4,c5,c6,c7,c8,c9,c10⟩:=Zi (m:=m) (zCw MB B_X0);have hp:=(zCw PB B_X0);have d0:=hp.cell (i:=0) rfl;have d1:=hp.cell (i:=1) rfl;have d2:=hp.cell (i:=2) rfl;have d3:=hp.cell (i:=3) rfl;have d4:=hp.cell (i:=4) rfl;cases cb
 ·skip
  have HV:=Lib.hid (show kk=50 by rw [HK.out,if_pos rfl])
  go_wp2_with fail;refine (Z3l _ _).mono ?_;rintro e0 w0 ⟨rfl,hw0⟩;rw [hw0];clear hw0 w0 c0 c1 c2 c3 c4 c5 c6 c7 c8 c9 c10 hp d0 d1 d2 d3 d4;have HE:=Lib.hid (zCw EB B_X0);refine leaves_cons (f:=76) (args:=#[.pointer (some ⟨w.heap.size+1+1,0,none⟩)]) (by simp) (by simp [go_sem]) ?_
  refine (Z0a ⟨w.heap.size+1+1,0,none⟩ (.int .i64 0) 50 _ (HE.out.cell (i:=0) rfl) (Zh HE.out 0)).mono ?_;rintro e9 u9 w9 ⟨rfl,rfl,hw9⟩;have hA9:=(Below.refl w1.heap.size w1).alloc (Nat.le_refl _) (.cells #[.int .i64 50] 164);have hE9:=(HE.out.below hA9 HE.out.lt).set 0 (.int .i64 50);have BZ:=(BW.out.trans (hA9.mono BW.out.size)).setCell (p:=⟨w.heap.size+1+1,0,none⟩) (by show w.heap.size≤w.heap.size+1+1;omega) (.int .i64 50)
  rw [← hw9] at hE9 BZ;have c9:w9.cell? ⟨w.heap.size+1+1,0,none⟩=some (.int .i64 50):=hE9.cell (i:=0) rfl;clear hw9 hE9 hA9;simp [Leaves,settle,results,Tryz.results31,go_sem,c9,HV.out,BZ]
 obtain⟨hu,hv⟩:=hcb.out rfl;replace HK:=HK.out;rw [if_neg (by simp)] at HK
 replace HK:=Lib.hid HK;clear hu;go_wp2_with fail;refine (Z3k _ _).mono ?_;rintro e0 w0 ⟨rfl,hw0⟩;rw [hw0];clear hw0 w0;have gh:=Lib.hid (fun w1 B=>fh.out w1 B hv)
 clear fh hv;rcases hor.out with rfl | rfl | rfl
 ·skip
  have HV:=Lib.hid (show kk=50 by rw [HK.out];rfl)
  go_wp2_with fail;refine (gh.out _ BW.out).mono ?_;rintro e w2 ⟨rfl,b2⟩;replace BW:=zAg BW b2;replace B_X0:=zAg B_X0 b2;clear b2 c0 c1 c2 c3 c4 c5 c6 c7 c8 c9 c10 hp d0 d1 d2 d3 d4;obtain⟨c0,c1,c2,c3,c4,c5,c6,c7,c8,c9,c10⟩:=Zi (m:=m) (zCw MB B_X0);have hp:=(zCw PB B_X0);have d0:=hp.cell (i:=0) rfl;have d1:=hp.cell (i:=1) rfl;have d2:=hp.cell (i:=2) rfl;have d3:=hp.cell (i:=3) rfl;have d4:=hp.cell (i:=4) rfl;rw [Z2Z (by decide)]
  clear c0 c1 c2 c3 c4 c5 c6 c7 c8 c9 c10 hp d0 d1 d2 d3 d4;have HE:=Lib.hid (zCw EB B_X0);refine leaves_cons (f:=76) (args:=#[.pointer (some ⟨w.heap.size+1+1,0,none⟩)]) (by simp) (by simp [go_sem]) ?_
  refine (Z0a ⟨w.heap.size+1+1,0,none⟩ (.int .i64 0) 50 _ (HE.out.cell (i:=0) rfl) (Zh HE.out 0)).mono ?_;rintro e9 u9 w9 ⟨rfl,rfl,hw9⟩;have hA9:=(Below.refl w2.heap.size w2).alloc (Nat.le_refl _) (.cells #[.int .i64 50] 164);have hE9:=(HE.out.below hA9 HE.out.lt).set 0 (.int .i64 50);have BZ:=(BW.out.trans (hA9.mono BW.out.size)).setCell (p:=⟨w.heap.size+1+1,0,none⟩) (by show w.heap.size≤w.heap.size+1+1;omega) (.int .i64 50)
  rw [← hw9] at hE9 BZ;have c9:w9.cell? ⟨w.heap.size+1+1,0,none⟩=some (.int .i64 50):=hE9.cell (i:=0) rfl;clear hw9 hE9 hA9;simp [Leaves,settle,results,Tryz.results31,go_sem,c9,HV.out,BZ]
 ·skip
  have HV:=Lib.hid (show kk=52 by rw [HK.out];rfl)
  go_wp2_with fail;refine (gh.out _ BW.out).mono ?_;rintro e w3 ⟨rfl,b3⟩;replace BW:=zAg BW b3;replace B_X0:=zAg B_X0 b3;clear b3 c0 c1 c2 c3 c4 c5 c6 c7 c8 c9 c10 hp d0 d1 d2 d3 d4;obtain⟨c0,c1,c2,c3,c4,c5,c6,c7,c8,c9,c10⟩:=Zi (m:=m) (zCw MB B_X0);have hp:=(zCw PB B_X0);have d0:=hp.cell (i:=0) rfl;have d1:=hp.cell (i:=1) rfl;have d2:=hp.cell (i:=2) rfl;have d3:=hp.cell (i:=3) rfl;have d4:=hp.cell (i:=4) rfl;rw [Z2Z (by decide)]
  clear c0 c1 c2 c3 c4 c5 c6 c7 c8 c9 c10 hp d0 d1 d2 d3 d4;have HE:=Lib.hid (zCw EB B_X0);refine leaves_cons (f:=76) (args:=#[.pointer (some ⟨w.heap.size+1+1,0,none⟩)]) (by simp) (by simp [go_sem]) ?_
  refine (Z0a ⟨w.heap.size+1+1,0,none⟩ (.int .i64 0) 52 _ (HE.out.cell (i:=0) rfl) (Zh HE.out 0)).mono ?_;rintro e9 u9 w9 ⟨rfl,rfl,hw9⟩;have hA9:=(Below.refl w3.heap.size w3).alloc (Nat.le_refl _) (.cells #[.int .i64 52] 164);have hE9:=(HE.out.below hA9 HE.out.lt).set 0 (.int .i64 52);have BZ:=(BW.out.trans (hA9.mono BW.out.size)).setCell (p:=⟨w.heap.size+1+1,0,none⟩) (by show w.heap.size≤w.heap.size+1+1;omega) (.int .i64 52)
  rw [← hw9] at hE9 BZ;have c9:w9.cell? ⟨w.heap.size+1+1,0,none⟩=some (.int .i64 52):=hE9.cell (i:=0) rfl;clear hw9 hE9 hA9;simp [Leaves,settle,results,Tryz.results31,go_sem,c9,HV.out,BZ]
 have HK2:=Lib.hid (show kk=if e+hE>m.battery then 51 else if t+hT>m.deadline then 6 else 0 from by rw [HK.out];rfl)
 go_wp2_with fail;refine (gh.out _ BW.out).mono ?_;rintro e w4 ⟨rfl,b4⟩;replace BW:=zAg BW b4;replace B_X0:=zAg B_X0 b4;clear b4;rw [Z5T];clear c0 c1 c2 c3 c4 c5 c6 c7 c8 c9 c10 hp d0 d1 d2 d3 d4;obtain⟨c0,c1,c2,c3,c4,c5,c6,c7,c8,c9,c10⟩:=Zi (m:=m) (zCw MB B_X0);have hp:=(zCw PB B_X0);have d0:=hp.cell (i:=0) rfl;have d1:=hp.cell (i:=1) rfl;have d2:=hp.cell (i:=2) rfl;have d3:=hp.cell (i:=3) rfl;have d4:=hp.cell (i:=4) rfl;go_wp2_with fail;refine (fp.out _ BW.out).mono ?_;rintro e w5 ⟨rfl,b5⟩;replace BW:=zAg BW b5;replace B_X0:=zAg B_X0 b5;clear b5 c0 c1 c2 c3 c4 c5 c6 c7 c8 c9 c10 hp d0 d1 d2 d3 d4;obtain⟨c0,c1,c2,c3,c4,c5,c6,c7,c8,c9,c10⟩:=Zi (m:=m) (zCw MB B_X0);have hp:=(zCw PB B_X0);have d0:=hp.cell (i:=0) rfl;have d1:=hp.cell (i:=1) rfl;have d2:=hp.cell (i:=2) rfl;have d3:=hp.cell (i:=3) rfl;have d4:=hp.cell (i:=4) rfl;by_cases hbat:e+hE>m.battery
 ·skip
  have dB:decide (e+hE≤m.battery)=false:=zFy;have HV:=Lib.hid (show kk=51 by rw [HK2.out,if_pos hbat])
  go_wp2_with fail;refine (Z3l _ _).mono ?_;rintro e0 w0 ⟨rfl,hw0⟩;rw [hw0];clear hw0 w0 c0 c1 c2 c3 c4 c5 c6 c7 c8 c9 c10 hp d0 d1 d2 d3 d4;have HE:=Lib.hid (zCw EB B_X0);refine leaves_cons (f:=76) (args:=#[.pointer (some ⟨w.heap.size+1+1,0,none⟩)]) (by simp) (by simp [go_sem]) ?_
  refine (Z0a ⟨w.heap.size+1+1,0,none⟩ (.int .i64 0) 51 _ (HE.out.cell (i:=0) rfl) (Zh HE.out 0)).mono ?_;rintro e9 u9 w9 ⟨rfl,rfl,hw9⟩;have hA9:=(Below.refl w5.heap.size w5).alloc (Nat.le_refl _) (.cells #[.int .i64 51] 164);have hE9:=(HE.out.below hA9 HE.out.lt).set 0 (.int .i64 51);have BZ:=(BW.out.trans (hA9.mono BW.out.size)).setCell (p:=⟨w.heap.size+1+1,0,none⟩) (by show w.heap.size≤w.heap.size+1+1;omega) (.int .i64 51)
  rw [← hw9] at hE9 BZ;have c9:w9.cell? ⟨w.heap.size+1+1,0,none⟩=some (.int .i64 51):=hE9.cell (i:=0) rfl;clear hw9 hE9 hA9;simp [Leaves,settle,results,Tryz.results31,go_sem,c9,HV.out,BZ]
 have dB:decide (e+hE≤m.battery)=true:=zTy;replace HK2:=HK2.out;rw [if_neg hbat] at HK2;replace HK2:=Lib.hid HK2;go_wp2_with fail;refine (Z3k _ _).mono ?_;rintro e0 w0 ⟨rfl,hw0⟩;rw [hw0];clear hw0 w0;by_cases htim:t+hT>m.deadline
 ·skip
  have dT:decide (t+hT≤m.deadline)=false:=zFy;have HV:=Lib.hid (show kk=6 by rw [HK2.out,if_pos htim])
  go_wp2_with fail;refine (Z3l _ _).mono ?_;rintro e0 w0 ⟨rfl,hw0⟩;rw [hw0];clear hw0 w0 c0 c1 c2 c3 c4 c5 c6 c7 c8 c9 c10 hp d0 d1 d2 d3 d4;have HE:=Lib.hid (zCw EB B_X0);refine leaves_cons (f:=76) (args:=#[.pointer (some ⟨w.heap.size+1+1,0,none⟩)]) (by simp) (by simp [go_sem]) ?_
  refine (Z0a ⟨w.heap.size+1+1,0,none⟩ (.int .i64 0) 6 _ (HE.out.cell (i:=0) rfl) (Zh HE.out 0)).mono ?_;rintro e9 u9 w9 ⟨rfl,rfl,hw9⟩;have hA9:=(Below.refl w5.heap.size w5).alloc (Nat.le_refl _) (.cells #[.int .i64 6] 164);have hE9:=(HE.out.below hA9 HE.out.lt).set 0 (.int .i64 6);have BZ:=(BW.out.trans (hA9.mono BW.out.size)).setCell (p:=⟨w.heap.size+1+1,0,none⟩) (by show w.heap.size≤w.heap.size+1+1;omega) (.int .i64 6)
  rw [← hw9] at hE9 BZ;have c9:w9.cell? ⟨w.heap.size+1+1,0,none⟩=some (.int .i64 6):=hE9.cell (i:=0) rfl;clear hw9 hE9 hA9;simp [Leaves,settle,results,Tryz.results31,go_sem,c9,HV.out,BZ]
 have dT:decide (t+hT≤m.deadline)=true:=zTy;have HV:=Lib.hid (show kk=0 by rw [HK2.out,if_neg htim])
 go_wp2_with fail;refine (Z3k _ _).mono ?_;rintro e0 w0 ⟨rfl,hw0⟩;rw [hw0];clear hw0 w0;have HE:=Lib.hid (zCw EB B_X0);have he0:=HE.out.cell (i:=0) rfl;have he1:=Zh HE.out 0;go_wp2;refine leaves_cons (f:=76) (args:=#[.pointer (some ⟨w.heap.size+1+1,0,none⟩)]) (by simp) (by simp [go_sem]) ?_
 refine (Z3Q ⟨w.heap.size+1+1,0,none⟩ _).mono ?_;rintro e9 u9 w9 ⟨rfl,rfl,hw9⟩;have hE9:=HE.out.set 0 (.int .i64 0);have BZ:=BW.out.setCell (p:=⟨w.heap.size+1+1,0,none⟩) (by show w.heap.size≤w.heap.size+1+1;omega) (.int .i64 0)
 rw [← hw9] at hE9 BZ;have c9:w9.cell? ⟨w.heap.size+1+1,0,none⟩=some (.int .i64 0):=hE9.cell (i:=0) rfl;clear hw9 hE9;simp [Leaves,settle,results,Tryz.results31,go_sem,c9,HV.out,BZ]
noncomputable def lg1 (m:Msn) (c:Crt) (i:Nat):Bool:=decide (befR m c i≤(pgd c.psg i).fr) && decide ((pgd c.psg i).fr+gLeg m i (i+1)≤(pgd c.psg i).tw)
noncomputable def lg2 (m:Msn) (c:Crt) (i:Nat):Bool:=decide (befT m c i+tLeg m i (i+1)≤(pgd c.psg i).tm) && (decide (befE m c i+eLeg m i (i+1)≤(pgd c.psg i).en) && decide (homeE m (i+1) (dep m (i+1))≤c.ret.getD i 0))
noncomputable def lg3 (m:Msn) (c:Crt) (i:Nat):Bool:=decide ((pgd c.psg i).en+c.ret.getD i 0≤m.battery) && decide (kpsE m i (pgd c.psg i).fr (pgd c.psg i).tw (pgd c.psg i).tm (pgd c.psg i).en=0)
noncomputable def lg4 (m:Msn) (c:Crt) (i:Nat):Bool:=decide (corE (atW m i) (pgd c.psg i).fr (atW m (i+1)) (pgd c.psg i).tw=0) && (withinB (corL (atW m i) (pgd c.psg i).fr (atW m (i+1)) (pgd c.psg i).tw) (pgd c.psg i).cor && !firB (pgd c.psg i).cor m.rocks)
noncomputable def lgB (m:Msn) (c:Crt) (i:Nat):Bool:=lg1 m c i && (lg2 m c i && (lg3 m c i && lg4 m c i))
noncomputable def chkB (m:Msn) (c:Crt):Bool:=frmB m c && decide (∀ i,i<c.psg.length→lgB m c i=true)
noncomputable def chkE (m:Msn) (c:Crt):Int:=if frmB m c=true then 0 else 1
theorem ZaU (bp bf bg:Nat) (u:Value) (p:Psg) (f g:Int) (w:World) (hp:Has w bp #[u,.int .i64 p.fr,.int .i64 p.tw,.int .i64 p.tm,.int .i64 p.en] 48) (hf:Has w bf #[.int .i64 f] 3) (hg:Has w bg #[.int .i64 g] 3) (h1:0≤p.fr∧p.fr≤100000) (h2:0≤g∧g≤1000000000000) :
  Calls Tryz.prog 45 #[.pointer (some ⟨bp,0,none⟩),.pointer (some ⟨bf,0,none⟩),.pointer (some ⟨bg,0,none⟩)] w fun e w'=>e=.returned (.bool (decide (f≤p.fr) && decide (p.fr+g≤p.tw)))∧Below w.heap.size w w':=by
 have x1:=hp.cell (i:=1) rfl;have x2:=hp.cell (i:=2) rfl;have y:=hf.cell (i:=0) rfl;have z:=hg.cell (i:=0) rfl;have ww:IntKind.i64.wrap (p.fr+g)=p.fr+g:=zW2;clear hp hf hg;by_cases hd:f≤p.fr
 ·have d1:decide (p.fr≥f)=true:=by rw [decide_eq_true_eq];exact hd
  have HD:=Lib.hid (decide_eq_true hd);clear hd;go_enter Tryz.func45,Tryz.ntmps45;go_wp2;go_ret;exact⟨by rw [HD.out];simp [ge_iff_le],Below.refl _ _⟩
 ·have d1:decide (p.fr≥f)=false:=by rw [decide_eq_false_iff_not];exact hd
  have HD:=Lib.hid (decide_eq_false hd);clear hd;go_enter Tryz.func45,Tryz.ntmps45;go_wp2;go_ret;exact⟨by rw [HD.out];rfl,Below.refl _ _⟩
theorem ZaT (bp b1 b2 b3 b4 bc bi b7:Nat) (u vs vp:Value) (ar:Option Addr) (cr:Nat) (p:Psg) (l:List Int) (i:Nat) (hi:i<l.length) (t a e c r:Int) (w:World) (hp:Has w bp #[u,.int .i64 p.fr,.int .i64 p.tw,.int .i64 p.tm,.int .i64 p.en] 48) (h1:Has w b1 #[.int .i64 t] 3) (h2:Has w b2 #[.int .i64 a] 3) (h3:Has w b3 #[.int .i64 e] 3) (h4:Has w b4 #[.int .i64 c] 3) (hc:Has w bc #[vs,vp,.slice ar l.length (l.length+cr)] 30) (hbi:Has w bi #[.int .i64 i] 3) (h7:Has w b7 #[.int .i64 r] 3)
  (hl:Za w.heap.size w (.slice ar l.length (l.length+cr)) l) (g1:0≤t∧t≤1000000000000) (g2:0≤a∧a≤1000000000000) (g3:0≤e∧e≤1000000000000) (g4:0≤c∧c≤1000000000000) :
  Calls Tryz.prog 46 #[.pointer (some ⟨bp,0,none⟩),.pointer (some ⟨b1,0,none⟩),.pointer (some ⟨b2,0,none⟩),.pointer (some ⟨b3,0,none⟩),.pointer (some ⟨b4,0,none⟩),.pointer (some ⟨bc,0,none⟩),.pointer (some ⟨bi,0,none⟩),.pointer (some ⟨b7,0,none⟩)] w fun e' w'=>e'=.returned (.bool (decide (t+a≤p.tm) && (decide (e+c≤p.en) && decide (r≤l.getD i 0))))∧Below w.heap.size w w':=by
 obtain⟨-,a',cap',e0,hcc⟩:=hl;obtain⟨b,o,ha,hb,hcc⟩:=hcc.resolve_left (by intro h;rw [h] at hi;simp at hi)
 simp only [Value.slice.injEq] at e0;obtain⟨e1,-,-⟩:=e0;rw [ha] at e1;subst e1;have q0:=hcc i hi;have q1:=hp.cell (i:=3) rfl;have q2:=hp.cell (i:=4) rfl;have q3:=h1.cell (i:=0) rfl;have q4:=h2.cell (i:=0) rfl;have q5:=h3.cell (i:=0) rfl;have q6:=h4.cell (i:=0) rfl;have q7:w.cell? ⟨bc,2,none⟩=some (.slice (some ⟨b,o,none⟩) l.length (l.length+cr)):=hc.cell (i:=2) rfl;have q8:=hbi.cell (i:=0) rfl;have q9:=h7.cell (i:=0) rfl;have w1:IntKind.i64.wrap (t+a)=t+a:=zW2;have w2':IntKind.i64.wrap (e+c)=e+c:=zW2;have il:(i:Int)<l.length:=by omega
 have il0:(0:Int)≤i:=by omega
 generalize l.getD i 0=li at *;clear hp h1 h2 h3 h4 hc hbi h7 hcc ha;have qs:=Lib.hid (And.intro q0 (And.intro q1 (And.intro q2 (And.intro q3 (And.intro q4 (And.intro q5 (And.intro q6 (And.intro q7 (And.intro q8 q9)))))))));clear q0 q1 q2 q3 q4 q5 q6 q7 q8 q9;by_cases hd:t+a≤p.tm
 ·have d1:decide (p.tm≥t+a)=true:=by rw [decide_eq_true_eq];exact hd
  have HD:=Lib.hid (decide_eq_true hd);by_cases he:e+c≤p.en
  ·have d2:decide (p.en≥e+c)=true:=by rw [decide_eq_true_eq];exact he
   have HE:=Lib.hid (decide_eq_true he);clear hd he;go_enter Tryz.func46,Tryz.ntmps46;go_upto_region 1 with fail
   have z0:=Low.fact qs.out.1;have z1:=Low.fact qs.out.2.1;have z2:=Low.fact qs.out.2.2.1;have z3:=Low.fact qs.out.2.2.2.1;have z4:=Low.fact qs.out.2.2.2.2.1;have z5:=Low.fact qs.out.2.2.2.2.2.1;have z6:=Low.fact qs.out.2.2.2.2.2.2.1;have z7:=Low.fact qs.out.2.2.2.2.2.2.2.1;have z8:=Low.fact qs.out.2.2.2.2.2.2.2.2.1;have z9:=Low.fact qs.out.2.2.2.2.2.2.2.2.2
   (refine Zg (by kernel_rfl) (by kernel_rfl) ?_;(iterate 24 (apply Zf;(case hw=>rfl);(case hval=>(intro w1 hw1;have hcx:=Low.cells hw1;simp only [Oper.quietAt];go_simp;first | done | rfl | exact⟨rfl,rfl⟩));simp only [Act.put,zq5,zr5,zs5]));refine wpQuiet_nil ?_;intro w2 hw2)
   go_wp2;go_ret;exact⟨by rw [HD.out,HE.out];simp [ge_iff_le],hw2.out⟩
  ·have d2:decide (p.en≥e+c)=false:=by rw [decide_eq_false_iff_not];exact he
   have HE:=Lib.hid (decide_eq_false he);clear hd he;go_enter Tryz.func46,Tryz.ntmps46;go_upto_region 1 with fail
   have z0:=Low.fact qs.out.1;have z1:=Low.fact qs.out.2.1;have z2:=Low.fact qs.out.2.2.1;have z3:=Low.fact qs.out.2.2.2.1;have z4:=Low.fact qs.out.2.2.2.2.1;have z5:=Low.fact qs.out.2.2.2.2.2.1;have z6:=Low.fact qs.out.2.2.2.2.2.2.1;have z7:=Low.fact qs.out.2.2.2.2.2.2.2.1;have z8:=Low.fact qs.out.2.2.2.2.2.2.2.2.1;have z9:=Low.fact qs.out.2.2.2.2.2.2.2.2.2
   (refine Zg (by kernel_rfl) (by kernel_rfl) ?_;(iterate 15 (apply Zf;(case hw=>rfl);(case hval=>(intro w1 hw1;have hcx:=Low.cells hw1;simp only [Oper.quietAt];go_simp;first | done | rfl | exact⟨rfl,rfl⟩));simp only [Act.put,zq5,zr5,zs5]));(iterate 7 (apply Zr;(case hw=>rfl);simp only [Act.put,zq5,zr5,zs5]));(iterate 2 (apply Zf;(case hw=>rfl);(case hval=>(intro w1 hw1;have hcx:=Low.cells hw1;simp only [Oper.quietAt];go_simp;first | done | rfl | exact⟨rfl,rfl⟩));simp only [Act.put,zq5,zr5,zs5]));refine wpQuiet_nil ?_;intro w2 hw2)
   go_wp2;go_ret;exact⟨by rw [HD.out,HE.out];rfl,hw2.out⟩
 ·have d1:decide (p.tm≥t+a)=false:=by rw [decide_eq_false_iff_not];exact hd
  have HD:=Lib.hid (decide_eq_false hd);clear hd;go_enter Tryz.func46,Tryz.ntmps46;go_upto_region 1 with fail
  have z0:=Low.fact qs.out.1;have z1:=Low.fact qs.out.2.1;have z2:=Low.fact qs.out.2.2.1;have z3:=Low.fact qs.out.2.2.2.1;have z4:=Low.fact qs.out.2.2.2.2.1;have z5:=Low.fact qs.out.2.2.2.2.2.1;have z6:=Low.fact qs.out.2.2.2.2.2.2.1;have z7:=Low.fact qs.out.2.2.2.2.2.2.2.1;have z8:=Low.fact qs.out.2.2.2.2.2.2.2.2.1;have z9:=Low.fact qs.out.2.2.2.2.2.2.2.2.2
  (refine Zg (by kernel_rfl) (by kernel_rfl) ?_;(iterate 7 (apply Zf;(case hw=>rfl);(case hval=>(intro w1 hw1;have hcx:=Low.cells hw1;simp only [Oper.quietAt];go_simp;first | done | rfl | exact⟨rfl,rfl⟩));simp only [Act.put,zq5,zr5,zs5]));(iterate 6 (apply Zr;(case hw=>rfl);simp only [Act.put,zq5,zr5,zs5]));(iterate 2 (apply Zf;(case hw=>rfl);(case hval=>(intro w1 hw1;have hcx:=Low.cells hw1;simp only [Oper.quietAt];go_simp;first | done | rfl | exact⟨rfl,rfl⟩));simp only [Act.put,zq5,zr5,zs5]));(iterate 7 (apply Zr;(case hw=>rfl);simp only [Act.put,zq5,zr5,zs5]));(iterate 2 (apply Zf;(case hw=>rfl);(case hval=>(intro w1 hw1;have hcx:=Low.cells hw1;simp only [Oper.quietAt];go_simp;first | done | rfl | exact⟨rfl,rfl⟩));simp only [Act.put,zq5,zr5,zs5]));refine wpQuiet_nil ?_;intro w2 hw2)
  go_wp2;go_ret;exact⟨by rw [HD.out];rfl,hw2.out⟩
theorem ZaS (bp bc bi bm:Nat) (u vs vp:Value) (ar:Option Addr) (cr:Nat) (p:Psg) (l:List Int) (i:Nat) (hi:i<l.length) (m:Msn) (vw vh vr:Value) (w:World) (hm:MsnAt w.heap.size w m vw vh vr) (hV:validB m=true) (hi1:i+1<m.ways.length) (hp:Has w bp #[u,.int .i64 p.fr,.int .i64 p.tw,.int .i64 p.tm,.int .i64 p.en] 48) (hc:Has w bc #[vs,vp,.slice ar l.length (l.length+cr)] 30) (hbi:Has w bi #[.int .i64 i] 3) (hbm:Has w bm (Zd m vw vh vr) 26)
  (hl:Za w.heap.size w (.slice ar l.length (l.length+cr)) l) (g1:0≤p.tm∧p.tm≤1000000000) (g2:0≤p.en∧p.en≤1000000000) (g3:0≤l.getD i 0∧l.getD i 0≤1000000000) :
  Calls Tryz.prog 47 #[.pointer (some ⟨bp,0,none⟩),.pointer (some ⟨bc,0,none⟩),.pointer (some ⟨bi,0,none⟩),.pointer (some ⟨bm,0,none⟩)] w fun e' w'=>e'=.returned (.bool (decide (p.en+l.getD i 0≤m.battery) && decide (kpsE m i p.fr p.tw p.tm p.en=0)))∧Below w.heap.size w w':=by
 have fk:=fun w1 (B:Below w.heap.size w w1)=>Z4s m vw vh vr w1 ((hm.below B).mono B.size) hV i hi1 u p.fr p.tw p.tm p.en ⟨g1.1,by omega⟩ ⟨g2.1,by omega⟩
 generalize kpsE m i p.fr p.tw p.tm p.en=kk at *;obtain⟨-,a',cap',e0,hcc⟩:=hl;obtain⟨b,o,ha,hb,hcc⟩:=hcc.resolve_left (by intro h;rw [h] at hi;simp at hi)
 simp only [Value.slice.injEq] at e0;obtain⟨e1,-,-⟩:=e0;rw [ha] at e1;subst e1;obtain⟨⟨-,a1,cap1,rfl,hcw⟩,⟨-,a2,cap2,rfl,-⟩,⟨-,a3,cap3,rfl,-⟩⟩:=hm;unfold Zd at *;have qs:=Lib.hid (And.intro (hcc i hi) (And.intro hp (And.intro (show w.cell? ⟨bc,2,none⟩=some (.slice (some ⟨b,o,none⟩) l.length (l.length+cr)) from hc.cell (i:=2) rfl) (And.intro (hbi.cell (i:=0) rfl) hbm))))
 have il:(i:Int)<l.length:=by omega
 have il0:(0:Int)≤i:=by omega
 generalize l.getD i 0=li at *;have w1:IntKind.i64.wrap (p.en+li)=p.en+li:=zW2;replace fk:=Lib.hid fk;have dkk:(kk == 0)=decide (kk=0):=by rw [Bool.eq_iff_iff];simp
 clear hp hc hbi hbm hcc ha hcw hV;by_cases hd:p.en+li≤m.battery
 ·have d1:decide (p.en+li≤m.battery)=true:=by rw [decide_eq_true_eq];exact hd
  have HD:=Lib.hid (decide_eq_true hd);clear hd;go_enter Tryz.func47,Tryz.ntmps47;go_upto_region 1 with fail
  have z0:=Low.fact qs.out.1;have hp:=qs.out.2.1;have hM:=qs.out.2.2.2.2;have y0:=Low.fact (hp.cell (i:=0) rfl);have y1:=Low.fact (hp.cell (i:=1) rfl);have y2:=Low.fact (hp.cell (i:=2) rfl);have y3:=Low.fact (hp.cell (i:=3) rfl);have y4:=Low.fact (hp.cell (i:=4) rfl);have z7:=Low.fact qs.out.2.2.1;have z8:=Low.fact qs.out.2.2.2.1;have c0:=Low.fact (hM.cell (i:=0) rfl);have c1:=Low.fact (hM.cell (i:=1) rfl);have c2:=Low.fact (hM.cell (i:=2) rfl);have c3:=Low.fact (hM.cell (i:=3) rfl);have c4:=Low.fact (hM.cell (i:=4) rfl);have c5:=Low.fact (hM.cell (i:=5) rfl);have c6:=Low.fact (hM.cell (i:=6) rfl);have c7:=Low.fact (hM.cell (i:=7) rfl);have c8:=Low.fact (hM.cell (i:=8) rfl);have c9:=Low.fact (hM.cell (i:=9) rfl);have c10:=Low.fact (hM.cell (i:=10) rfl);clear hp hM
  (refine Zg (by kernel_rfl) (by kernel_rfl) ?_;(iterate 19 (apply Zf;(case hw=>rfl);(case hval=>(intro w1 hw1;have hcx:=Low.cells hw1;simp only [Oper.quietAt];go_simp;first | done | (first | (go_at_call 31;exact Low.calls hw1 (fk.out _ hw1.out))) | rfl | exact⟨rfl,rfl⟩));simp only [Act.put,zq5,zr5,zs5]));refine wpQuiet_nil ?_;intro w2 hw2)
  go_wp2;go_ret;exact⟨by rw [HD.out];first | rfl | exact congrArg (fun b=>Ending.returned (Value.bool b)) dkk,hw2.out⟩
 ·have d1:decide (p.en+li≤m.battery)=false:=by rw [decide_eq_false_iff_not];exact hd
  have HD:=Lib.hid (decide_eq_false hd);clear hd;go_enter Tryz.func47,Tryz.ntmps47;go_upto_region 1 with fail
  have z0:=Low.fact qs.out.1;have hp:=qs.out.2.1;have hM:=qs.out.2.2.2.2;have y4:=Low.fact (hp.cell (i:=4) rfl);have z7:=Low.fact qs.out.2.2.1;have z8:=Low.fact qs.out.2.2.2.1;have c9:=Low.fact (hM.cell (i:=9) rfl);clear hp hM
  (refine Zg (by kernel_rfl) (by kernel_rfl) ?_;(iterate 12 (apply Zf;(case hw=>rfl);(case hval=>(intro w1 hw1;have hcx:=Low.cells hw1;simp only [Oper.quietAt];go_simp;first | done | rfl | exact⟨rfl,rfl⟩));simp only [Act.put,zq5,zr5,zs5]));(iterate 5 (apply Zr;(case hw=>rfl);simp only [Act.put,zq5,zr5,zs5]));(iterate 2 (apply Zf;(case hw=>rfl);(case hval=>(intro w1 hw1;have hcx:=Low.cells hw1;simp only [Oper.quietAt];go_simp;first | done | rfl | exact⟨rfl,rfl⟩));simp only [Act.put,zq5,zr5,zs5]));refine wpQuiet_nil ?_;intro w2 hw2)
  go_wp2;go_ret;exact⟨by rw [HD.out];rfl,hw2.out⟩
theorem ZaR (bm bi bp:Nat) (u:Value) (p:Psg) (i:Nat) (m:Msn) (vw vh vr:Value) (w:World) (hm:MsnAt w.heap.size w m vw vh vr) (hi1:i+1<m.ways.length) (n41:m.ways.length≤41) (hp:Has w bp #[u,.int .i64 p.fr,.int .i64 p.tw,.int .i64 p.tm,.int .i64 p.en] 48) (hbi:Has w bi #[.int .i64 i] 3) (hbm:Has w bm (Zd m vw vh vr) 26) (hu:Z8 w.heap.size w u p.cor) :
  Calls Tryz.prog 48 #[.pointer (some ⟨bm,0,none⟩),.pointer (some ⟨bi,0,none⟩),.pointer (some ⟨bp,0,none⟩)] w fun e' w'=>e'=.returned (.bool (decide (corE (atW m i) p.fr (atW m (i+1)) p.tw=0) && (withinB (corL (atW m i) p.fr (atW m (i+1)) p.tw) p.cor && !firB p.cor m.rocks)))∧Below w.heap.size w w':=by
 have f1:=fun w1=>Z1k ⟨(wy m.ways i).x,(wy m.ways i).y⟩ ⟨(wy m.ways (i+1)).x,(wy m.ways (i+1)).y⟩ p.fr p.tw w1
 have f2:=fun vc w1 (B:Below w.heap.size w w1) h=>Z2k vc u (corL ⟨(wy m.ways i).x,(wy m.ways i).y⟩ p.fr ⟨(wy m.ways (i+1)).x,(wy m.ways (i+1)).y⟩ p.tw) p.cor w1 h ((hu.below B).mono B.size)
 have f3:=fun w1 (B:Below w.heap.size w w1)=>Z5R u vr p.cor m.rocks w1 ((hu.below B).mono B.size) (((hm.2.2).below B).mono B.size)
 unfold atW;obtain⟨au,cu,rfl⟩:=hu.len;obtain⟨⟨-,a1,cap1,rfl,hcw⟩,⟨-,a2,cap2,rfl,-⟩,⟨-,a3,cap3,rfl,-⟩⟩:=hm;unfold Zd at *;obtain⟨bw,ow,rfl,hbw,hcw⟩:=hcw.resolve_left (by intro h;rw [h] at hi1;simp at hi1)
 obtain⟨x1,x2,-⟩:=hcw i (by omega)
 obtain⟨x3,x4,-⟩:=hcw (i+1) hi1;have HP:=Lib.hid hp;have HI:=Lib.hid hbi;have HM:=Lib.hid hbm;clear hcw hp hbi hbm hu;generalize corL ⟨(wy m.ways i).x,(wy m.ways i).y⟩ p.fr ⟨(wy m.ways (i+1)).x,(wy m.ways (i+1)).y⟩ p.tw=cl at *;generalize corE ⟨(wy m.ways i).x,(wy m.ways i).y⟩ p.fr ⟨(wy m.ways (i+1)).x,(wy m.ways (i+1)).y⟩ p.tw=ce at *;generalize (wy m.ways i).x=px at *;generalize (wy m.ways i).y=py at *;generalize (wy m.ways (i+1)).x=qx at *;generalize (wy m.ways (i+1)).y=qy at *;simp only at f1;generalize withinB cl p.cor=wb at *;generalize bothE cl p.cor=we at *;generalize firB p.cor m.rocks=fb at *;generalize firI p.cor m.rocks=fi at *;generalize firE p.cor m.rocks=fe at *;replace f1:=Lib.hid f1;replace f2:=Lib.hid f2;replace f3:=Lib.hid f3;have ha':(i:Int)<m.ways.length:=by omega
 have hb':((i+1:Nat):Int)<m.ways.length:=by omega
 have hb'':(i:Int)+1<m.ways.length:=by omega
 have ha0:(0:Int)≤i:=by omega
 have hb0:(0:Int)≤(i:Int)+1:=by omega
 have jw:IntKind.i64.wrap ((i:Int)+1)=((i+1:Nat):Int):=by rw [show (i:Int)+1=((i+1:Nat):Int) by omega];exact zW2
 have BW:=Lib.hid (Below.refl w.heap.size w);go_enter Tryz.func48,Tryz.ntmps48;go_upto_region 1 with fail
 have m0:w.cell? ⟨bm,0,none⟩=some (.slice (some ⟨bw,ow,none⟩) m.ways.length (m.ways.length+cap1)):=HM.out.cell (i:=0) rfl;have i0:=HI.out.cell (i:=0) rfl;have p1:=HP.out.cell (i:=1) rfl;have p2:=HP.out.cell (i:=2) rfl;refine (wpIn_wide (n:=9)).1 ?_;refine Zj (Zt _) 22 (fun X=>Below w.heap.size w X) (by kernel_rfl) (by kernel_rfl) (by kernel_rfl) fun hH inv0=>?_
 have hD:=Below.drew (Below.refl w.heap.size w);generalize hXX1:w.drew=X1 at *;clear hXX1;have BW:=Lib.hid hD;clear hD;refine sk hH (i:=0) (v:=.pointer (some ⟨bm,0,none⟩)) (Ze rfl) inv0 (fun X hX=>?_) fun inv1=>?_
 ·go_simp
 simp only [Act.put,zq5,zr5,zs5];clear inv0;refine sk hH (i:=1) (v:=.slice (some ⟨bw,ow,none⟩) m.ways.length (m.ways.length+cap1)) (Ze rfl) inv1 (fun X hX=>?_) fun inv2=>?_
 ·have r0:=(hX.cell (p:=⟨bm,0,none⟩) (World.block_lt_of_cell? _ _ m0)).trans m0;go_simp
 simp only [Act.put,zq5,zr5,zs5];clear inv1;refine sk hH (i:=2) (v:=.int .i64 (i:Int)) (Ze rfl) inv2 (fun X hX=>?_) fun inv3=>?_
 ·have r0:=(hX.cell (p:=⟨bi,0,none⟩) (World.block_lt_of_cell? _ _ i0)).trans i0;go_simp
 simp only [Act.put,zq5,zr5,zs5];clear inv2;refine sk hH (i:=3) (v:=.pointer (some ⟨bw,ow+i*5,none⟩)) (Ze rfl) inv3 (fun X hX=>?_) fun inv4=>?_
 ·go_simp
 simp only [Act.put,zq5,zr5,zs5];clear inv3;refine sk hH (i:=4) (v:=.pointer (some ⟨bw,ow+i*5,none⟩)) (Ze rfl) inv4 (fun X hX=>?_) fun inv5=>?_
 ·go_simp
 simp only [Act.put,zq5,zr5,zs5];clear inv4;refine sk hH (i:=5) (v:=.agg #[.int .i64 px,.int .i64 py]) (Ze rfl) inv5 (fun X hX=>?_) fun inv6=>?_
 ·have r0:=(hX.cell (p:=⟨bw,ow+i*5,none⟩) (World.block_lt_of_cell? _ _ x1)).trans x1;have r1:=(hX.cell (p:=⟨bw,ow+i*5+1,none⟩) (World.block_lt_of_cell? _ _ x2)).trans x2;go_simp
 simp only [Act.put,zq5,zr5,zs5];clear inv5;refine sk hH (i:=6) (v:=.pointer (some ⟨bp,1,none⟩)) (Ze rfl) inv6 (fun X hX=>?_) fun inv7=>?_
 ·go_simp
 simp only [Act.put,zq5,zr5,zs5];clear inv6;refine sk hH (i:=7) (v:=.int .i64 p.fr) (Ze rfl) inv7 (fun X hX=>?_) fun inv8=>?_
 ·have r0:=(hX.cell (p:=⟨bp,1,none⟩) (World.block_lt_of_cell? _ _ p1)).trans p1;go_simp
 simp only [Act.put,zq5,zr5,zs5];clear inv7;refine sk hH (i:=8) (v:=.pointer (some ⟨bm,0,none⟩)) (Ze rfl) inv8 (fun X hX=>?_) fun inv9=>?_
 ·go_simp
 simp only [Act.put,zq5,zr5,zs5];clear inv8;refine sk hH (i:=9) (v:=.slice (some ⟨bw,ow,none⟩) m.ways.length (m.ways.length+cap1)) (Ze rfl) inv9 (fun X hX=>?_) fun inv10=>?_
 ·have r0:=(hX.cell (p:=⟨bm,0,none⟩) (World.block_lt_of_cell? _ _ m0)).trans m0;go_simp
 simp only [Act.put,zq5,zr5,zs5];clear inv9;refine sk hH (i:=10) (v:=.int .i64 (i:Int)) (Ze rfl) inv10 (fun X hX=>?_) fun inv11=>?_
 ·have r0:=(hX.cell (p:=⟨bi,0,none⟩) (World.block_lt_of_cell? _ _ i0)).trans i0;go_simp
 simp only [Act.put,zq5,zr5,zs5];clear inv10;refine sk hH (i:=11) (v:=.int .i64 ((i+1:Nat):Int)) (Ze rfl) inv11 (fun X hX=>?_) fun inv12=>?_
 ·go_simp
 simp only [Act.put,zq5,zr5,zs5];clear inv11;refine sk hH (i:=12) (v:=.pointer (some ⟨bw,ow+(i+1)*5,none⟩)) (Ze rfl) inv12 (fun X hX=>?_) fun inv13=>?_
 ·go_simp
 simp only [Act.put,zq5,zr5,zs5];clear inv12;refine sk hH (i:=13) (v:=.pointer (some ⟨bw,ow+(i+1)*5,none⟩)) (Ze rfl) inv13 (fun X hX=>?_) fun inv14=>?_
 ·go_simp
 simp only [Act.put,zq5,zr5,zs5];clear inv13;refine sk hH (i:=14) (v:=.agg #[.int .i64 qx,.int .i64 qy]) (Ze rfl) inv14 (fun X hX=>?_) fun inv15=>?_
 ·have r0:=(hX.cell (p:=⟨bw,ow+(i+1)*5,none⟩) (World.block_lt_of_cell? _ _ x3)).trans x3;have r1:=(hX.cell (p:=⟨bw,ow+(i+1)*5+1,none⟩) (World.block_lt_of_cell? _ _ x4)).trans x4;go_simp
 simp only [Act.put,zq5,zr5,zs5];clear inv14;refine sk hH (i:=15) (v:=.pointer (some ⟨bp,2,none⟩)) (Ze rfl) inv15 (fun X hX=>?_) fun inv16=>?_
 ·go_simp
 simp only [Act.put,zq5,zr5,zs5];clear inv15;refine sk hH (i:=16) (v:=.int .i64 p.tw) (Ze rfl) inv16 (fun X hX=>?_) fun inv17=>?_
 ·have r0:=(hX.cell (p:=⟨bp,2,none⟩) (World.block_lt_of_cell? _ _ p2)).trans p2;go_simp
 simp only [Act.put,zq5,zr5,zs5];clear inv16;have inv18:=HeadInv.put2 inv17 (j:=17) (by kernel_rfl) (by omega)
 clear inv17;refine sa1 (r:=17) BW.out ?_;refine ZM (Ze rfl) rfl (f:=25) (args:=#[.agg #[.int .i64 px,.int .i64 py],.int .i64 p.fr,.agg #[.int .i64 qx,.int .i64 qy],.int .i64 p.tw]) (by go_simp) (f1.out X1) ?_
 rintro e w1 ⟨v1,rfl,p9,b1⟩;refine⟨_,rfl,?_⟩;simp only [Act.put,zq5,zr5,zs5];replace BW:=zAg BW b1;clear b1;have P1:=Lib.hid p9;clear p9;refine sk hH (i:=18) (v:=.tuple #[v1,.int .i64 ce]) (Ze rfl) inv18 (fun X hX=>?_) fun inv19=>?_
 ·go_simp
 simp only [Act.put,zq5,zr5,zs5];clear inv18;refine sk hH (i:=19) (v:=v1) (Ze rfl) inv19 (fun X hX=>?_) fun inv20=>?_
 ·go_simp
 simp only [Act.put,zq5,zr5,zs5];clear inv19;refine sk hH (i:=20) (v:=.int .i64 ce) (Ze rfl) inv20 (fun X hX=>?_) fun inv21=>?_
 ·go_simp
 simp only [Act.put,zq5,zr5,zs5];clear inv20;refine sk hH (i:=21) (v:=v1) (Ze rfl) inv21 (fun X hX=>?_) fun inv22=>?_
 ·go_simp
 simp only [Act.put,zq5,zr5,zs5];clear inv21 inv22 hH;refine Zv (by kernel_rfl) BW.out ?_
 simp only [List.drop_succ_cons,List.drop_zero];obtain⟨g1,d1,hv1⟩:=P1.out.len;subst hv1;clear m0 i0 p1 p2 x1 x2 x3 x4;have q0:=(zCw HP BW).cell (i:=0) rfl;gi_wp2;by_cases hc:ce=0;rotate_left
 ·have dc:(ce == 0)=false:=by rw [beq_eq_false_iff_ne];exact hc
  have db:=Lib.hid (decide_eq_false hc);clear hc q0;go_wp2;go_ret;exact⟨by rw [db.out];rfl,BW.out⟩
 have dc:(ce == 0)=true:=by rw [beq_iff_eq];exact hc
 have db:=Lib.hid (decide_eq_true hc);clear hc;go_wp2_with fail;refine (f2.out _ _ BW.out P1.out).mono ?_;rintro e w2 ⟨rfl,b2⟩;replace BW:=zAg BW b2;have B_w1:=Lib.hid b2;clear b2 q0;have q0:=(zCw HP BW).cell (i:=0) rfl;have q3:w2.cell? ⟨bm,3,none⟩=some (.slice a3 m.rocks.length (m.rocks.length+cap3)):=(zCw HM BW).cell (i:=3) rfl;go_wp2_with fail;refine (f3.out _ BW.out).mono ?_;rintro e w3 ⟨rfl,b3⟩;replace BW:=zAg BW b3;replace B_w1:=zAg B_w1 b3;clear b3 q0 q3;cases wb
 ·go_wp2
  go_ret;exact⟨by rw [db.out];rfl,BW.out⟩
 go_wp2;go_ret;exact⟨by rw [db.out];simp,BW.out⟩
end
theorem Z7k {m:Msn} {i:Nat} {u v t e:Int}:kpsE m i u v t e=0↔ccB m i u (i+1) v=true∧(ccC m (i+1) v (dep m (i+1))=true∧lieB m (bkR m (i+1) v (dep m (i+1)))=true)∧e+homeE m (i+1) (dep m (i+1))≤m.battery∧t+homeT m (i+1) (dep m (i+1))≤m.deadline:=by
 unfold kpsE hwE;cases ccB m i u (i+1) v <;> cases ccC m (i+1) v (dep m (i+1)) <;> cases lieB m (bkR m (i+1) v (dep m (i+1))) <;> simp;by_cases h1:m.battery<e+homeE m (i+1) (dep m (i+1))
 ·rw [if_pos h1];exact⟨fun h=>by omega,fun h=>by omega⟩
 ·rw [if_neg h1]
  by_cases h2:m.deadline<t+homeT m (i+1) (dep m (i+1))
  ·rw [if_pos h2];exact⟨fun h=>by omega,fun h=>by omega⟩
  ·rw [if_neg h2];exact⟨fun _=>by omega,fun _=>rfl⟩
section
variable (m:Msn) (R:List (List Pt)) (b d s:Int)
end
end Go.Proofs.YtpimbaaahcemhaaGreat
