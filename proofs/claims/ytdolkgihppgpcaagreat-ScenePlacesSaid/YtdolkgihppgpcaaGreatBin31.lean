/- package scene: showRock, showHome, onRock, inside, nothing. | package plan: farthest. | package plan: Best, Refused. -/
import Derived.Test.YtdolkgihppgpcaaGreatBin30
set_option linter.unusedSimpArgs false
set_option linter.unusedVariables false
set_option maxRecDepth 8000
set_option maxHeartbeats 6400000
namespace Go.Proofs.YtdolkgihppgpcaaGreat
section
attribute [local irreducible] wpQuiet
open Go.RowKit
theorem Z55 {l:List Pt} {j:Nat} (h:j<l.length):nth l j=l[j]:=by simp [nth,List.getD_eq_getElem?_getD,List.getElem?_eq_getElem h]
theorem Z3v (m:Msn) (l:List Int) (vw vh vr vb va:Value) (w:World) (T:StgAt w.heap.size w m l vw vh vr vb va) (V:VMsn m) (k:Nat) (hk:k+1<m.ways.length) (Bo:Nat) (vs:Value) (q1 q2 q3 q4 q5:Int) (HO:Has w Bo #[vs,.int .i64 q1,.int .i64 q2,.int .i64 q3,.int .i64 q4,.int .i64 q5] 33) (hf:firB (ownC m l k) m.rocks=true) :
  Calls Tryz.prog 26 #[.agg (stgC m vw vh vr vb va k),.pointer (some ⟨Bo,0,none⟩)] w fun e w'=>e=.returned (.int .i64 (outE m (ownC m l k)))∧Has w' Bo (outC m vs q1 q2 (ownC m l k)) 33∧w.grownBy w' (some Bo):=by
 have lo:=HO.lt;have n41:=V.n41;have fo:=fun (W:World) (B:Below w.heap.size w W)=>Z5J m l vw vh vr vb va W (T.up B) k hk n41
 have fy:∀ (W:World) (B:Below w.heap.size w W) vp (hp:Z8 W.heap.size W vp (ownC m l k)),Calls Tryz.prog 58 #[.agg (stgC m vw vh vr vb va k),vp,.pointer (some ⟨Bo,0,none⟩)] W fun e w'=>e=.returned (.tuple #[.bool true,.int .i64 (outE m (ownC m l k))])∧Has w' Bo (outC m vs q1 q2 (ownC m l k)) 33∧W.grownBy w' (some Bo) :=
  fun (W:World) (B:Below w.heap.size w W) vp hp=>Z5K m l vw vh vr vb va W (T.up B) k vp _ hp Bo vs q1 q2 q3 q4 q5 (HO.below B lo) hf
 obtain⟨-,ab,cb,rfl,-⟩:=T.bef;obtain⟨-,aa,ca,rfl,-⟩:=T.aft;obtain⟨⟨-,a1,c1,rfl,hcw⟩,⟨-,a2,c2,rfl,-⟩,⟨-,a3,c3,rfl,hcr⟩⟩:=T.msn;clear T hcw hcr V HO hf;unfold stgC PtsQ at *;generalize outC m vs q1 q2 (ownC m l k)=oc at *;generalize outE m (ownC m l k)=oe at *;generalize ownC m l k=oo at *;replace fo:=Lib.hid fo;replace fy:=Lib.hid fy;have BW:=Lib.hid (Below.refl w.heap.size w);go_enter Tryz.func26,Tryz.ntmps26;go_upto_region 1 with fail
 generalize hXX0:World.alloc w _=X0;obtain⟨q0,hA,hzX0⟩:=box1 hXX0;clear hXX0;have BW:=Lib.hid hA;clear hA;have SB:=Lib.hid q0;clear q0 hzX0;have hS0:=SB.out;have ltS:=hS0.lt;have zw0:=BW.out.size;refine (wpIn_wide (n:=9)).1 ?_;refine Zg (Zj _) 9 (fun X=>Has X w.heap.size #[.slice a1 m.ways.length (m.ways.length+c1),.slice a2 m.home.length (m.home.length+c2),.int .i64 m.start,.slice a3 m.rocks.length (m.rocks.length+c3),.int .i64 m.speed,.int .i64 m.part,.int .i64 m.flow,.int .i64 m.idle,.int .i64 m.drive,.int .i64 m.battery,.int .i64 m.deadline,.slice ab (rdBU m l).length ((rdBU m l).length+cb),.slice aa (rdAU m l).length ((rdAU m l).length+ca),.int .i64 (k:Int)] 67) (by kernel_rfl) (by kernel_rfl) (by kernel_rfl) fun hH inv0=>?_
 refine sk hH (i:=0) (v:=.agg #[.slice a1 m.ways.length (m.ways.length+c1),.slice a2 m.home.length (m.home.length+c2),.int .i64 m.start,.slice a3 m.rocks.length (m.rocks.length+c3),.int .i64 m.speed,.int .i64 m.part,.int .i64 m.flow,.int .i64 m.idle,.int .i64 m.drive,.int .i64 m.battery,.int .i64 m.deadline,.slice ab (rdBU m l).length ((rdBU m l).length+cb),.slice aa (rdAU m l).length ((rdAU m l).length+ca),.int .i64 (k:Int)]) (Zd rfl) inv0 (fun X hX=>?_) fun inv1=>?_
 ·obtain⟨s0,s1,s2,s3,s4,s5,s6,s7,s8,s9,s10,s11,s12,s13⟩:=ZF (m:=m) (k:=k) hX;go_simp
 simp only [Act.put,zq4,zr4,zs4];clear inv0;refine sk hH (i:=1) (v:=.agg #[.slice a1 m.ways.length (m.ways.length+c1),.slice a2 m.home.length (m.home.length+c2),.int .i64 m.start,.slice a3 m.rocks.length (m.rocks.length+c3),.int .i64 m.speed,.int .i64 m.part,.int .i64 m.flow,.int .i64 m.idle,.int .i64 m.drive,.int .i64 m.battery,.int .i64 m.deadline,.slice ab (rdBU m l).length ((rdBU m l).length+cb),.slice aa (rdAU m l).length ((rdAU m l).length+ca),.int .i64 (k:Int)]) (Zd rfl) inv1 (fun X hX=>?_) fun inv2=>?_
 ·obtain⟨s0,s1,s2,s3,s4,s5,s6,s7,s8,s9,s10,s11,s12,s13⟩:=ZF (m:=m) (k:=k) hX;go_simp
 simp only [Act.put,zq4,zr4,zs4];clear inv1;refine sk hH (i:=3) (v:=.pointer (some ⟨Bo,0,none⟩)) (Zd rfl) inv2 (fun X hX=>?_) fun inv3=>?_
 ·go_simp
 simp only [Act.put,zq4,zr4,zs4];clear inv2;have hS1:Has X0.drew w.heap.size #[.slice a1 m.ways.length (m.ways.length+c1),.slice a2 m.home.length (m.home.length+c2),.int .i64 m.start,.slice a3 m.rocks.length (m.rocks.length+c3),.int .i64 m.speed,.int .i64 m.part,.int .i64 m.flow,.int .i64 m.idle,.int .i64 m.drive,.int .i64 m.battery,.int .i64 m.deadline,.slice ab (rdBU m l).length ((rdBU m l).length+cb),.slice aa (rdAU m l).length ((rdAU m l).length+ca),.int .i64 (k:Int)] 67:=hS0;have hB1:Below w.heap.size w X0.drew:=BW.out.trans ((Below.drew (Below.refl _ _)).mono BW.out.size);clear hS0;generalize X0.drew=X1 at *;have inv4:=HeadInv.put2 inv3 (j:=2) (by kernel_rfl) (by omega)
 clear inv3;refine Zw (rs:=[2]) (by kernel_rfl) (by simp) hS1 (by simp) (fun i' hi'=>?_)
 simp only [List.mem_cons,List.not_mem_nil,or_false] at hi';subst hi';refine Zp (Zd rfl) rfl (f:=59) (args:=#[.agg #[.slice a1 m.ways.length (m.ways.length+c1),.slice a2 m.home.length (m.home.length+c2),.int .i64 m.start,.slice a3 m.rocks.length (m.rocks.length+c3),.int .i64 m.speed,.int .i64 m.part,.int .i64 m.flow,.int .i64 m.idle,.int .i64 m.drive,.int .i64 m.battery,.int .i64 m.deadline,.slice ab (rdBU m l).length ((rdBU m l).length+cb),.slice aa (rdAU m l).length ((rdAU m l).length+ca),.int .i64 (k:Int)]]) (by go_simp) (fo.out X1 hB1) ?_
 rintro e w2 ⟨v1,rfl,p1,b1⟩;refine⟨_,rfl,?_⟩;simp only [Act.put,zq4,zr4,zs4];have hS2:=hS1.below b1 hS1.lt;have hB2:=hB1.trans (b1.mono hB1.size);have P1:=Lib.hid p1;obtain⟨g1,d1,hv1⟩:=P1.out.len;subst hv1;clear p1 b1;have inv5:=HeadInv.put2 inv4 (j:=4) (by kernel_rfl) (by omega)
 clear inv4;refine Zw (rs:=[4]) (by kernel_rfl) (by simp) hS2 (by simp) (fun i' hi'=>?_)
 simp only [List.mem_cons,List.not_mem_nil,or_false] at hi';subst hi';refine Zp (Zd rfl) rfl (f:=58) (args:=#[.agg #[.slice a1 m.ways.length (m.ways.length+c1),.slice a2 m.home.length (m.home.length+c2),.int .i64 m.start,.slice a3 m.rocks.length (m.rocks.length+c3),.int .i64 m.speed,.int .i64 m.part,.int .i64 m.flow,.int .i64 m.idle,.int .i64 m.drive,.int .i64 m.battery,.int .i64 m.deadline,.slice ab (rdBU m l).length ((rdBU m l).length+cb),.slice aa (rdAU m l).length ((rdAU m l).length+ca),.int .i64 (k:Int)],.slice g1 oo.length (oo.length+d1),.pointer (some ⟨Bo,0,none⟩)]) (by go_simp) (fy.out w2 hB2 _ P1.out) ?_
 rintro e w3 ⟨rfl,h3,n3⟩;refine⟨_,rfl,?_⟩;simp only [Act.put,zq4,zr4,zs4];have hS3:Has w3 w.heap.size #[.slice a1 m.ways.length (m.ways.length+c1),.slice a2 m.home.length (m.home.length+c2),.int .i64 m.start,.slice a3 m.rocks.length (m.rocks.length+c3),.int .i64 m.speed,.int .i64 m.part,.int .i64 m.flow,.int .i64 m.idle,.int .i64 m.drive,.int .i64 m.battery,.int .i64 m.deadline,.slice ab (rdBU m l).length ((rdBU m l).length+cb),.slice aa (rdAU m l).length ((rdAU m l).length+ca),.int .i64 (k:Int)] 67:=(n3.block _ hS2.lt (fun e=>by cases e;omega)).trans hS2
 have HF:=Lib.hid (And.intro h3 (show w.grownBy w3 (some Bo) from Z62 hB2 n3))
 clear h3 n3 hS1 hS2 hB1 hB2;refine sk hH (i:=5) (v:=.tuple #[.bool true,.int .i64 oe]) (Zd rfl) inv5 (fun X hX=>?_) fun inv6=>?_
 ·go_simp
 simp only [Act.put,zq4,zr4,zs4];clear inv5;refine sk hH (i:=6) (v:=.bool true) (Zd rfl) inv6 (fun X hX=>?_) fun inv7=>?_
 ·go_simp
 simp only [Act.put,zq4,zr4,zs4];clear inv6;refine sk hH (i:=7) (v:=.int .i64 oe) (Zd rfl) inv7 (fun X hX=>?_) fun inv8=>?_
 ·go_simp
 simp only [Act.put,zq4,zr4,zs4];clear inv7;refine sk hH (i:=8) (v:=.bool true) (Zd rfl) inv8 (fun X hX=>?_) fun inv9=>?_
 ·go_simp
 simp only [Act.put,zq4,zr4,zs4];clear inv8 inv9 hH;refine Zm (by kernel_rfl) hS3 ?_
 simp only [List.drop_succ_cons,List.drop_zero];gi_wp2;go_wp2;go_ret;exact⟨rfl,HF.out.1,HF.out.2⟩
theorem Z3w (m : Msn) (l : List Int) (vw vh vr vb va : Value) (w : World) (T : StgAt w.heap.size w m l vw vh vr vb va) (V : VMsn m) (k : Nat) (hk : k + 1 < m.ways.length) (Bo : Nat) (vs : Value) (q1 q2 q3 q4 q5 : Int) (HO : Has w Bo #[vs, .int .i64 q1, .int .i64 q2, .int .i64 q3, .int .i64 q4, .int .i64 q5] 33) :
  Calls Tryz.prog 28 #[.agg (stgC m vw vh vr vb va k),.pointer (some ⟨Bo,0,none⟩)] w fun e w'=>e=.returned (.int .i64 0) ∧
   (((∀ x ∈ hmP m l k,hasB m.home x=true)∧Below w.heap.size w w')∨(∃ x ∈ hmP m l k,hasB m.home x=false∧Has w' Bo #[vs,.int .i64 q1,.int .i64 q2,.int .i64 q3,.int .i64 x.x,.int .i64 x.y] 33∧w.grownBy w' (some Bo))):=by
 have lo:=HO.lt;have fd:=fun (W:World) (B:Below w.heap.size w W)=>Z45 m l vw vh vr vb va W (T.up B) V k hk
 have fh:=fun (W:World) (B:Below w.heap.size w W) x=>Z0Z vh m.home x W ((T.msn.2.1.below B).mono B.size)
 obtain⟨-,ab,cb,rfl,-⟩:=T.bef;obtain⟨-,aa,ca,rfl,-⟩:=T.aft;obtain⟨⟨-,a1,c1,rfl,hcw⟩,⟨-,a2,c2,rfl,-⟩,⟨-,a3,c3,rfl,hcr⟩⟩:=T.msn;clear T hcw hcr V;unfold stgC PtsQ at *;generalize hmP m l k=hp at *;replace fd:=Lib.hid fd;replace fh:=Lib.hid fh;have HOh:=Lib.hid HO;clear HO;have BW:=Lib.hid (Below.refl w.heap.size w);go_enter Tryz.func28,Tryz.ntmps28;go_upto_region 1 with fail
 generalize hXX0:World.alloc w _=X0;obtain⟨q0,hA,hzX0⟩:=box1 hXX0;clear hXX0;have BW:=Lib.hid hA;clear hA;have SB:=Lib.hid q0;clear q0 hzX0;have hS0:=SB.out;have zw0:=hS0.lt;obtain⟨s0,s1,s2,s3,s4,s5,s6,s7,s8,s9,s10,s11,s12,s13⟩:=ZF (m:=m) (k:=k) hS0;clear hS0;go_wp2_with fail;refine (fd.out _ BW.out).mono ?_;rintro e w1 ⟨v1,rfl,p1,b1⟩;replace BW:=zAg BW b1;have B_X0:=Lib.hid b1;clear b1;have P1:=Lib.hid p1;clear p1;obtain⟨g1,d1,hv1⟩:=P1.out.len;subst hv1;clear s0 s1 s2 s3 s4 s5 s6 s7 s8 s9 s10 s11 s12 s13;have hl7:hp.length≤70368744177663:=P1.out.1;have HSB:=Lib.hid (zCn SB B_X0);have ltw1:=HSB.out.lt;have zw1:w.heap.size≤w1.heap.size:=BW.out.size;go_wp2
 go_loopw [10] (fun i wr=>∃ j:Nat,j≤hp.length∧i=.int .i64 (j:Int)∧(∀ t,t<j→hasB m.home (nth hp t)=true)∧Below w1.heap.size w1 wr) (fun i _=>hp.length-(intOf i).toNat)
 case atStart=>exact⟨0,Nat.zero_le _,rfl,(fun t ht=>by omega),Below.refl _ _⟩
 case round =>
  obtain⟨j,hj,rfl,hal,hB⟩:=hrel;obtain⟨wo,hwo⟩:∃ x,x=wr:=⟨_,rfl⟩;subst hwo;by_cases hjn:j<hp.length
  ·have dj:decide ((j:Int)<(hp.length:Int))=true:=by rw [decide_eq_true_eq];omega
   have hj':(j:Int)<(hp.length:Int):=by omega
   have hj0:(0:Int)≤(j:Int):=by omega
   obtain⟨-,a9,c9,e9,hc9⟩:=P1.out;obtain⟨b9,o9,e8,hb9,hcc⟩:=hc9.resolve_left (by intro h;rw [h] at hjn;simp at hjn)
   rw [e8] at e9;simp only [Value.slice.injEq] at e9;obtain⟨e7,-,-⟩:=e9;subst e7;obtain⟨x1,x2⟩:=hcc j hjn;have hm9:nth hp j ∈ hp:=by rw [Z55 hjn];exact List.getElem_mem _
   have HBo:=Lib.hid hB;obtain⟨pt,hpt⟩:∃ x,nth hp j=x:=⟨_,rfl⟩;rw [hpt] at x1 x2 hm9;obtain⟨px,py⟩:=pt;simp only at x1 x2;replace x1:=(hB.cell (p:=⟨b9,o9+j*2,none⟩) hb9).trans x1;replace x2:=(hB.cell (p:=⟨b9,o9+j*2+1,none⟩) hb9).trans x2;have HA:=Lib.hid (And.intro hal (And.intro hpt hm9));clear hal hpt hm9 hB hcc hc9 e8;go_upto_region 4 with fail
   generalize hX2:World.alloc wo _=X2;obtain⟨q0,hA2,hz2⟩:=box1 hX2;clear hX2 x1 x2 hz2;have XB:=Lib.hid q0;clear q0;have B2:=zAg HBo hA2;have B2w:=Lib.hid (BW.out.trans (B2.out.mono BW.out.size));clear hA2;have hS2:=HSB.out.below B2.out HSB.out.lt;have s1:=hS2.cell (i:=1) rfl;have x1:=XB.out.cell (i:=0) rfl;have x2:=XB.out.cell (i:=1) rfl;go_wp2_with fail;refine (fh.out X2 B2w.out ⟨px,py⟩).mono ?_;rintro e w4 ⟨rfl,b4⟩;have B4:=zAg B2 b4;have XB4:=XB.out.below b4 XB.out.lt;clear s1 x1 x2 b4 hS2;cases hb9':hasB m.home ⟨px,py⟩
   ·have x1:=XB4.cell (i:=0) rfl
    have x2:=XB4.cell (i:=1) rfl;have hO4:=HOh.out.below (BW.out.trans (B4.out.mono BW.out.size)) lo;have t1:=hO4.cell (i:=4) rfl;have t2:=Ze hO4 4;have t3:=hO4.cell (i:=5) rfl;have t4:=Ze hO4 5;have H4:=Lib.hid (And.intro hO4 hb9');clear hO4 hb9';go_wp2;clear x1 x2 t1 t2 t3 t4;have hO5:=(H4.out.1.set 4 (.int .i64 px)).set 5 (.int .i64 py);simp only [zq4,zr4,zs4] at hO5;have hD5:=Z1w (Z1w (Z3O (BW.out.trans (B4.out.mono BW.out.size)) (some Bo)) (ZJ w4 Bo 4 (.int .i64 px))) (ZJ (w4.setCell ⟨Bo,4,none⟩ (.int .i64 px)) Bo 5 (.int .i64 py));go_ret;exact⟨rfl,.inr ⟨⟨px,py⟩,HA.out.2.2,H4.out.2,hO5,hD5⟩⟩
   ·have H4:=Lib.hid hb9'
    clear hb9';go_wp2;go_roundw
    case rel=>exact⟨j+1,by omega,by go_num,(fun t ht=>by
     by_cases h:t<j
     ·exact HA.out.1 t h
     ·obtain rfl:t=j:=by omega
      rw [HA.out.2.1];exact H4.out),B4.out⟩
    case measure=>simp [intOf];omega
  ·obtain rfl:j=hp.length:=by omega
   have HA:=Lib.hid (And.intro hal hB);clear hal hB;go_wp2;go_ret;exact⟨rfl,.inl ⟨(fun x hx=>by
    obtain⟨t,ht,rfl⟩:=List.getElem_of_mem hx;have:=HA.out.1 t ht
    rwa [Z55 ht] at this),BW.out.trans (HA.out.2.mono BW.out.size)⟩⟩
noncomputable def onR (m:Msn) (r:Int) (x:Pt):Bool:=decide (0≤r) && (decide (r<m.rocks.length) && hasB (rk m.rocks r.toNat) x)
def insB (x:Pt):Bool:=decide (-500000≤x.x) && (decide (x.x≤500000) && (decide (-500000≤x.y) && decide (x.y≤500000)))
def notB (r:Int) (x:Pt):Bool:=decide (r=0) && (decide (x.x=0) && decide (x.y=0))
theorem Z2l (m:Msn) (l:List Int) (vw vh vr vb va:Value) (w:World) (T:StgAt w.heap.size w m l vw vh vr vb va) (k:Nat) (vs:Value) (q1 q2 q3:Int) (x:Pt) :
  Calls Tryz.prog 63 #[.agg (stgC m vw vh vr vb va k),.agg #[vs,.int .i64 q1,.int .i64 q2,.int .i64 q3,.int .i64 x.x,.int .i64 x.y]] w fun e w'=>e=.returned (.bool (onR m q3 x))∧Below w.heap.size w w':=by
 have fh:=fun (W:World) v p h=>Z0Z v p x W h
 unfold onR;obtain⟨-,ab,cb,rfl,-⟩:=T.bef;obtain⟨-,aa,ca,rfl,-⟩:=T.aft;obtain⟨⟨-,a1,c1,rfl,hcw⟩,⟨-,a2,c2,rfl,-⟩,⟨-,a3,c3,rfl,hcr⟩⟩:=T.msn;have hR:=T.msn.2.2;clear T hcw;unfold stgC at *;obtain⟨px,py⟩:=x;simp only at fh ⊢;replace fh:=Lib.hid fh;have HC:=Lib.hid hcr;clear hcr hR;have BW:=Lib.hid (Below.refl w.heap.size w);go_enter Tryz.func63,Tryz.ntmps63;go_upto_region 1 with fail
 generalize hXX0:World.alloc (World.alloc w _) _=X0;obtain⟨q0,q1,hA,hzX0⟩:=box2 hXX0;clear hXX0;have BW:=Lib.hid hA;clear hA;have SB:=Lib.hid q0;clear q0;have XB:=Lib.hid q1;clear q1 hzX0;have q0:=Low.fact (SB.out.cell (i:=3) rfl);have y3:=Low.fact (XB.out.cell (i:=3) rfl);have y4:=Low.fact (XB.out.cell (i:=4) rfl);have y5:=Low.fact (XB.out.cell (i:=5) rfl);by_cases h0:0≤q3
 ·have d1:decide (q3≥0)=true:=by rw [decide_eq_true_eq];exact h0
  have d1':decide (0≤q3)=true:=by rw [decide_eq_true_eq];exact h0
  by_cases h1:q3<m.rocks.length
  ·have d2:decide (q3<(m.rocks.length:Int))=true:=by rw [decide_eq_true_eq];exact h1
   obtain⟨i,rfl⟩:∃ i:Nat,q3=i:=⟨q3.toNat,by omega⟩
   have hi:i<m.rocks.length:=by omega
   obtain⟨br,or',e3,hbr,hcr⟩:=HC.out.resolve_left (by intro h;rw [h] at hi;simp at hi)
   subst e3;obtain⟨u,xu,pu⟩:=hcr i hi;have gh:=Lib.hid (fun w1 (B:Low X0 w1)=>fh.out w1 u (rk m.rocks i) ((pu.below (BW.out.trans (B.out.mono BW.out.size))).mono (Nat.le_trans BW.out.size B.out.size)))
   obtain⟨au,cu,rfl⟩:=pu.len;have xu1:=Low.fact ((BW.out.cell (p:=⟨br,or'+i,none⟩) hbr).trans xu);clear xu pu hcr
   (refine Zh (by kernel_rfl) (by kernel_rfl) ?_;(iterate 25 (apply Zf;(case hw=>rfl);(case hval=>(intro w1 hw1;have hcx:=Low.cells hw1;simp only [Oper.quietAt];go_simp;first | done | (first | (go_at_call 62;exact Low.calls hw1 (gh.out _ hw1))) | rfl | exact⟨rfl,rfl⟩));simp only [Act.put,zq4,zr4,zs4]));refine wpQuiet_nil ?_;intro w2 hw2)
   have BF:=Lib.hid (BW.out.trans (hw2.out.mono BW.out.size));clear hw2;go_wp2;go_ret;exact⟨by simp [d1',d2,hi],BF.out⟩
  ·have d2:decide (q3<(m.rocks.length:Int))=false:=by rw [decide_eq_false_iff_not];exact h1
   (refine Zh (by kernel_rfl) (by kernel_rfl) ?_;(iterate 13 (apply Zf;(case hw=>rfl);(case hval=>(intro w1 hw1;have hcx:=Low.cells hw1;simp only [Oper.quietAt];go_simp;first | done | rfl | exact⟨rfl,rfl⟩));simp only [Act.put,zq4,zr4,zs4]));(iterate 10 (apply Zy;(case hw=>rfl);simp only [Act.put,zq4,zr4,zs4]));(iterate 2 (apply Zf;(case hw=>rfl);(case hval=>(intro w1 hw1;have hcx:=Low.cells hw1;simp only [Oper.quietAt];go_simp;first | done | rfl | exact⟨rfl,rfl⟩));simp only [Act.put,zq4,zr4,zs4]));refine wpQuiet_nil ?_;intro w2 hw2)
   have BF:=Lib.hid (BW.out.trans (hw2.out.mono BW.out.size));clear hw2;go_wp2;go_ret;exact⟨by simp [d1',d2],BF.out⟩
 ·have d1:decide (q3≥0)=false:=by rw [decide_eq_false_iff_not];exact h0
  have d1':decide (0≤q3)=false:=by rw [decide_eq_false_iff_not];exact h0
  (refine Zh (by kernel_rfl) (by kernel_rfl) ?_;(iterate 4 (apply Zf;(case hw=>rfl);(case hval=>(intro w1 hw1;have hcx:=Low.cells hw1;simp only [Oper.quietAt];go_simp;first | done | rfl | exact⟨rfl,rfl⟩));simp only [Act.put,zq4,zr4,zs4]));(iterate 7 (apply Zy;(case hw=>rfl);simp only [Act.put,zq4,zr4,zs4]));(iterate 2 (apply Zf;(case hw=>rfl);(case hval=>(intro w1 hw1;have hcx:=Low.cells hw1;simp only [Oper.quietAt];go_simp;first | done | rfl | exact⟨rfl,rfl⟩));simp only [Act.put,zq4,zr4,zs4]));(iterate 10 (apply Zy;(case hw=>rfl);simp only [Act.put,zq4,zr4,zs4]));(iterate 2 (apply Zf;(case hw=>rfl);(case hval=>(intro w1 hw1;have hcx:=Low.cells hw1;simp only [Oper.quietAt];go_simp;first | done | rfl | exact⟨rfl,rfl⟩));simp only [Act.put,zq4,zr4,zs4]));refine wpQuiet_nil ?_;intro w2 hw2)
  have BF:=Lib.hid (BW.out.trans (hw2.out.mono BW.out.size));clear hw2;go_wp2;go_ret;exact⟨by simp [d1'],BF.out⟩
theorem Z4V (x:Pt) (w:World) :
  Calls Tryz.prog 64 #[.agg #[.int .i64 x.x,.int .i64 x.y]] w fun e w'=>e=.returned (.bool (insB x))∧Below w.heap.size w w':=by
 unfold insB;obtain⟨px,py⟩:=x;simp only;cases h1:decide (-500000≤px)
 ·go_enter Tryz.func64,Tryz.ntmps64
  go_wp2;go_ret;exact⟨rfl,zB2⟩
 cases h2:decide (px≤500000)
 ·go_enter Tryz.func64,Tryz.ntmps64
  go_wp2;go_ret;exact⟨rfl,zB2⟩
 cases h3:decide (-500000≤py)
 ·go_enter Tryz.func64,Tryz.ntmps64
  go_wp2;go_ret;exact⟨rfl,zB2⟩
 cases h4:decide (py≤500000)
 ·go_enter Tryz.func64,Tryz.ntmps64
  go_wp2;go_ret;exact⟨rfl,zB2⟩
 go_enter Tryz.func64,Tryz.ntmps64;go_wp2;go_ret;exact⟨rfl,zB2⟩
theorem Z3Z (cs : Array Value) (a b c d e f g h i j k l' m' n' : Value) (hcs : cs = #[a, b, c, d, e, f, g, h, i, j, k, l', m', n']) (vs : Value) (q1 q2 q3 : Int) (x : Pt) (w : World) :
  Calls Tryz.prog 34 #[.agg cs,.agg #[vs,.int .i64 q1,.int .i64 q2,.int .i64 q3,.int .i64 x.x,.int .i64 x.y]] w fun e w'=>e=.returned (.bool (notB q3 x))∧Below w.heap.size w w':=by
 subst hcs;unfold notB;obtain⟨px,py⟩:=x;simp only;by_cases h0:q3=0
 ·subst h0
  by_cases h1:px=0
  ·subst h1
   by_cases h2:py=0
   ·subst h2
    go_enter Tryz.func34,Tryz.ntmps34;go_wp2;go_ret;exact⟨rfl,zB2⟩
   ·have d2:decide (py=0)=false:=by rw [decide_eq_false_iff_not];exact h2
    have d2':(py == 0)=false:=by rw [beq_eq_false_iff_ne];exact h2
    rw [d2];go_enter Tryz.func34,Tryz.ntmps34;go_wp2;go_ret;exact⟨rfl,zB2⟩
  ·have d1:decide (px=0)=false:=by rw [decide_eq_false_iff_not];exact h1
   have d1':(px == 0)=false:=by rw [beq_eq_false_iff_ne];exact h1
   rw [d1];go_enter Tryz.func34,Tryz.ntmps34;go_wp2;go_ret;exact⟨rfl,zB2⟩
 ·have d0:decide (q3=0)=false:=by rw [decide_eq_false_iff_not];exact h0
  have d0':(q3 == 0)=false:=by rw [beq_eq_false_iff_ne];exact h0
  rw [d0];go_enter Tryz.func34,Tryz.ntmps34;go_wp2;go_ret;exact⟨rfl,zB2⟩
end
section
attribute [local go_sem] Oper.semAt_some
attribute [local irreducible] wpQuiet
open Go.RowKit
theorem Z7B (m:Msn) (l:List Int):kpL m l≤((m.ways.length-1:Nat):Int):=by
 unfold kpL leadV;have:=(Z1r m l).1
 split <;> omega
theorem Zaa (m : Msn) (vw vh vr : Value) (w : World) (hm : MsnAt w.heap.size w m vw vh vr) (hV : validB m = true) (h13 : m.ways.length ≤ 13) :
  Calls Tryz.prog 35 #[.agg (Zc m vw vh vr)] w fun e w'=>∃ v,e=.returned (.tuple #[.int .i64 (bestP m).1,v,.int .i64 0])∧Z9 w'.heap.size w' v (bestP m).2∧Below w.heap.size w w'∧∀ r,v.ownBlock=some r→w.heap.size≤r:=by
 have f1:=fun w1 (B:Below w.heap.size w w1)=>Z0p m vw vh vr w1 ((hm.below B).mono B.size)
 rw [hV] at f1;have f2:=fun w1 (B:Below w.heap.size w w1)=>Z80 m vw vh vr w1 ((hm.below B).mono B.size) (by omega)
 have f3:=fun vl l w1 (B:Below w.heap.size w w1) hl=>Z0Y m vw vh vr vl l w1 ((hm.below B).mono B.size) hl
 have n2:=((Zs m).1 hV).n2;have htop:=fun l=>Z7B m l
 obtain⟨⟨-,a1,c1,rfl,-⟩,⟨-,a2,c2,rfl,-⟩,⟨-,a3,c3,rfl,-⟩⟩:=hm;unfold Zc at *;have hfl:(fixL m).length≤m.ways.length-1:=Z1y m m.ways.length;replace f1:=Lib.hid f1;replace f2:=Lib.hid f2;replace f3:=Lib.hid f3;replace htop:=Lib.hid htop;have BW:=Lib.hid (Below.refl w.heap.size w);refine (callsIn_wide (n:=9)).1 ?_;refine callsIn_of_wp_marks Tryz.func35 rfl trivial ?_ rfl;simp only [Tryz.ntmps35,List.size_toArray,List.length_cons,List.length_nil,Nat.reduceAdd,Nat.reduceSub,Array.replicate_succ,Array.replicate_zero,List.push_toArray,List.append_toArray,List.nil_append,List.cons_append];refine wpIn_wide.2 ?_;go_wp2_with fail;generalize hXX0:World.alloc (World.alloc (World.alloc (World.alloc w _) _) _) _=X0;obtain⟨q0,q1,q2,q3,hA,hzX0⟩:=box4 hXX0;clear hXX0;have BW:=Lib.hid hA;clear hA;have MB:=Lib.hid q0;clear q0;have LB:=Lib.hid q1;clear q1;have SB:=Lib.hid q2;clear q2;have EB:=Lib.hid q3;clear q3;obtain⟨c0,c1,c2,c3,c4,c5,c6,c7,c8,c9,c10⟩:=Zi (m:=m) MB.out;refine (f1.out _ BW.out).mono ?_;rintro e w1 ⟨rfl,b1⟩;replace BW:=zAg BW b1;have B_X0:=Lib.hid b1;clear b1 c0 c1 c2 c3 c4 c5 c6 c7 c8 c9 c10;obtain⟨c0,c1,c2,c3,c4,c5,c6,c7,c8,c9,c10⟩:=Zi (m:=m) (zCn MB B_X0);go_wp2_with fail;have hzw1:=Lib.hid (show w.heap.size+4≤w1.heap.size by have:=B_X0.out.size;omega)
 refine (f2.out _ BW.out).mono ?_;rintro e w2 ⟨v2,rfl,p2,b2,n2'⟩;replace BW:=zAg BW b2;replace B_X0:=zAg B_X0 b2;clear b2;have FX:=Lib.hid p2;clear p2;obtain⟨hfl2,af,cf,hvf,hcf⟩:=FX.out;subst hvf;have NF:=Lib.hid n2';have CF:=Lib.hid hcf;clear n2' hcf c0 c1 c2 c3 c4 c5 c6 c7 c8 c9 c10;obtain⟨c0,c1,c2,c3,c4,c5,c6,c7,c8,c9,c10⟩:=Zi (m:=m) (zCn MB B_X0);clear c0 c1 c2 c3 c4 c5 c6 c7 c8 c9 c10;have dk:decide (((fixL m).length:Int)>12)=false:=by rw [decide_eq_false_iff_not];omega
 have jw:IntKind.i64.wrap (((fixL m).length:Int)+1)=((fixL m).length:Int)+1:=zW2;have h2:=(zCn LB B_X0);have l0:w2.cell? ⟨w.heap.size+1,0,none⟩=some (.int .i64 0):=h2.cell (i:=0) rfl;have l1:=Ze h2 0;have hzw2:=Lib.hid (show w.heap.size+4≤w2.heap.size by have:=B_X0.out.size;omega)
 have ltw2:=hzw2.out;have HX2:=Lib.hid (And.intro (zCn MB B_X0) (And.intro h2 (And.intro (zCn SB B_X0) (zCn EB B_X0))));clear h2;go_wp2;clear l0 l1;generalize hZ:World.setCell w2 _ _=Z;have FB:FarB (w.heap.size+1) (w.heap.size+1+1) (w.heap.size+1+1+1) w Z:=by subst hZ;exact⟨by simp;omega,by simp;omega,by simp;omega,by omega,by omega,by omega,by simp;omega⟩
 have ZS:Z.heap.size=w2.heap.size:=by subst hZ;simp
 have ZK:∀ b,b≠(w.heap.size+1)→Z.heap[b]?=w2.heap[b]?:=fun b hb=>by subst hZ;exact Below.heap_setCell _ _ _ b hb
 have FI0:FarI (w.heap.size+1) (w.heap.size+1+1) (w.heap.size+1+1+1) w Z (-1,[]) [] (.slice none 0 0) Z:=by
  obtain⟨-,g1,g2,g3⟩:=HX2.out;subst hZ;exact⟨Boxed.set _ g1,(ZK _ (by omega)).trans g2,(ZK _ (by omega)).trans g3,Z9.nil _ _,BW.out.setCell (p:=⟨w.heap.size+1,0,none⟩) (by simp) _,KeepsP.refl _ _,(fun D hD=>by cases hD),List.nodup_nil,(fun r e=>by cases e)⟩
 have HMB:Has Z w.heap.size _ 26:=(ZK _ (by omega)).trans HX2.out.1
 have HCF:(fixL m)=[]∨∃ b o,af=some ⟨b,o,none⟩∧b<Z.heap.size∧w.heap.size+4≤b∧∀ j,j<(fixL m).length→Z.cell? ⟨b,o+j,none⟩=some (.int .i64 ((fixL m).getD j 0)):=by
  rcases CF.out with h | ⟨b,o,e1,hb,hc⟩
  ·exact .inl h
  ·have hnb:=NF.out b (by rw [e1];rfl)
   have:=hzw1.out;exact .inr ⟨b,o,e1,by omega,by omega,fun j hj=>(World.cell?_of_block (ZK b (by omega))).trans (hc j hj)⟩
 replace FB:=Lib.hid FB;replace FI0:=Lib.hid FI0;replace HMB:=Lib.hid HMB;replace HCF:=Lib.hid HCF;clear hZ ZK HX2 CF NF hzw1 hzw2 ltw2 ZS BW B_X0 MB LB SB EB FX;refine wp_loop (fun a' W'=>∃ (u6 u7 u8 u9 u10 u23 u24 u25 u26 u27 u28 u29 u30 u31 u32 u33 u34 u35 u36 u37 u38 u39 u40 u41 u42 u43 u44 u45 u46 u47 u48 u49 u50 u51:Value) (k:Nat) (ds:List Nat) (v:Value),k≤(fixL m).length+1∧FarI (w.heap.size+1) (w.heap.size+1+1) (w.heap.size+1+1+1) w Z ((allTo (fixL m) k).foldl (farS (kpL m)) (-1,[])) ds v W'∧a'={ tmps:=#[.agg #[.slice a1 m.ways.length (m.ways.length+c1),.slice a2 m.home.length (m.home.length+c2),.int .i64 m.start,.slice a3 m.rocks.length (m.rocks.length+c3),.int .i64 m.speed,.int .i64 m.part,.int .i64 m.flow,.int .i64 m.idle,.int .i64 m.drive,.int .i64 m.battery,.int .i64 m.deadline],.pointer (some ⟨w.heap.size,0,none⟩),.pointer (some ⟨w.heap.size+1,0,none⟩),.pointer (some ⟨w.heap.size+1+1,0,none⟩),.pointer (some ⟨w.heap.size+1+1+1,0,none⟩),.slice af (fixL m).length ((fixL m).length+cf),u6,u7,u8,u9,u10,.agg #[.slice a1 m.ways.length (m.ways.length+c1),.slice a2 m.home.length (m.home.length+c2),.int .i64 m.start,.slice a3 m.rocks.length (m.rocks.length+c3),.int .i64 m.speed,.int .i64 m.part,.int .i64 m.flow,.int .i64 m.idle,.int .i64 m.drive,.int .i64 m.battery,.int .i64 m.deadline],.bool true,.bool false,.agg #[.slice a1 m.ways.length (m.ways.length+c1),.slice a2 m.home.length (m.home.length+c2),.int .i64 m.start,.slice a3 m.rocks.length (m.rocks.length+c3),.int .i64 m.speed,.int .i64 m.part,.int .i64 m.flow,.int .i64 m.idle,.int .i64 m.drive,.int .i64 m.battery,.int .i64 m.deadline],.slice af (fixL m).length ((fixL m).length+cf),.slice af (fixL m).length ((fixL m).length+cf),.int .i64 ((fixL m).length:Int),.bool false,.slice af (fixL m).length ((fixL m).length+cf),.int .i64 ((fixL m).length:Int),.int .i64 (((fixL m).length:Int)+1),.int .i64 (k:Int),u23,u24,u25,u26,u27,u28,u29,u30,u31,u32,u33,u34,u35,u36,u37,u38,u39,u40,u41,u42,u43,u44,u45,u46,u47,u48,u49,u50,u51],defers:=ds.map (fun D=>{ target:=.collected D,args:=#[] }) }) (fun a' _=>(fixL m).length+2-(intOf (a'.tmps.getD 22 undef)).toNat) ?_ ?_
 ·exact⟨_,_,_,_,_,_,_,_,_,_,_,_,_,_,_,_,_,_,_,_,_,_,_,_,_,_,_,_,_,_,_,_,_,_,0,[],_,by omega,FI0.out,rfl⟩
 ·rintro a' Wo ⟨u6,u7,u8,u9,u10,u23,u24,u25,u26,u27,u28,u29,u30,u31,u32,u33,u34,u35,u36,u37,u38,u39,u40,u41,u42,u43,u44,u45,u46,u47,u48,u49,u50,u51,k,ds,v,hk,hI,rfl⟩
  by_cases hkl:k<(fixL m).length+1
  ·have d1:decide ((k:Int)<((fixL m).length:Int)+1)=true:=by rw [decide_eq_true_eq];omega
   replace hI:=Lib.hid hI;go_wp2_with fail;refine (Z5v _ _ _ _ _).mono ?_;rintro e W1 ⟨rfl,hW1⟩;obtain⟨q0,q1,hA,hz1⟩:=box2 hW1.symm;clear hW1;go_wp2;have zk:=hI.out.kee.1;have zw1:=hA.size;have hI1:=Lib.hid (hI.out.below FB.out hA);have HCB:∀ b,b<Z.heap.size→w.heap.size+4≤b→W1.heap[b]?=Z.heap[b]?:=fun b hb h4=>(hA.block b (by omega)).trans (hI.out.kee.2 b ⟨hb,by omega,by omega,by omega⟩)
   have hseq:=Z6N (fun b=>b=Wo.heap.size+1∨b=Wo.heap.size∨∃ a,af=some a∧b=a.block∧b<Z.heap.size∧w.heap.size+4≤b) (Wo.heap.size+1) Wo.heap.size k ((fixL m).length+cf) af (fixL m) W1 (by omega) (by omega) (q1.cell (i:=0) rfl) (q0.cell (i:=0) rfl) (.inl rfl) (.inr (.inl rfl)) (fun j hj=>by
    obtain⟨b,o,e1,hb,h4,hc⟩:=HCF.out.resolve_left (by intro h;rw [h] at hj;simp at hj)
    exact⟨b,o,e1,.inr (.inr ⟨_,e1,rfl,hb,h4⟩),(World.cell?_of_block (HCB b hb h4)).trans (hc j hj)⟩) (fun b hb=>by
    rcases hb with h | h | ⟨a,-,-,h,-⟩ <;> omega)
   have hmb:=HMB.out.lt;have hfb:=FB.out;have fbl:=hfb.l;have fbs:=hfb.s;have fbe:=hfb.e;have hds:∀ D ∈ ds,D<W1.heap.size:=fun D hD=>(Array.getElem?_eq_some_iff.1 (hI1.out.mar D hD).2).1
   obtain⟨n1,hn1⟩:∃ n1,m.ways.length-1=n1:=⟨_,rfl⟩;refine (wpIn_wide (n:=9)).1 ?_;refine Z4O (by omega) (gf:=110) (lb:=#[.pointer (some ⟨Wo.heap.size+1,0,none⟩),.pointer (some ⟨Wo.heap.size,0,none⟩)]) rfl (enters_of Tryz.func110 (by kernel_rfl) rfl) hseq ?hHx (fun h k=>⟨Nat.le_trans h.1 k.1,fun b hb=>(k.2 b (by
    rcases hb with hb | hb
    ·exact .inl hb
    ·exact .inr ⟨hb.1,Nat.lt_of_lt_of_le hb.2 h.1⟩)).trans (h.2 b hb)⟩) ?hKb (Below.refl _ _) (fun _=>rfl)
    (fun s W=>True∧∃ v,FarI (w.heap.size+1) (w.heap.size+1+1) (w.heap.size+1+1+1) w Z ((s.map (·.2)).foldl (farS (kpL m)) ((allTo (fixL m) k).foldl (farS (kpL m)) (-1,[]))) ds v W∧∀ r,v.ownBlock=some r→r<W1.heap.size∨∃ x,x ∈ s∧x.1.ownBlock=some r)
    (fun c s W=>(c=.ret∧((s.map (·.2)).foldl (farS (kpL m)) ((allTo (fixL m) k).foldl (farS (kpL m)) (-1,[]))).1=(n1:Int))∧∃ v,FarI (w.heap.size+1) (w.heap.size+1+1) (w.heap.size+1+1+1) w Z ((s.map (·.2)).foldl (farS (kpL m)) ((allTo (fixL m) k).foldl (farS (kpL m)) (-1,[]))) ds v W∧∀ r,v.ownBlock=some r→r<W1.heap.size∨∃ x,x ∈ s∧x.1.ownBlock=some r)
    (FarI.own FB.out (by omega) _ hds (fun _=>True)) (fun c=>FarI.own FB.out (by omega) _ hds (fun s=>c=.ret∧((s.map (·.2)).foldl (farS (kpL m)) ((allTo (fixL m) k).foldl (farS (kpL m)) (-1,[]))).1=(n1:Int))) ⟨trivial,v,hI1.out,fun r e=>.inl ?hvn⟩
    (fun x=>#[.agg #[.slice a1 m.ways.length (m.ways.length+c1),.slice a2 m.home.length (m.home.length+c2),.int .i64 m.start,.slice a3 m.rocks.length (m.rocks.length+c3),.int .i64 m.speed,.int .i64 m.part,.int .i64 m.flow,.int .i64 m.idle,.int .i64 m.drive,.int .i64 m.battery,.int .i64 m.deadline],.pointer (some ⟨w.heap.size,0,none⟩),.pointer (some ⟨w.heap.size+1,0,none⟩),.pointer (some ⟨w.heap.size+1+1,0,none⟩),.pointer (some ⟨w.heap.size+1+1+1,0,none⟩),.slice af (fixL m).length ((fixL m).length+cf),.int .i64 (k:Int),x.1,u8,u9,u10,.agg #[.slice a1 m.ways.length (m.ways.length+c1),.slice a2 m.home.length (m.home.length+c2),.int .i64 m.start,.slice a3 m.rocks.length (m.rocks.length+c3),.int .i64 m.speed,.int .i64 m.part,.int .i64 m.flow,.int .i64 m.idle,.int .i64 m.drive,.int .i64 m.battery,.int .i64 m.deadline],.bool true,.bool false,.agg #[.slice a1 m.ways.length (m.ways.length+c1),.slice a2 m.home.length (m.home.length+c2),.int .i64 m.start,.slice a3 m.rocks.length (m.rocks.length+c3),.int .i64 m.speed,.int .i64 m.part,.int .i64 m.flow,.int .i64 m.idle,.int .i64 m.drive,.int .i64 m.battery,.int .i64 m.deadline],.slice af (fixL m).length ((fixL m).length+cf),.slice af (fixL m).length ((fixL m).length+cf),.int .i64 ((fixL m).length:Int),.bool false,.slice af (fixL m).length ((fixL m).length+cf),.int .i64 ((fixL m).length:Int),.int .i64 (((fixL m).length:Int)+1),.int .i64 (k:Int),.bool true,.int .i64 (k:Int),.slice af (fixL m).length ((fixL m).length+cf),.int .i64 (k:Int),.func (.func 110) #[] #[.pointer (some ⟨Wo.heap.size+1,0,none⟩),.pointer (some ⟨Wo.heap.size,0,none⟩)],x.1,u29,u30,u31,u32,u33,u34,u35,u36,u37,u38,u39,u40,u41,u42,u43,u44,u45,u46,u47,u48,u49,u50,u51]) ?assign ?body ?done ?stop
   case hHx =>
    rintro x W l o o' ⟨h1,h2⟩ hl hc;refine⟨h1.offG (grownBy_putObj' W l o') (fun r e=>?_),fun r e=>by simpa using h2 r e⟩
    cases e;by_cases hl0:x.2=[]
    ·exact .inl hl0
    ·refine .inr fun ev=>?_
     obtain⟨_,a,cap,e1,hcells⟩:=h1;obtain⟨b,o2,e2,hb,hcc⟩:=hcells.resolve_left hl0;have hbr:b=l:=by rw [e1,e2] at ev;simpa [Value.ownBlock] using ev
     obtain⟨o3,ho3,hoc⟩:=cells_of_cell (hcc 0 (List.length_pos_iff.2 hl0));rw [show (⟨b,o2+0,none⟩:Addr).block=l from hbr,hl] at ho3
     cases ho3;rw [hc] at hoc;cases hoc
   case hKb =>
    rintro W o o' h1 h2;refine⟨by simp,fun b hb=>World.putObj_heap_other ?_⟩
    rcases hb with (h | h | ⟨a,-,-,h,-⟩) | h <;> omega
   case hvn =>
    have:=(hI1.out.new r e).2;omega
   case assign =>
    rintro ll rm ⟨y,ly⟩ W K ⟨hx1,-⟩ hK;obtain⟨ay,cy,rfl⟩:∃ a c,y=.slice a ly.length c:=by obtain⟨_,a,c,h,_⟩:=hx1;exact⟨a,_,h⟩
    unfold chE;gi_wp2;exact hK
   case body =>
    rintro ll rm pre x W hll ⟨r,hr⟩ ⟨-,v',hI',hv'⟩ ⟨hx1,hx2⟩ hsz;obtain⟨y,ly⟩:=x;simp only at hx1 hx2 ⊢;obtain⟨ay,cy,rfl⟩:∃ a c,y=.slice a ly.length c:=by obtain⟨_,a,c,h,_⟩:=hx1;exact⟨a,_,h⟩
    have hst:Hid (((pre++[((.slice ay ly.length cy:Value),ly)]).map (·.2)).foldl (farS (kpL m)) ((allTo (fixL m) k).foldl (farS (kpL m)) (-1,[]))=farS (kpL m) ((pre.map (·.2)).foldl (farS (kpL m)) ((allTo (fixL m) k).foldl (farS (kpL m)) (-1,[]))) ly):=by
     show _=_
     rw [List.map_append,List.foldl_append];rfl
    obtain⟨st,hst2⟩:∃ st,(pre.map (·.2)).foldl (farS (kpL m)) ((allTo (fixL m) k).foldl (farS (kpL m)) (-1,[]))=st:=⟨_,rfl⟩;simp only [hst2] at hI' hst;clear hst2;have hkW:=hI'.kee.1;have MBW:=(hI'.kee.2 _ ⟨hmb,by omega,by omega,by omega⟩).trans HMB.out
    obtain⟨c0,c1',c2',c3',c4,c5,c6,c7,c8,c9,c10⟩:=Zi (m:=m) MBW;have g3:=Lib.hid (f3.out _ ly W hI'.low hx1);have hII:=Lib.hid hI';have hVV:=Lib.hid hv';have hXX:=Lib.hid (And.intro hx1 hx2);have hLL:=Lib.hid (And.intro hll hr);clear hI' hv' hx1 hx2 hll hr MBW hseq q0 q1 hA HCB
    gi_wp2_with fail
    refine⟨trivial,(fun h=>by cases h),(CallsIn.inRound ll (callsIn_wide.2 g3.out)).mono ?_⟩
    rintro e W4 ⟨rfl,b4⟩;have hI4:=hII.out.below FB.out b4;have hx4:=(hXX.out.1.below b4).mono b4.size;have k4:=Lib.hid b4;have hz4:=b4.size;have y0:=hI4.leg.cell;have y1:=hI4.leg.frozen;have y2:=hI4.sto.cell;have y3:=hI4.sto.frozen;have y4:=hI4.err.cell;have y5:=hI4.err.frozen;have MB4:Has W4 w.heap.size _ 26:=(hI4.kee.2 _ ⟨hmb,by omega,by omega,by omega⟩).trans HMB.out
    have c0':=MB4.cell (i:=0) rfl;have jw1:IntKind.i64.wrap ((m.ways.length:Int)-1)=(n1:Int):=by rw [show (m.ways.length:Int)-1=(n1:Int) by omega];exact zW2
    clear b4 c0 c1' c2' c3' c4 c5 c6 c7 c8 c9 c10;obtain⟨s1,s2⟩:=st;obtain⟨av,cv,hvv⟩:∃ a c,v'=.slice a s2.length c:=by obtain⟨_,a,c,h,_⟩:=hI4.val;exact⟨a,_,h⟩
    subst hvv;have H4:=Lib.hid (And.intro hI4 hx4);clear hI4 hx4 MB4;obtain⟨kp,hkp⟩:∃ x,kpL m ly=x:=⟨_,rfl⟩;have HKP:=Lib.hid hkp;simp only [hkp];clear hkp;by_cases hgt:s1<kp
    ·have e1:decide (kp>s1)=true:=by rw [decide_eq_true_eq];exact hgt
     have hfs:Hid (farS (kpL m) (s1,s2) ly=(kp,ly)):=by
      show _=_
      unfold farS;rw [HKP.out,if_pos hgt]
     have U:=H4.out.1.upd FB.out (st':=(kp,ly)) H4.out.2 (fun r e=>by have:=hXX.out.2 r e;exact⟨by omega,by omega⟩)
     have MB5:Has _ w.heap.size _ 26:=(U.kee.2 _ ⟨hmb,by omega,by omega,by omega⟩).trans HMB.out
     have z0:=U.leg.cell;have z1:=U.leg.frozen;have z2:=U.sto.cell;have z3:=U.sto.frozen;have z4:=U.err.cell;have z5:=U.err.frozen;have z6:=MB5.cell (i:=0) rfl;have HU:=Lib.hid U;clear U MB5;have HKK:=Lib.hid (fun b (hb:b<W.heap.size) (h1:b≠(w.heap.size+1)) (h2:b≠(w.heap.size+1+1)) (h3:b≠(w.heap.size+1+1+1))=>(Below.heap_setCell (W4.setCell ⟨w.heap.size+1,0,none⟩ (.int .i64 kp)) ⟨w.heap.size+1+1,0,none⟩ (.slice ay ly.length cy) b h2).trans ((Below.heap_setCell W4 ⟨w.heap.size+1,0,none⟩ (.int .i64 kp) b h1).trans (k4.out.block b hb)))
     have HZZ:=Lib.hid (show W.heap.size≤((W4.setCell ⟨w.heap.size+1,0,none⟩ (.int .i64 kp)).setCell ⟨w.heap.size+1+1,0,none⟩ (.slice ay ly.length cy)).heap.size by simp;omega)
     by_cases heq:kp=n1
     ·have e2:((kp:Int) == (n1:Int))=true:=by rw [beq_iff_eq];exact heq
      gi_wp2;subst heq;generalize hY:World.setCell (World.setCell W4 _ _) _ _=Y at *;have hL:=HU.out.leg;have hS:=HU.out.sto;have hE:=HU.out.err;refine Zg (ZI _ _) 4 (fun X=>Has X (w.heap.size+1) #[.int .i64 (n1:Int)] 3∧Has X (w.heap.size+1+1) #[(.slice ay ly.length cy)] 27) (by kernel_rfl) (by kernel_rfl) (by kernel_rfl) fun hH inv0=>?_
      refine sk hH (i:=0) (v:=.int .i64 (n1:Int)) (Zd rfl) inv0 (fun X hX=>?_) fun inv1=>?_
      ·have r:=hX.1.cell (i:=0) rfl;go_simp
      simp only [Act.put,zq4,zr4,zs4];refine sk hH (i:=1) (v:=(.slice ay ly.length cy)) (Zd rfl) inv1 (fun X hX=>?_) fun inv2=>?_
      ·have r:=hX.2.cell (i:=0) rfl;go_simp
      simp only [Act.put,zq4,zr4,zs4];have hX9:=Below.drew (Below.refl Y.heap.size Y);have hL9:Has Y.drew (w.heap.size+1) #[.int .i64 (n1:Int)] 3:=hL;have hS9:Has Y.drew (w.heap.size+1+1) #[(.slice ay ly.length cy)] 27:=hS;have hE9:Has Y.drew (w.heap.size+1+1+1) #[.int .i64 0] 34:=hE;generalize Y.drew=X9 at *;refine sa1 (r:=2) ⟨hL9,hS9⟩ ?_;refine ZW (Zd rfl) rfl (w':=X9.setCell ⟨w.heap.size+1,0,none⟩ (.int .i64 (n1:Int))) (by have r1:=Boxed.cell hL9;have r2:=Boxed.frozen hL9;go_simp) ?_
      simp only [Act.put,zq4,zr4,zs4];rw [Boxed.store hL9];refine sa1 (r:=3) ⟨hL9,hS9⟩ ?_;refine ZW (Zd rfl) rfl (w':=X9.setCell ⟨w.heap.size+1+1,0,none⟩ (.slice ay ly.length cy)) (by have r1:=Boxed.cell hS9;have r2:=Boxed.frozen hS9;go_simp) ?_
      simp only [Act.put,zq4,zr4,zs4];rw [Boxed.store hS9];refine Zm (by kernel_rfl) ⟨hL9,hS9⟩ ?_
      simp only [List.drop_succ_cons,List.drop_zero];have r1:=Boxed.cell hE9;have r2:=Boxed.frozen hE9;clear inv0 inv1 inv2 hH;gi_wp2;rw [Boxed.store hE9];have hk9:∀ b,b<W.heap.size→b≠(w.heap.size+1)→b≠(w.heap.size+1+1)→b≠(w.heap.size+1+1+1)→X9.heap[b]?=W.heap[b]?:=fun b hb h1 h2 h3=>(hX9.block b (by have:=HZZ.out;omega)).trans (HKK.out b hb h1 h2 h3)
      have hz9:W.heap.size≤X9.heap.size:=Nat.le_trans HZZ.out hX9.size;refine⟨(hII.out.keeps FB.out hz9 hk9 (Wo.heap.size+2) (Wo.heap.size+2+2) (by omega) (fun b=>b=Wo.heap.size+1∨b=Wo.heap.size∨∃ a,af=some a∧b=a.block∧b<Z.heap.size∧w.heap.size+4≤b) (fun b hb=>by rcases hb with h | h | ⟨a,-,-,h,h4⟩ <;> exact⟨by omega,by omega,by omega,by omega⟩)).1,(hII.out.keeps FB.out hz9 hk9 (Wo.heap.size+2) (Wo.heap.size+2+2) (by omega) (fun b=>b=Wo.heap.size+1∨b=Wo.heap.size∨∃ a,af=some a∧b=a.block∧b<Z.heap.size∧w.heap.size+4≤b) (fun b hb=>by rcases hb with h | h | ⟨a,-,-,h,h4⟩ <;> exact⟨by omega,by omega,by omega,by omega⟩)).2,⟨rfl,by rw [hst.out,hfs.out]⟩,(.slice ay ly.length cy),?_,fun r e=>.inr ⟨_,⟨_,List.mem_append.2 (.inr (List.mem_singleton.2 rfl))⟩,e⟩⟩
      rw [hst.out,hfs.out];exact HU.out.below FB.out hX9
     ·have e2:((kp:Int) == (n1:Int))=false:=by rw [beq_eq_false_iff_ne];exact heq
      gi_wp2;refine⟨(hII.out.keeps FB.out HZZ.out HKK.out (Wo.heap.size+2) (Wo.heap.size+2+2) (by omega) (fun b=>b=Wo.heap.size+1∨b=Wo.heap.size∨∃ a,af=some a∧b=a.block∧b<Z.heap.size∧w.heap.size+4≤b) (fun b hb=>by rcases hb with h | h | ⟨a,-,-,h,h4⟩ <;> exact⟨by omega,by omega,by omega,by omega⟩)).1,(hII.out.keeps FB.out HZZ.out HKK.out (Wo.heap.size+2) (Wo.heap.size+2+2) (by omega) (fun b=>b=Wo.heap.size+1∨b=Wo.heap.size∨∃ a,af=some a∧b=a.block∧b<Z.heap.size∧w.heap.size+4≤b) (fun b hb=>by rcases hb with h | h | ⟨a,-,-,h,h4⟩ <;> exact⟨by omega,by omega,by omega,by omega⟩)).2,(.slice ay ly.length cy),?_,fun r e=>.inr ⟨_,⟨_,List.mem_append.2 (.inr (List.mem_singleton.2 rfl))⟩,e⟩⟩
      rw [hst.out,hfs.out];exact HU.out
    ·have e1:decide (kp>s1)=false:=by rw [decide_eq_false_iff_not];omega
     have hfs:Hid (farS (kpL m) (s1,s2) ly=(s1,s2)):=by
      show _=_
      unfold farS;rw [HKP.out,if_neg hgt]
     have HKK:=Lib.hid (fun b (hb:b<W.heap.size) (h1:b≠(w.heap.size+1)) (h2:b≠(w.heap.size+1+1)) (h3:b≠(w.heap.size+1+1+1))=>k4.out.block b hb)
     have HZZ:=Lib.hid hz4;have HU:=Lib.hid H4.out.1;by_cases heq:s1=n1
     ·have e2:((s1:Int) == (n1:Int))=true:=by rw [beq_iff_eq];exact heq
      gi_wp2;subst heq
      skip
      have hL:=HU.out.leg;have hS:=HU.out.sto;have hE:=HU.out.err;refine Zg (ZI _ _) 4 (fun X=>Has X (w.heap.size+1) #[.int .i64 (n1:Int)] 3∧Has X (w.heap.size+1+1) #[(.slice av s2.length cv)] 27) (by kernel_rfl) (by kernel_rfl) (by kernel_rfl) fun hH inv0=>?_
      refine sk hH (i:=0) (v:=.int .i64 (n1:Int)) (Zd rfl) inv0 (fun X hX=>?_) fun inv1=>?_
      ·have r:=hX.1.cell (i:=0) rfl;go_simp
      simp only [Act.put,zq4,zr4,zs4];refine sk hH (i:=1) (v:=(.slice av s2.length cv)) (Zd rfl) inv1 (fun X hX=>?_) fun inv2=>?_
      ·have r:=hX.2.cell (i:=0) rfl;go_simp
      simp only [Act.put,zq4,zr4,zs4];have hX9:=Below.drew (Below.refl W4.heap.size W4);have hL9:Has W4.drew (w.heap.size+1) #[.int .i64 (n1:Int)] 3:=hL;have hS9:Has W4.drew (w.heap.size+1+1) #[(.slice av s2.length cv)] 27:=hS;have hE9:Has W4.drew (w.heap.size+1+1+1) #[.int .i64 0] 34:=hE;generalize W4.drew=X9 at *;refine sa1 (r:=2) ⟨hL9,hS9⟩ ?_;refine ZW (Zd rfl) rfl (w':=X9.setCell ⟨w.heap.size+1,0,none⟩ (.int .i64 (n1:Int))) (by have r1:=Boxed.cell hL9;have r2:=Boxed.frozen hL9;go_simp) ?_
      simp only [Act.put,zq4,zr4,zs4];rw [Boxed.store hL9];refine sa1 (r:=3) ⟨hL9,hS9⟩ ?_;refine ZW (Zd rfl) rfl (w':=X9.setCell ⟨w.heap.size+1+1,0,none⟩ (.slice av s2.length cv)) (by have r1:=Boxed.cell hS9;have r2:=Boxed.frozen hS9;go_simp) ?_
      simp only [Act.put,zq4,zr4,zs4];rw [Boxed.store hS9];refine Zm (by kernel_rfl) ⟨hL9,hS9⟩ ?_
      simp only [List.drop_succ_cons,List.drop_zero];have r1:=Boxed.cell hE9;have r2:=Boxed.frozen hE9;clear inv0 inv1 inv2 hH;gi_wp2;rw [Boxed.store hE9];have hk9:∀ b,b<W.heap.size→b≠(w.heap.size+1)→b≠(w.heap.size+1+1)→b≠(w.heap.size+1+1+1)→X9.heap[b]?=W.heap[b]?:=fun b hb h1 h2 h3=>(hX9.block b (by have:=HZZ.out;omega)).trans (HKK.out b hb h1 h2 h3)
      have hz9:W.heap.size≤X9.heap.size:=Nat.le_trans HZZ.out hX9.size;refine⟨(hII.out.keeps FB.out hz9 hk9 (Wo.heap.size+2) (Wo.heap.size+2+2) (by omega) (fun b=>b=Wo.heap.size+1∨b=Wo.heap.size∨∃ a,af=some a∧b=a.block∧b<Z.heap.size∧w.heap.size+4≤b) (fun b hb=>by rcases hb with h | h | ⟨a,-,-,h,h4⟩ <;> exact⟨by omega,by omega,by omega,by omega⟩)).1,(hII.out.keeps FB.out hz9 hk9 (Wo.heap.size+2) (Wo.heap.size+2+2) (by omega) (fun b=>b=Wo.heap.size+1∨b=Wo.heap.size∨∃ a,af=some a∧b=a.block∧b<Z.heap.size∧w.heap.size+4≤b) (fun b hb=>by rcases hb with h | h | ⟨a,-,-,h,h4⟩ <;> exact⟨by omega,by omega,by omega,by omega⟩)).2,⟨rfl,by rw [hst.out,hfs.out]⟩,(.slice av s2.length cv),?_,fun r e=>(hVV.out r e).imp (fun h=>by omega) fun ⟨x,hx,e2⟩=>⟨x.1,⟨x.2,List.mem_append.2 (.inl hx)⟩,e2⟩⟩
      rw [hst.out,hfs.out];exact HU.out.below FB.out hX9
     ·have e2:((s1:Int) == (n1:Int))=false:=by rw [beq_eq_false_iff_ne];exact heq
      gi_wp2;refine⟨(hII.out.keeps FB.out HZZ.out HKK.out (Wo.heap.size+2) (Wo.heap.size+2+2) (by omega) (fun b=>b=Wo.heap.size+1∨b=Wo.heap.size∨∃ a,af=some a∧b=a.block∧b<Z.heap.size∧w.heap.size+4≤b) (fun b hb=>by rcases hb with h | h | ⟨a,-,-,h,h4⟩ <;> exact⟨by omega,by omega,by omega,by omega⟩)).1,(hII.out.keeps FB.out HZZ.out HKK.out (Wo.heap.size+2) (Wo.heap.size+2+2) (by omega) (fun b=>b=Wo.heap.size+1∨b=Wo.heap.size∨∃ a,af=some a∧b=a.block∧b<Z.heap.size∧w.heap.size+4≤b) (fun b hb=>by rcases hb with h | h | ⟨a,-,-,h,h4⟩ <;> exact⟨by omega,by omega,by omega,by omega⟩)).2,(.slice av s2.length cv),?_,fun r e=>(hVV.out r e).imp (fun h=>by omega) fun ⟨x,hx,e2⟩=>⟨x.1,⟨x.2,List.mem_append.2 (.inl hx)⟩,e2⟩⟩
      rw [hst.out,hfs.out];exact HU.out
   case done =>
    rintro D xs W hD hxs ⟨-,v',hI',hv'⟩ hK;have hst:Hid (((xs.map (·.2)).foldl (farS (kpL m)) ((allTo (fixL m) k).foldl (farS (kpL m)) (-1,[])))=(allTo (fixL m) (k+1)).foldl (farS (kpL m)) (-1,[])):=by
     show _=_
     rw [hxs,Z18,List.foldl_append]
    rw [hst.out] at hI';have hnd:D ∉ ds:=fun h=>by have:=hds D h;omega
    have hII:=Lib.hid (show FarI (w.heap.size+1) (w.heap.size+1+1) (w.heap.size+1+1+1) w Z ((allTo (fixL m) (k+1)).foldl (farS (kpL m)) (-1,[])) (D::ds) v' W from⟨hI'.leg,hI'.sto,hI'.err,hI'.val,hI'.low,hI'.kee,fun E hE=>by
     rcases List.mem_cons.1 hE with h | h
     ·subst h;exact⟨by omega,hK⟩
     ·exact hI'.mar E h,List.nodup_cons.2 ⟨hnd,hI'.nod⟩,hI'.new⟩)
    clear hI' hv' hK hst hseq q0 q1 hA HCB;have jw2:IntKind.i64.wrap ((k:Int)+1)=(k:Int)+1:=zW2;go_wp2;refine⟨⟨_,_,_,_,_,_,_,_,_,_,_,_,_,_,_,_,_,_,_,_,_,_,_,_,_,_,_,_,_,_,_,_,_,_,k+1,D::ds,v',by omega,hII.out,rfl⟩,?_⟩
    simp [intOf];omega
   case stop =>
    rintro D c pre W hD ⟨u,hu⟩ ⟨⟨rfl,htp⟩,v',hI',hv'⟩ hK;have hst:=Z8u m (fun l=>by rw [← hn1];exact htop.out l) hu hkl htp
    rw [hst] at hI';have hnd:D ∉ ds:=fun h=>by have:=hds D h;omega
    have hII:=Lib.hid (show FarI (w.heap.size+1) (w.heap.size+1+1) (w.heap.size+1+1+1) w Z (bestP m) (D::ds) v' W from⟨hI'.leg,hI'.sto,hI'.err,hI'.val,hI'.low,hI'.kee,fun E hE=>by
     rcases List.mem_cons.1 hE with h | h
     ·subst h;exact⟨by omega,hK⟩
     ·exact hI'.mar E h,List.nodup_cons.2 ⟨hnd,hI'.nod⟩,hI'.new⟩)
    clear hI' hv' hK hst hseq q0 q1 hA HCB hu htp;gi_wp2;refine FarI.leave FB.out (D::ds) W hII.out fun W' hW'=>?_
    obtain⟨av,cv,hvv⟩:∃ a c,v'=.slice a (bestP m).2.length c:=by obtain⟨_,a,c,h,_⟩:=hW'.val;exact⟨a,_,h⟩
    subst hvv;have r1:=hW'.leg.cell;have r2:=hW'.sto.cell;have r3:=hW'.err.cell;exact⟨.tuple #[.int .i64 (bestP m).1,.slice av (bestP m).2.length cv,.int .i64 0],by simp [results,Tryz.f35,go_sem,r1,r2,r3],_,rfl,hW'.val,hW'.low,fun r e=>Nat.le_trans FB.out.w (hW'.new r e).1⟩
  ·obtain rfl:k=(fixL m).length+1:=by omega
   have d1:decide ((((fixL m).length+1:Nat):Int)<((fixL m).length:Int)+1)=false:=by rw [decide_eq_false_iff_not];omega
   have hst:Hid ((allTo (fixL m) ((fixL m).length+1)).foldl (farS (kpL m)) (-1,[])=bestP m):=rfl;rw [hst.out] at hI;clear hst;obtain⟨b1,b2,hbp⟩:∃ b1 b2,bestP m=(b1,b2):=⟨_,_,rfl⟩;rw [hbp] at hI;have HBP:=Lib.hid hbp;clear hbp;obtain⟨av,cv,hvv⟩:∃ a c,v=.slice a b2.length c:=by obtain⟨_,a,c,h,_⟩:=hI.val;exact⟨a,_,h⟩
   subst hvv;have hII:=Lib.hid hI;clear hI;go_wp2;refine (wpIn_wide (n:=9)).1 ?_;have hL:=hII.out.leg;have hS:=hII.out.sto;have hE:=hII.out.err;refine Zg (Zj _) 4 (fun X=>Has X (w.heap.size+1) #[.int .i64 b1] 3∧Has X (w.heap.size+1+1) #[(.slice av b2.length cv)] 27) (by kernel_rfl) (by kernel_rfl) (by kernel_rfl) fun hH inv0=>?_
   refine sk hH (i:=0) (v:=.int .i64 b1) (Zd rfl) inv0 (fun X hX=>?_) fun inv1=>?_
   ·have r:=hX.1.cell (i:=0) rfl;go_simp
   simp only [Act.put,zq4,zr4,zs4];refine sk hH (i:=1) (v:=(.slice av b2.length cv)) (Zd rfl) inv1 (fun X hX=>?_) fun inv2=>?_
   ·have r:=hX.2.cell (i:=0) rfl;go_simp
   simp only [Act.put,zq4,zr4,zs4];have hX9:=Below.drew (Below.refl Wo.heap.size Wo);have hL9:Has Wo.drew (w.heap.size+1) #[.int .i64 b1] 3:=hL;have hS9:Has Wo.drew (w.heap.size+1+1) #[(.slice av b2.length cv)] 27:=hS;have hE9:Has Wo.drew (w.heap.size+1+1+1) #[.int .i64 0] 34:=hE;generalize Wo.drew=X9 at *;refine sa1 (r:=2) ⟨hL9,hS9⟩ ?_;refine ZW (Zd rfl) rfl (w':=X9.setCell ⟨w.heap.size+1,0,none⟩ (.int .i64 b1)) (by have r1:=Boxed.cell hL9;have r2:=Boxed.frozen hL9;go_simp) ?_
   simp only [Act.put,zq4,zr4,zs4];rw [Boxed.store hL9];refine sa1 (r:=3) ⟨hL9,hS9⟩ ?_;refine ZW (Zd rfl) rfl (w':=X9.setCell ⟨w.heap.size+1+1,0,none⟩ (.slice av b2.length cv)) (by have r1:=Boxed.cell hS9;have r2:=Boxed.frozen hS9;go_simp) ?_
   simp only [Act.put,zq4,zr4,zs4];rw [Boxed.store hS9];refine Zm (by kernel_rfl) ⟨hL9,hS9⟩ ?_
   simp only [List.drop_succ_cons,List.drop_zero];have r1:=Boxed.cell hE9;have r2:=Boxed.frozen hE9;clear inv0 inv1 inv2 hH;gi_wp2;rw [Boxed.store hE9];go_wp2;have h9:=hII.out.below FB.out hX9;refine FarI.leave FB.out ds X9 h9 fun W' hW'=>?_
   have r1:=hW'.leg.cell;have r2:=hW'.sto.cell;have r3:=hW'.err.cell;exact⟨.tuple #[.int .i64 b1,.slice av b2.length cv,.int .i64 0],by simp [results,Tryz.f35,go_sem,r1,r2,r3],_,by rw [HBP.out],by rw [HBP.out];exact hW'.val,hW'.low,fun r e=>Nat.le_trans FB.out.w (hW'.new r e).1⟩
end
section
attribute [local irreducible] wpQuiet
open Go.RowKit
theorem far_no (m:Msn) (vw vh vr:Value) (w:World) (hm:MsnAt w.heap.size w m vw vh vr) (hV:validB m=false) :
  Calls Tryz.prog 35 #[.agg (Zc m vw vh vr)] w fun e w'=>e=.returned (.tuple #[.int .i64 0,.slice none 0 0,.int .i64 1])∧Below w.heap.size w w':=by
 have f1:=fun w1 (B:Below w.heap.size w w1)=>Z0p m vw vh vr w1 ((hm.below B).mono B.size)
 rw [hV] at f1;obtain⟨⟨-,a1,c1,rfl,-⟩,⟨-,a2,c2,rfl,-⟩,⟨-,a3,c3,rfl,-⟩⟩:=hm;unfold Zc at *;replace f1:=Lib.hid f1;have BW:=Lib.hid (Below.refl w.heap.size w);refine (callsIn_wide (n:=9)).1 ?_;refine callsIn_of_wp_marks Tryz.func35 rfl trivial ?_ rfl;simp only [Tryz.ntmps35,List.size_toArray,List.length_cons,List.length_nil,Nat.reduceAdd,Nat.reduceSub,Array.replicate_succ,Array.replicate_zero,List.push_toArray,List.append_toArray,List.nil_append,List.cons_append];refine wpIn_wide.2 ?_;go_wp2_with fail;generalize hXX0:World.alloc (World.alloc (World.alloc (World.alloc w _) _) _) _=X0;obtain⟨q0,q1,q2,q3,hA,hzX0⟩:=box4 hXX0;clear hXX0;have BW:=Lib.hid hA;clear hA;have MB:=Lib.hid q0;clear q0;have LB:=Lib.hid q1;clear q1;have SB:=Lib.hid q2;clear q2;have EB:=Lib.hid q3;clear q3;obtain⟨c0,c1,c2,c3,c4,c5,c6,c7,c8,c9,c10⟩:=Zi (m:=m) MB.out;refine (f1.out _ BW.out).mono ?_;rintro e w1 ⟨rfl,b1⟩;replace BW:=zAg BW b1;have B_X0:=Lib.hid b1;clear b1 c0 c1 c2 c3 c4 c5 c6 c7 c8 c9 c10;have hL:=(zCn LB B_X0);have hS:=(zCn SB B_X0);have hE:=(zCn EB B_X0);have l0:=Boxed.cell hL;have l1:=Boxed.frozen hL;have s0:=Boxed.cell hS;have s1:=Boxed.frozen hS;have e0:=Boxed.cell hE;have e1:=Boxed.frozen hE;have k1:=((Boxed.set (.int .i64 0) hL).other (by omega:w.heap.size+1≠w.heap.size+1+1) (.slice none 0 0)).other (by omega:w.heap.size+1≠w.heap.size+1+1+1) (.int .i64 1)
 have k2:=((Boxed.other hS (by omega:w.heap.size+1+1≠w.heap.size+1) (.int .i64 0)).set (.slice none 0 0)).other (by omega:w.heap.size+1+1≠w.heap.size+1+1+1) (.int .i64 1)
 have k3:=((Boxed.other hE (by omega:w.heap.size+1+1+1≠w.heap.size+1) (.int .i64 0)).other (by omega:w.heap.size+1+1+1≠w.heap.size+1+1) (.slice none 0 0)).set (.int .i64 1)
 have r1:=k1.cell;have r2:=k2.cell;have r3:=k3.cell;have BY:=Lib.hid (((BW.out.setCell (p:=⟨w.heap.size+1,0,none⟩) (by simp) (.int .i64 0)).setCell (p:=⟨w.heap.size+1+1,0,none⟩) (by simp;omega) (.slice none 0 0)).setCell (p:=⟨w.heap.size+1+1+1,0,none⟩) (by simp;omega) (.int .i64 1))
 clear hL hS hE k1 k2 k3;go_wp2;exact⟨.tuple #[.int .i64 0,.slice none 0 0,.int .i64 1],by simp [results,Tryz.f35,go_sem,r1,r2,r3],rfl,BY.out⟩
noncomputable def bsB (m:Msn):Bool:=validB m && decide ((bestP m).1=((m.ways.length-1:Nat):Int))
noncomputable def bsL (m:Msn):List Int:=if bsB m=true then (bestP m).2 else []
noncomputable def rfB (m:Msn):Bool:=validB m && !decide ((bestP m).1=((m.ways.length-1:Nat):Int))
noncomputable def rfL (m:Msn):List Int:=if rfB m=true then (bestP m).2 else []
noncomputable def rfG (m:Msn):Int:=if rfB m=true then (bestP m).1 else 0
noncomputable def plE (m:Msn):Int:=if validB m=true then 0 else 1
theorem Z9u (m:Msn):(bestP m).1≤((m.ways.length-1:Nat):Int):=by
 unfold bestP farL;have:∀ (L:List (List Int)) (s:Int × List Int),s.1≤((m.ways.length-1:Nat):Int)→(L.foldl (farS (kpL m)) s).1≤((m.ways.length-1:Nat):Int):=by
  intro L
  induction L with
  | nil=>intro s h;exact h
  | cons x L ih =>
   intro s h;rw [List.foldl_cons];refine ih _ ?_;unfold farS
   split
   ·exact Z7B m x
   ·exact h
 exact this _ _ (by simp only;omega)
theorem Z1X (m:Msn) (vw vh vr:Value) (w:World) (hm:MsnAt w.heap.size w m vw vh vr) (h13:m.ways.length≤13) :
  Calls Tryz.prog 13 #[.agg (Zc m vw vh vr)] w fun e w'=>∃ v,e=.returned (.tuple #[.int .i64 (rfG m),v,.bool (rfB m),.int .i64 (plE m)])∧Z9 w'.heap.size w' v (rfL m)∧Below w.heap.size w w'∧∀ r,v.ownBlock=some r→w.heap.size≤r:=by
 cases hV:validB m
 ·simp only [bsB,bsL,rfB,rfL,rfG,plE,hV,Bool.false_and,Bool.false_eq_true,if_false]
  have f1:=fun w1 (B:Below w.heap.size w w1)=>far_no m vw vh vr w1 ((hm.below B).mono B.size) hV
  obtain⟨⟨-,a1,c1,rfl,-⟩,⟨-,a2,c2,rfl,-⟩,⟨-,a3,c3,rfl,-⟩⟩:=hm;unfold Zc at *;replace f1:=Lib.hid f1;have BW:=Lib.hid (Below.refl w.heap.size w);go_enter Tryz.func13,Tryz.ntmps13;go_wp2_with fail;generalize hXX0:World.alloc w _=X0;obtain⟨q0,hA,hzX0⟩:=box1 hXX0;clear hXX0;have BW:=Lib.hid hA;clear hA;have MB:=Lib.hid q0;clear q0;refine (f1.out _ BW.out).mono ?_;rintro e w1 ⟨rfl,b1⟩;replace BW:=zAg BW b1;have B_X0:=Lib.hid b1;clear b1;go_wp2;refine bodyPost_ret (v:=.tuple #[.int .i64 0,.slice none 0 0,.bool false,.int .i64 1]) (by simp [results,Tryz.f13,go_sem]) rfl ⟨_,rfl,Z9.nil _ _,BW.out,(fun r e=>by cases e)⟩
 ·have n2:=((Zs m).1 hV).n2
  have bt:=Z9u m;have f1:=fun w1 (B:Below w.heap.size w w1)=>Zaa m vw vh vr w1 ((hm.below B).mono B.size) hV h13
  obtain⟨⟨-,a1,c1,rfl,-⟩,⟨-,a2,c2,rfl,-⟩,⟨-,a3,c3,rfl,-⟩⟩:=hm;simp only [bsB,bsL,rfB,rfL,rfG,plE,hV,Bool.true_and,if_true];unfold Zc at *;have jw:IntKind.i64.wrap ((m.ways.length:Int)-1)=((m.ways.length-1:Nat):Int):=by rw [show ((m.ways.length:Int)-1)=((m.ways.length-1:Nat):Int) by omega];exact zW2
  obtain⟨n1,hn1⟩:∃ n1,m.ways.length-1=n1:=⟨_,rfl⟩;simp only [hn1] at jw bt ⊢;obtain⟨b1,b2,hbp⟩:∃ b1 b2,bestP m=(b1,b2):=⟨_,_,rfl⟩;simp only [hbp] at f1 bt ⊢;clear hbp;replace f1:=Lib.hid f1;clear hn1;have BW:=Lib.hid (Below.refl w.heap.size w);by_cases heq:b1=n1
  all_goals simp only [heq,decide_true,decide_false,Bool.not_true,Bool.not_false,if_true,Bool.false_eq_true,if_false]
  ·subst heq
   have e1:((n1:Int) == (n1:Int))=true:=by simp
   have e2:decide ((n1:Int)<(n1:Int))=false:=by simp
   go_enter Tryz.func13,Tryz.ntmps13;go_wp2_with fail;generalize hXX0:World.alloc w _=X0;obtain⟨q0,hA,hzX0⟩:=box1 hXX0;clear hXX0;have BW:=Lib.hid hA;clear hA;have MB:=Lib.hid q0;clear q0;refine (f1.out _ BW.out).mono ?_;rintro e w1 ⟨v1,rfl,p1,b1,n1'⟩;replace BW:=zAg BW b1;have B_X0:=Lib.hid b1;clear b1;have PI:=Lib.hid p1;clear p1;have HN:=Lib.hid n1';clear n1';obtain⟨-,g1,k1,hv1,-⟩:=PI.out;subst hv1;have c0:=(zCn MB B_X0).cell (i:=0) rfl;go_wp2;refine bodyPost_ret (v:=.tuple #[.int .i64 0,.slice none 0 0,.bool false,.int .i64 0]) (by simp [results,Tryz.f13,go_sem]) rfl ⟨_,rfl,Z9.nil _ _,BW.out,(fun r e=>by cases e)⟩
  ·have e1:((b1:Int) == (n1:Int))=false:=by rw [beq_eq_false_iff_ne];exact heq
   have e2:decide ((b1:Int)<(n1:Int))=true:=by rw [decide_eq_true_eq];omega
   clear bt;go_enter Tryz.func13,Tryz.ntmps13;go_wp2_with fail;generalize hXX0:World.alloc w _=X0;obtain⟨q0,hA,hzX0⟩:=box1 hXX0;clear hXX0;have BW:=Lib.hid hA;clear hA;have MB:=Lib.hid q0;clear q0;refine (f1.out _ BW.out).mono ?_;rintro e w1 ⟨v1,rfl,p1,b1,n1'⟩;replace BW:=zAg BW b1;have B_X0:=Lib.hid b1;clear b1;have PI:=Lib.hid p1;clear p1;have HN:=Lib.hid n1';clear n1';obtain⟨-,g1,k1,hv1,-⟩:=PI.out;subst hv1;have c0:=(zCn MB B_X0).cell (i:=0) rfl;go_wp2;refine bodyPost_ret (v:=.tuple #[.int .i64 b1,.slice g1 b2.length (b2.length+k1),.bool true,.int .i64 0]) (by simp [results,Tryz.f13,go_sem]) rfl ⟨_,rfl,PI.out,BW.out,(fun r e=>by have:=HN.out r e;omega)⟩
end
end Go.Proofs.YtdolkgihppgpcaaGreat
