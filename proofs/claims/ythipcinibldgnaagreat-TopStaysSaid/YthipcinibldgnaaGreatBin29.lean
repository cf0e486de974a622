/- package scene: Breaks. | scenes: plain laws; what Worst returns. -/
import Derived.Maps.OwnSet
import Derived.Test.YthipcinibldgnaaGreatBin28
open Go.Value renaming int->O,slice->qS,agg->qA
open Go.IntKind renaming i64->qL
open Go.Lib renaming hid->qH
open Go.RowKit.Below renaming refl->qK
open Nat renaming le_refl->qN
open Go.Act renaming put->qJ
set_option linter.unusedSimpArgs false
set_option linter.unusedVariables false
namespace Go.Proofs.YthipcinibldgnaaGreat
section
attribute [local irreducible] wpQuiet
open Go.RowKit Go.Maps
theorem zeroF0 (w:World):(zeroValue 105).run Tryz.prog w=.ok .nilFunc w:=by kernel_rfl
def askD:DataW Value:=(((((DataW.map []).put (.int .i64 1) (.held (.func (.func 54) #[] #[]))).put (.int .i64 5) (.held (.func (.func 55) #[] #[]))).put (.int .i64 2) (.held (.func (.func 56) #[] #[]))).put (.int .i64 3) (.held (.func (.func 57) #[] #[]))).put (.int .i64 4) (.held (.func (.func 57) #[] #[]))
theorem Zdl:askD.atKey (.int .i64 0) (.held .nilFunc)=.held .nilFunc/\askD.atKey (.int .i64 1) (.held .nilFunc)=.held (.func (.func 54) #[] #[])/\askD.atKey (.int .i64 5) (.held .nilFunc)=.held (.func (.func 55) #[] #[])/\askD.atKey (.int .i64 2) (.held .nilFunc)=.held (.func (.func 56) #[] #[])/\askD.atKey (.int .i64 3) (.held .nilFunc)=.held (.func (.func 57) #[] #[])/\askD.atKey (.int .i64 4) (.held .nilFunc)=.held (.func (.func 57) #[] #[]):=⟨rfl,rfl,rfl,rfl,rfl,rfl⟩
theorem Zcj:Maps.has askD (.int .i64 0)=false/\Maps.has askD (.int .i64 1)=true/\Maps.has askD (.int .i64 5)=true/\Maps.has askD (.int .i64 2)=true/\Maps.has askD (.int .i64 3)=true/\Maps.has askD (.int .i64 4)=true:=⟨rfl,rfl,rfl,rfl,rfl,rfl⟩
noncomputable def askB (m:Msn) (l:List Int) (k:Nat) (K q3:Int) (x:Pt):Bool:=if K=1 then inO m l k q3 x else if K=5 then (bkAny m l k x && onR m q3 x) else if K=2 then ntH m l k q3 x else if K=3\/K=4 then notB q3 x else false
noncomputable def brB (m:Msn) (l:List Int) (q1 q2 q3:Int) (x:Pt):Bool:=radOkB m l && (decide (kpL m l=q1) && (decide (kpK m l=q2) && askB m l (leadN m l) (kpK m l) q3 x))
set_option maxRecDepth 8000 in
set_option maxHeartbeats 1600000 in
theorem Zb1 (m:Msn) (vw vh vr vs:Value) (l:List Int) (q1 q2 q3:Int) (x:Pt) (w:World) (hm:MsnAt w.heap.size w m vw vh vr) (hl:Z8 w.heap.size w vs l) (hok:radOkB m l=false) :
  Calls Tryz.prog 16 #[qA (Zc m vw vh vr),qA #[vs,O qL q1,O qL q2,O qL q3,O qL x.x,O qL x.y]] w fun e w'=>e=.returned (.tuple #[.bool false,O qL 1])/\Below w.heap.size w w':=by
 have d:=fun f (B:Below w.heap.size w f)=>Z0X m vw vh vr vs l f ((hm.below B).mono B.size) ((hl.below B).mono B.size)
 simp only [kpE,hok,Bool.false_eq_true,if_false] at d;obtain⟨-,M,G,rfl,-⟩:=hl;obtain⟨⟨-,I,p,rfl,-⟩,⟨-,K,q,rfl,-⟩,⟨-,H,n,rfl,-⟩⟩:=hm;unfold Zc at *;generalize kpL m l=kl at *;generalize kpK m l=kk at *;obtain⟨L,J⟩:=x;clear hok;replace d:=qH d;have b:=qH (qK w.heap.size w);go_enter Tryz.func16,Tryz.ntmps16;go_upto_region 1 with fail
 generalize a:World.alloc (World.alloc w _) _=X0;obtain⟨k,q1,o,c⟩:=box2 a;clear a;have b:=qH o;clear o;have u:=qH k;clear k;have t:=qH q1;clear q1 c;obtain⟨z,p,q,n,F,E,A,C,v,s,j⟩:=Zh (m:=m) u.out;have D:=cX 0 t.out rfl;go_wp2_with fail;refine (d.out _ b.out).mono ?_;rintro e f ⟨rfl,g⟩;replace b:=zAd b g;have r:=qH g;clear g D z p q n F E A C v s j;go_wp2;go_ret2;exact⟨rfl,b.out⟩
set_option maxRecDepth 8000 in
set_option maxHeartbeats 6400000 in
theorem Z8V (m:Msn) (vw vh vr vs:Value) (l:List Int) (q1 q2 q3:Int) (x:Pt) (w:World) (hm:MsnAt w.heap.size w m vw vh vr) (hl:Z8 w.heap.size w vs l) (hok:radOkB m l=true) :
  Calls Tryz.prog 16 #[qA (Zc m vw vh vr),qA #[vs,O qL q1,O qL q2,O qL q3,O qL x.x,O qL x.y]] w fun e w'=>e=.returned (.tuple #[.bool (decide ((leadN m l:Int)=q1) && (decide (leadK m l=q2) && askB m l (leadN m l) (leadK m l) q3 x)),O qL 0])/\Below w.heap.size w w':=by
 have hvs:validB m=true/\stopsB m l=true:=by simpa [radOkB] using hok
 have V:=(Zm m).1 hvs.1;have n41:=V.n41;have f2:=fun G (B:Below w.heap.size w G)=>Z0X m vw vh vr vs l G ((hm.below B).mono B.size) ((hl.below B).mono B.size)
 have hkk:(leadK m l=0\/leadK m l=1\/leadK m l=5\/leadK m l=2\/leadK m l=3\/leadK m l=4)/\(leadK m l≠0->leadN m l+1<m.ways.length):=by
  have hb:=Z5e m l (leadN m l);unfold leadK
  split
  ·exact⟨by omega,fun _=>by omega⟩
  ·exact⟨.inl rfl,fun h=>(h rfl).elim⟩
 obtain⟨k1,k2,k3⟩:=kp_of hok;rw [k1,k2,k3,show leadV m l=(leadN m l:Int) from rfl] at f2
 have hln:=(Z11 m l).1;generalize leadN m l=k at *;have f3:=fun G (B:Below w.heap.size w G)=>Z5z m l vw vh vr vs k G ((hm.below B).mono B.size) ((hl.below B).mono B.size) hok
 obtain⟨K,hK⟩:∃ K,leadK m l=K:=⟨_,rfl⟩;simp only [hK] at *;clear hK hok hvs k1 k2 k3;obtain⟨hK6,hkw⟩:=hkk;have g1:=fun vb va W T hk=>Z8h m l vw vh vr vb va W T V k hk vs q1 q2 q3 x
 have g5:=fun vb va W T hk=>Z6C m l vw vh vr vb va W T V k hk vs q1 q2 q3 x
 have g2:=fun vb va W T hk=>Z5B m l vw vh vr vb va W T V k hk vs q1 q2 q3 x
 have g3:=fun vb va W=>Z5A (stgC m vw vh vr vb va k) _ _ _ _ _ _ _ _ _ _ _ _ _ _ rfl vs q1 q2 q3 x W
 obtain⟨-,al,Z,rfl,-⟩:=hl;obtain⟨⟨-,a1,U,rfl,-⟩,⟨-,a2,S,rfl,-⟩,⟨-,a3,R,rfl,-⟩⟩:=hm;unfold Zc at *;obtain⟨px,py⟩:=x;simp only at g1 g5 g2 g3;replace f2:=qH f2;replace f3:=qH f3;replace g1:=qH g1;replace g2:=qH g2;replace g3:=qH g3;replace g5:=qH g5;have HA:=Zdl;have HH:=Zcj;unfold askD at HA HH;replace HA:=qH HA;replace HH:=qH HH;have hmm:=@run_makeMap Tryz.prog;clear V;have p:=qH (qK w.heap.size w);go_enter Tryz.func16,Tryz.ntmps16;go_upto_region 1 with fail
 generalize hXX0:World.alloc (World.alloc w _) _=X0;obtain⟨q0,q1,hA,hzX0⟩:=box2 hXX0;clear hXX0;have p:=qH hA;clear hA;have MB:=qH q0;clear q0;have XB:=qH q1;clear q1 hzX0;obtain⟨c0,U,S,R,c4,c5,c6,c7,c8,c9,c10⟩:=Zh (m:=m) MB.out;have y0:=cX 0 XB.out rfl;go_wp2_with fail;refine (f2.out _ p.out).mono ?_;rintro e G ⟨rfl,b1⟩;replace p:=zAd p b1;have b:=qH b1;clear b1 y0 c0 U S R c4 c5 c6 c7 c8 c9 c10;have F:=qH (World.ownsMap_made G Tryz.prog 3 fnR);have BM:=qH ((qK G.heap.size G).alloc (qN _) (.map #[] 0));go_upto_region 5 with (first | (refine ZD (H:=Value) _ rfl _ _ _ 107 rfl 3 105 keyInt Tryz.underlying107 fnR G.heap.size _ _ rfl F.out (by unfold maxLen;omega) (.int .i64 1) (.func (.func 54) #[] #[]) (.int .i64 1) rfl rfl (keyOf_int_mk Tryz.underlying3 rfl) (.held (.func (.func 54) #[] #[])) [] rfl ?_;intro w9 o g9;have L:=qH o;replace BM:=qH (BM.out.grown g9 BM.out.size (fun j hj=>by cases hj;exact qN _));clear F o g9;have F:=L;clear L) | (refine ZD (H:=Value) _ rfl _ _ _ 107 rfl 3 105 keyInt Tryz.underlying107 fnR G.heap.size _ _ rfl F.out (by unfold maxLen;omega) (.int .i64 5) (.func (.func 55) #[] #[]) (.int .i64 5) rfl rfl (keyOf_int_mk Tryz.underlying3 rfl) (.held (.func (.func 55) #[] #[])) [] rfl ?_;intro w9 o g9;have L:=qH o;replace BM:=qH (BM.out.grown g9 BM.out.size (fun j hj=>by cases hj;exact qN _));clear F o g9;have F:=L;clear L) | (refine ZD (H:=Value) _ rfl _ _ _ 107 rfl 3 105 keyInt Tryz.underlying107 fnR G.heap.size _ _ rfl F.out (by unfold maxLen;omega) (.int .i64 2) (.func (.func 56) #[] #[]) (.int .i64 2) rfl rfl (keyOf_int_mk Tryz.underlying3 rfl) (.held (.func (.func 56) #[] #[])) [] rfl ?_;intro w9 o g9;have L:=qH o;replace BM:=qH (BM.out.grown g9 BM.out.size (fun j hj=>by cases hj;exact qN _));clear F o g9;have F:=L;clear L) | (refine ZD (H:=Value) _ rfl _ _ _ 107 rfl 3 105 keyInt Tryz.underlying107 fnR G.heap.size _ _ rfl F.out (by unfold maxLen;omega) (.int .i64 3) (.func (.func 57) #[] #[]) (.int .i64 3) rfl rfl (keyOf_int_mk Tryz.underlying3 rfl) (.held (.func (.func 57) #[] #[])) [] rfl ?_;intro w9 o g9;have L:=qH o;replace BM:=qH (BM.out.grown g9 BM.out.size (fun j hj=>by cases hj;exact qN _));clear F o g9;have F:=L;clear L) | (refine ZD (H:=Value) _ rfl _ _ _ 107 rfl 3 105 keyInt Tryz.underlying107 fnR G.heap.size _ _ rfl F.out (by unfold maxLen;omega) (.int .i64 4) (.func (.func 57) #[] #[]) (.int .i64 4) rfl rfl (keyOf_int_mk Tryz.underlying3 rfl) (.held (.func (.func 57) #[] #[])) [] rfl ?_;intro w9 o g9;have L:=qH o;replace BM:=qH (BM.out.grown g9 BM.out.size (fun j hj=>by cases hj;exact qN _));clear F o g9;have F:=L;clear L) | go_in)
 obtain⟨M,hX5,-⟩:=Z43 BM.out;subst hX5;have b5:=BM.out;clear BM;replace p:=zAd p b5;replace b:=zAd b b5;clear b5;have Y:=qH (zCj MB b);have q:=qH (zCj XB b);have y1:=cX 1 q.out rfl;have y2:=cX 2 q.out rfl;rcases hK6 with rfl | rfl | rfl | rfl | rfl | rfl
 ·skip
  have d:=HA.out.1;have c:=HH.out.1;have E:(Lit.int .i64 0).wf=true:=rfl;go_wp2_with (at_lookup;refine wpList_lookup_own_ok (H:=Value) _ rfl _ _ 107 rfl 3 105 keyInt Tryz.underlying107 fnR (zeroF0 _) (.held .nilFunc) [] rfl G.heap.size _ _ rfl F.out _ _ rfl (keyOf_int_mk Tryz.underlying3 E) ?_;intro v9 ps9 o;replace o:=ZX o d;subst o;rw [c]);go_ret2;exact⟨by simp [askB],p.out⟩
 ·skip
  have d:=HA.out.2.1;have c:=HH.out.2.1;have E:(Lit.int .i64 1).wf=true:=rfl;have hk:=hkw (by decide)
  by_cases h1:(k:Int)=q1;rotate_left
  ·have d1:((k:Int) != q1)=true:=by simpa using h1
   go_wp2_with (at_lookup;refine wpList_lookup_own_ok (H:=Value) _ rfl _ _ 107 rfl 3 105 keyInt Tryz.underlying107 fnR (zeroF0 _) (.held .nilFunc) [] rfl G.heap.size _ _ rfl F.out _ _ rfl (keyOf_int_mk Tryz.underlying3 E) ?_;intro v9 ps9 o;replace o:=ZX o d;subst o;rw [c]);go_ret2;exact⟨by simp [h1],p.out⟩
  by_cases h2:(1:Int)=q2;rotate_left
  ·have d2:((1:Int) != q2)=true:=by simpa using h2
   subst h1;go_wp2_with (at_lookup;refine wpList_lookup_own_ok (H:=Value) _ rfl _ _ 107 rfl 3 105 keyInt Tryz.underlying107 fnR (zeroF0 _) (.held .nilFunc) [] rfl G.heap.size _ _ rfl F.out _ _ rfl (keyOf_int_mk Tryz.underlying3 E) ?_;intro v9 ps9 o;replace o:=ZX o d;subst o;rw [c]);go_ret2;exact⟨by simp [h2],p.out⟩
  subst h1 h2;have d1:((k:Int) != (k:Int))=false:=by simp
  go_upto_region 8 with (at_lookup;refine wpList_lookup_own_ok (H:=Value) _ rfl _ _ 107 rfl 3 105 keyInt Tryz.underlying107 fnR (zeroF0 _) (.held .nilFunc) [] rfl G.heap.size _ _ rfl F.out _ _ rfl (keyOf_int_mk Tryz.underlying3 E) ?_;intro v9 ps9 o;replace o:=ZX o d;subst o;rw [c])
  clear y1 y2 d c;refine (wpIn_wide (n:=9)).1 ?_;refine Zi (Zk _) 9 (fun X=>Below M.heap.size M X) (by kernel_rfl) (by kernel_rfl) (by kernel_rfl) fun hH inv0=>?_
  have Q:=Below.drew (qK M.heap.size M);generalize I:M.drew=X9 at *;clear I;replace p:=zAd p Q;replace b:=zAd b Q;have a:=qH Q;clear Q;refine sk hH 0 (.func (.func 54) #[] #[]) (Zd rfl) inv0 (fun X hX=>?_) fun C=>?_
  ·go_simp
  simp only [pT];clear inv0;refine sk hH 1 (qA #[qS a1 m.ways.length (m.ways.length+U),qS a2 m.home.length (m.home.length+S),O qL m.start,qS a3 m.rocks.length (m.rocks.length+R),O qL m.speed,O qL m.part,O qL m.flow,O qL m.idle,O qL m.drive,O qL m.battery,O qL m.deadline]) (Zd rfl) C (fun X hX=>?_) fun A=>?_
  ·have g:=Y.out.below hX Y.out.lt;obtain⟨c0,U,S,R,c4,c5,c6,c7,c8,c9,c10⟩:=Zh (m:=m) g;go_simp
  simp only [pT];clear C;refine sk hH 2 (.pointer (some ⟨w.heap.size+1,0,none⟩)) (Zd rfl) A (fun X hX=>?_) fun D=>?_
  ·go_simp
  simp only [pT];clear A;refine sk hH 3 (qS al l.length (l.length+Z)) (Zd rfl) D (fun X hX=>?_) fun z=>?_
  ·have g:=q.out.below hX q.out.lt;have t0:=cX 0 g rfl;have t1:=cX 1 g rfl;have t2:=cX 2 g rfl;have t3:=cX 3 g rfl;have t4:=cX 4 g rfl;have t5:=cX 5 g rfl;go_simp
  simp only [pT];clear D;refine sk hH 4 (O qL (k:Int)) (Zd rfl) z (fun X hX=>?_) fun u=>?_
  ·go_simp
  simp only [pT];clear z;refine sk hH 6 (qA #[qS al l.length (l.length+Z),O qL (k:Int),O qL 1,O qL q3,O qL px,O qL py]) (Zd rfl) u (fun X hX=>?_) fun v=>?_
  ·have g:=q.out.below hX q.out.lt;have t0:=cX 0 g rfl;have t1:=cX 1 g rfl;have t2:=cX 2 g rfl;have t3:=cX 3 g rfl;have t4:=cX 4 g rfl;have t5:=cX 5 g rfl;go_simp
  simp only [pT];clear u;have s:=HeadInv.put2 v (j:=5) (by kernel_rfl) (by omega)
  clear v;refine sa1 (r:=5) a.out ?_;refine Zo (Zd rfl) rfl (f:=37) (args:=#[qA #[qS a1 m.ways.length (m.ways.length+U),qS a2 m.home.length (m.home.length+S),O qL m.start,qS a3 m.rocks.length (m.rocks.length+R),O qL m.speed,O qL m.part,O qL m.flow,O qL m.idle,O qL m.drive,O qL m.battery,O qL m.deadline],qS al l.length (l.length+Z),O qL (k:Int)]) (by go_simp) (f3.out X9 p.out) ?_
  rintro e w2 ⟨vb,va,rfl,t6,N,-,-⟩;refine⟨_,rfl,?_⟩;simp only [pT];replace p:=zAd p N;replace b:=zAd b N;replace a:=zAd a N;clear N;have T6:=qH t6;clear t6;obtain⟨-,ab,cb,hvb,-⟩:=T6.out.bef;subst hvb;obtain⟨-,aa,ca,hva,-⟩:=T6.out.aft;subst hva;have t:=HeadInv.put2 s (j:=7) (by kernel_rfl) (by omega)
  clear s;refine sa1 (r:=7) a.out ?_;refine Zo (Zd rfl) rfl (f:=54) (args:=#[qA (stgC m (qS a1 m.ways.length (m.ways.length+U)) (qS a2 m.home.length (m.home.length+S)) (qS a3 m.rocks.length (m.rocks.length+R)) (qS ab (rdBU m l).length ((rdBU m l).length+cb)) (qS aa (rdAU m l).length ((rdAU m l).length+ca)) k),qA #[qS al l.length (l.length+Z),O qL (k:Int),O qL 1,O qL q3,O qL px,O qL py]]) (by go_simp) (g1.out _ _ w2 T6.out hk) ?_
  rintro e w3 ⟨rfl,P⟩;refine⟨_,rfl,?_⟩;simp only [pT];replace p:=zAd p P;replace b:=zAd b P;replace a:=zAd a P;clear P;refine sk hH 8 (.bool (inO m l k q3 ⟨px,py⟩)) (Zd rfl) t (fun X hX=>?_) fun J=>?_
  ·go_simp
  simp only [pT];clear t J hH;refine Zj (by kernel_rfl) a.out ?_
  simp only [List.drop_succ_cons,List.drop_zero];clear a;gi_wp2;go_wp2;go_ret2;exact⟨by simp [askB],p.out⟩
 ·skip
  have d:=HA.out.2.2.1;have c:=HH.out.2.2.1;have E:(Lit.int .i64 5).wf=true:=rfl;have hk:=hkw (by decide)
  by_cases h1:(k:Int)=q1;rotate_left
  ·have d1:((k:Int) != q1)=true:=by simpa using h1
   go_wp2_with (at_lookup;refine wpList_lookup_own_ok (H:=Value) _ rfl _ _ 107 rfl 3 105 keyInt Tryz.underlying107 fnR (zeroF0 _) (.held .nilFunc) [] rfl G.heap.size _ _ rfl F.out _ _ rfl (keyOf_int_mk Tryz.underlying3 E) ?_;intro v9 ps9 o;replace o:=ZX o d;subst o;rw [c]);go_ret2;exact⟨by simp [h1],p.out⟩
  by_cases h2:(5:Int)=q2;rotate_left
  ·have d2:((5:Int) != q2)=true:=by simpa using h2
   subst h1;go_wp2_with (at_lookup;refine wpList_lookup_own_ok (H:=Value) _ rfl _ _ 107 rfl 3 105 keyInt Tryz.underlying107 fnR (zeroF0 _) (.held .nilFunc) [] rfl G.heap.size _ _ rfl F.out _ _ rfl (keyOf_int_mk Tryz.underlying3 E) ?_;intro v9 ps9 o;replace o:=ZX o d;subst o;rw [c]);go_ret2;exact⟨by simp [h2],p.out⟩
  subst h1 h2;have d1:((k:Int) != (k:Int))=false:=by simp
  go_upto_region 8 with (at_lookup;refine wpList_lookup_own_ok (H:=Value) _ rfl _ _ 107 rfl 3 105 keyInt Tryz.underlying107 fnR (zeroF0 _) (.held .nilFunc) [] rfl G.heap.size _ _ rfl F.out _ _ rfl (keyOf_int_mk Tryz.underlying3 E) ?_;intro v9 ps9 o;replace o:=ZX o d;subst o;rw [c])
  clear y1 y2 d c;refine (wpIn_wide (n:=9)).1 ?_;refine Zi (Zk _) 9 (fun X=>Below M.heap.size M X) (by kernel_rfl) (by kernel_rfl) (by kernel_rfl) fun hH inv0=>?_
  have Q:=Below.drew (qK M.heap.size M);generalize I:M.drew=X9 at *;clear I;replace p:=zAd p Q;replace b:=zAd b Q;have a:=qH Q;clear Q;refine sk hH 0 (.func (.func 55) #[] #[]) (Zd rfl) inv0 (fun X hX=>?_) fun C=>?_
  ·go_simp
  simp only [pT];clear inv0;refine sk hH 1 (qA #[qS a1 m.ways.length (m.ways.length+U),qS a2 m.home.length (m.home.length+S),O qL m.start,qS a3 m.rocks.length (m.rocks.length+R),O qL m.speed,O qL m.part,O qL m.flow,O qL m.idle,O qL m.drive,O qL m.battery,O qL m.deadline]) (Zd rfl) C (fun X hX=>?_) fun A=>?_
  ·have g:=Y.out.below hX Y.out.lt;obtain⟨c0,U,S,R,c4,c5,c6,c7,c8,c9,c10⟩:=Zh (m:=m) g;go_simp
  simp only [pT];clear C;refine sk hH 2 (.pointer (some ⟨w.heap.size+1,0,none⟩)) (Zd rfl) A (fun X hX=>?_) fun D=>?_
  ·go_simp
  simp only [pT];clear A;refine sk hH 3 (qS al l.length (l.length+Z)) (Zd rfl) D (fun X hX=>?_) fun z=>?_
  ·have g:=q.out.below hX q.out.lt;have t0:=cX 0 g rfl;have t1:=cX 1 g rfl;have t2:=cX 2 g rfl;have t3:=cX 3 g rfl;have t4:=cX 4 g rfl;have t5:=cX 5 g rfl;go_simp
  simp only [pT];clear D;refine sk hH 4 (O qL (k:Int)) (Zd rfl) z (fun X hX=>?_) fun u=>?_
  ·go_simp
  simp only [pT];clear z;refine sk hH 6 (qA #[qS al l.length (l.length+Z),O qL (k:Int),O qL 5,O qL q3,O qL px,O qL py]) (Zd rfl) u (fun X hX=>?_) fun v=>?_
  ·have g:=q.out.below hX q.out.lt;have t0:=cX 0 g rfl;have t1:=cX 1 g rfl;have t2:=cX 2 g rfl;have t3:=cX 3 g rfl;have t4:=cX 4 g rfl;have t5:=cX 5 g rfl;go_simp
  simp only [pT];clear u;have s:=HeadInv.put2 v (j:=5) (by kernel_rfl) (by omega)
  clear v;refine sa1 (r:=5) a.out ?_;refine Zo (Zd rfl) rfl (f:=37) (args:=#[qA #[qS a1 m.ways.length (m.ways.length+U),qS a2 m.home.length (m.home.length+S),O qL m.start,qS a3 m.rocks.length (m.rocks.length+R),O qL m.speed,O qL m.part,O qL m.flow,O qL m.idle,O qL m.drive,O qL m.battery,O qL m.deadline],qS al l.length (l.length+Z),O qL (k:Int)]) (by go_simp) (f3.out X9 p.out) ?_
  rintro e w2 ⟨vb,va,rfl,t6,N,-,-⟩;refine⟨_,rfl,?_⟩;simp only [pT];replace p:=zAd p N;replace b:=zAd b N;replace a:=zAd a N;clear N;have T6:=qH t6;clear t6;obtain⟨-,ab,cb,hvb,-⟩:=T6.out.bef;subst hvb;obtain⟨-,aa,ca,hva,-⟩:=T6.out.aft;subst hva;have t:=HeadInv.put2 s (j:=7) (by kernel_rfl) (by omega)
  clear s;refine sa1 (r:=7) a.out ?_;refine Zo (Zd rfl) rfl (f:=55) (args:=#[qA (stgC m (qS a1 m.ways.length (m.ways.length+U)) (qS a2 m.home.length (m.home.length+S)) (qS a3 m.rocks.length (m.rocks.length+R)) (qS ab (rdBU m l).length ((rdBU m l).length+cb)) (qS aa (rdAU m l).length ((rdAU m l).length+ca)) k),qA #[qS al l.length (l.length+Z),O qL (k:Int),O qL 5,O qL q3,O qL px,O qL py]]) (by go_simp) (g5.out _ _ w2 T6.out hk) ?_
  rintro e w3 ⟨rfl,P⟩;refine⟨_,rfl,?_⟩;simp only [pT];replace p:=zAd p P;replace b:=zAd b P;replace a:=zAd a P;clear P;refine sk hH 8 (.bool (bkAny m l k ⟨px,py⟩ && onR m q3 ⟨px,py⟩)) (Zd rfl) t (fun X hX=>?_) fun J=>?_
  ·go_simp
  simp only [pT];clear t J hH;refine Zj (by kernel_rfl) a.out ?_
  simp only [List.drop_succ_cons,List.drop_zero];clear a;gi_wp2;go_wp2;go_ret2;exact⟨by simp [askB],p.out⟩
 ·skip
  have d:=HA.out.2.2.2.1;have c:=HH.out.2.2.2.1;have E:(Lit.int .i64 2).wf=true:=rfl;have hk:=hkw (by decide)
  by_cases h1:(k:Int)=q1;rotate_left
  ·have d1:((k:Int) != q1)=true:=by simpa using h1
   go_wp2_with (at_lookup;refine wpList_lookup_own_ok (H:=Value) _ rfl _ _ 107 rfl 3 105 keyInt Tryz.underlying107 fnR (zeroF0 _) (.held .nilFunc) [] rfl G.heap.size _ _ rfl F.out _ _ rfl (keyOf_int_mk Tryz.underlying3 E) ?_;intro v9 ps9 o;replace o:=ZX o d;subst o;rw [c]);go_ret2;exact⟨by simp [h1],p.out⟩
  by_cases h2:(2:Int)=q2;rotate_left
  ·have d2:((2:Int) != q2)=true:=by simpa using h2
   subst h1;go_wp2_with (at_lookup;refine wpList_lookup_own_ok (H:=Value) _ rfl _ _ 107 rfl 3 105 keyInt Tryz.underlying107 fnR (zeroF0 _) (.held .nilFunc) [] rfl G.heap.size _ _ rfl F.out _ _ rfl (keyOf_int_mk Tryz.underlying3 E) ?_;intro v9 ps9 o;replace o:=ZX o d;subst o;rw [c]);go_ret2;exact⟨by simp [h2],p.out⟩
  subst h1 h2;have d1:((k:Int) != (k:Int))=false:=by simp
  go_upto_region 8 with (at_lookup;refine wpList_lookup_own_ok (H:=Value) _ rfl _ _ 107 rfl 3 105 keyInt Tryz.underlying107 fnR (zeroF0 _) (.held .nilFunc) [] rfl G.heap.size _ _ rfl F.out _ _ rfl (keyOf_int_mk Tryz.underlying3 E) ?_;intro v9 ps9 o;replace o:=ZX o d;subst o;rw [c])
  clear y1 y2 d c;refine (wpIn_wide (n:=9)).1 ?_;refine Zi (Zk _) 9 (fun X=>Below M.heap.size M X) (by kernel_rfl) (by kernel_rfl) (by kernel_rfl) fun hH inv0=>?_
  have Q:=Below.drew (qK M.heap.size M);generalize I:M.drew=X9 at *;clear I;replace p:=zAd p Q;replace b:=zAd b Q;have a:=qH Q;clear Q;refine sk hH 0 (.func (.func 56) #[] #[]) (Zd rfl) inv0 (fun X hX=>?_) fun C=>?_
  ·go_simp
  simp only [pT];clear inv0;refine sk hH 1 (qA #[qS a1 m.ways.length (m.ways.length+U),qS a2 m.home.length (m.home.length+S),O qL m.start,qS a3 m.rocks.length (m.rocks.length+R),O qL m.speed,O qL m.part,O qL m.flow,O qL m.idle,O qL m.drive,O qL m.battery,O qL m.deadline]) (Zd rfl) C (fun X hX=>?_) fun A=>?_
  ·have g:=Y.out.below hX Y.out.lt;obtain⟨c0,U,S,R,c4,c5,c6,c7,c8,c9,c10⟩:=Zh (m:=m) g;go_simp
  simp only [pT];clear C;refine sk hH 2 (.pointer (some ⟨w.heap.size+1,0,none⟩)) (Zd rfl) A (fun X hX=>?_) fun D=>?_
  ·go_simp
  simp only [pT];clear A;refine sk hH 3 (qS al l.length (l.length+Z)) (Zd rfl) D (fun X hX=>?_) fun z=>?_
  ·have g:=q.out.below hX q.out.lt;have t0:=cX 0 g rfl;have t1:=cX 1 g rfl;have t2:=cX 2 g rfl;have t3:=cX 3 g rfl;have t4:=cX 4 g rfl;have t5:=cX 5 g rfl;go_simp
  simp only [pT];clear D;refine sk hH 4 (O qL (k:Int)) (Zd rfl) z (fun X hX=>?_) fun u=>?_
  ·go_simp
  simp only [pT];clear z;refine sk hH 6 (qA #[qS al l.length (l.length+Z),O qL (k:Int),O qL 2,O qL q3,O qL px,O qL py]) (Zd rfl) u (fun X hX=>?_) fun v=>?_
  ·have g:=q.out.below hX q.out.lt;have t0:=cX 0 g rfl;have t1:=cX 1 g rfl;have t2:=cX 2 g rfl;have t3:=cX 3 g rfl;have t4:=cX 4 g rfl;have t5:=cX 5 g rfl;go_simp
  simp only [pT];clear u;have s:=HeadInv.put2 v (j:=5) (by kernel_rfl) (by omega)
  clear v;refine sa1 (r:=5) a.out ?_;refine Zo (Zd rfl) rfl (f:=37) (args:=#[qA #[qS a1 m.ways.length (m.ways.length+U),qS a2 m.home.length (m.home.length+S),O qL m.start,qS a3 m.rocks.length (m.rocks.length+R),O qL m.speed,O qL m.part,O qL m.flow,O qL m.idle,O qL m.drive,O qL m.battery,O qL m.deadline],qS al l.length (l.length+Z),O qL (k:Int)]) (by go_simp) (f3.out X9 p.out) ?_
  rintro e w2 ⟨vb,va,rfl,t6,N,-,-⟩;refine⟨_,rfl,?_⟩;simp only [pT];replace p:=zAd p N;replace b:=zAd b N;replace a:=zAd a N;clear N;have T6:=qH t6;clear t6;obtain⟨-,ab,cb,hvb,-⟩:=T6.out.bef;subst hvb;obtain⟨-,aa,ca,hva,-⟩:=T6.out.aft;subst hva;have t:=HeadInv.put2 s (j:=7) (by kernel_rfl) (by omega)
  clear s;refine sa1 (r:=7) a.out ?_;refine Zo (Zd rfl) rfl (f:=56) (args:=#[qA (stgC m (qS a1 m.ways.length (m.ways.length+U)) (qS a2 m.home.length (m.home.length+S)) (qS a3 m.rocks.length (m.rocks.length+R)) (qS ab (rdBU m l).length ((rdBU m l).length+cb)) (qS aa (rdAU m l).length ((rdAU m l).length+ca)) k),qA #[qS al l.length (l.length+Z),O qL (k:Int),O qL 2,O qL q3,O qL px,O qL py]]) (by go_simp) (g2.out _ _ w2 T6.out hk) ?_
  rintro e w3 ⟨rfl,P⟩;refine⟨_,rfl,?_⟩;simp only [pT];replace p:=zAd p P;replace b:=zAd b P;replace a:=zAd a P;clear P;refine sk hH 8 (.bool (ntH m l k q3 ⟨px,py⟩)) (Zd rfl) t (fun X hX=>?_) fun J=>?_
  ·go_simp
  simp only [pT];clear t J hH;refine Zj (by kernel_rfl) a.out ?_
  simp only [List.drop_succ_cons,List.drop_zero];clear a;gi_wp2;go_wp2;go_ret2;exact⟨by simp [askB],p.out⟩
 ·skip
  have d:=HA.out.2.2.2.2.1;have c:=HH.out.2.2.2.2.1;have E:(Lit.int .i64 3).wf=true:=rfl;have hk:=hkw (by decide)
  by_cases h1:(k:Int)=q1;rotate_left
  ·have d1:((k:Int) != q1)=true:=by simpa using h1
   go_wp2_with (at_lookup;refine wpList_lookup_own_ok (H:=Value) _ rfl _ _ 107 rfl 3 105 keyInt Tryz.underlying107 fnR (zeroF0 _) (.held .nilFunc) [] rfl G.heap.size _ _ rfl F.out _ _ rfl (keyOf_int_mk Tryz.underlying3 E) ?_;intro v9 ps9 o;replace o:=ZX o d;subst o;rw [c]);go_ret2;exact⟨by simp [h1],p.out⟩
  by_cases h2:(3:Int)=q2;rotate_left
  ·have d2:((3:Int) != q2)=true:=by simpa using h2
   subst h1;go_wp2_with (at_lookup;refine wpList_lookup_own_ok (H:=Value) _ rfl _ _ 107 rfl 3 105 keyInt Tryz.underlying107 fnR (zeroF0 _) (.held .nilFunc) [] rfl G.heap.size _ _ rfl F.out _ _ rfl (keyOf_int_mk Tryz.underlying3 E) ?_;intro v9 ps9 o;replace o:=ZX o d;subst o;rw [c]);go_ret2;exact⟨by simp [h2],p.out⟩
  subst h1 h2;have d1:((k:Int) != (k:Int))=false:=by simp
  go_upto_region 8 with (at_lookup;refine wpList_lookup_own_ok (H:=Value) _ rfl _ _ 107 rfl 3 105 keyInt Tryz.underlying107 fnR (zeroF0 _) (.held .nilFunc) [] rfl G.heap.size _ _ rfl F.out _ _ rfl (keyOf_int_mk Tryz.underlying3 E) ?_;intro v9 ps9 o;replace o:=ZX o d;subst o;rw [c])
  clear y1 y2 d c;refine (wpIn_wide (n:=9)).1 ?_;refine Zi (Zk _) 9 (fun X=>Below M.heap.size M X) (by kernel_rfl) (by kernel_rfl) (by kernel_rfl) fun hH inv0=>?_
  have Q:=Below.drew (qK M.heap.size M);generalize I:M.drew=X9 at *;clear I;replace p:=zAd p Q;replace b:=zAd b Q;have a:=qH Q;clear Q;refine sk hH 0 (.func (.func 57) #[] #[]) (Zd rfl) inv0 (fun X hX=>?_) fun C=>?_
  ·go_simp
  simp only [pT];clear inv0;refine sk hH 1 (qA #[qS a1 m.ways.length (m.ways.length+U),qS a2 m.home.length (m.home.length+S),O qL m.start,qS a3 m.rocks.length (m.rocks.length+R),O qL m.speed,O qL m.part,O qL m.flow,O qL m.idle,O qL m.drive,O qL m.battery,O qL m.deadline]) (Zd rfl) C (fun X hX=>?_) fun A=>?_
  ·have g:=Y.out.below hX Y.out.lt;obtain⟨c0,U,S,R,c4,c5,c6,c7,c8,c9,c10⟩:=Zh (m:=m) g;go_simp
  simp only [pT];clear C;refine sk hH 2 (.pointer (some ⟨w.heap.size+1,0,none⟩)) (Zd rfl) A (fun X hX=>?_) fun D=>?_
  ·go_simp
  simp only [pT];clear A;refine sk hH 3 (qS al l.length (l.length+Z)) (Zd rfl) D (fun X hX=>?_) fun z=>?_
  ·have g:=q.out.below hX q.out.lt;have t0:=cX 0 g rfl;have t1:=cX 1 g rfl;have t2:=cX 2 g rfl;have t3:=cX 3 g rfl;have t4:=cX 4 g rfl;have t5:=cX 5 g rfl;go_simp
  simp only [pT];clear D;refine sk hH 4 (O qL (k:Int)) (Zd rfl) z (fun X hX=>?_) fun u=>?_
  ·go_simp
  simp only [pT];clear z;refine sk hH 6 (qA #[qS al l.length (l.length+Z),O qL (k:Int),O qL 3,O qL q3,O qL px,O qL py]) (Zd rfl) u (fun X hX=>?_) fun v=>?_
  ·have g:=q.out.below hX q.out.lt;have t0:=cX 0 g rfl;have t1:=cX 1 g rfl;have t2:=cX 2 g rfl;have t3:=cX 3 g rfl;have t4:=cX 4 g rfl;have t5:=cX 5 g rfl;go_simp
  simp only [pT];clear u;have s:=HeadInv.put2 v (j:=5) (by kernel_rfl) (by omega)
  clear v;refine sa1 (r:=5) a.out ?_;refine Zo (Zd rfl) rfl (f:=37) (args:=#[qA #[qS a1 m.ways.length (m.ways.length+U),qS a2 m.home.length (m.home.length+S),O qL m.start,qS a3 m.rocks.length (m.rocks.length+R),O qL m.speed,O qL m.part,O qL m.flow,O qL m.idle,O qL m.drive,O qL m.battery,O qL m.deadline],qS al l.length (l.length+Z),O qL (k:Int)]) (by go_simp) (f3.out X9 p.out) ?_
  rintro e w2 ⟨vb,va,rfl,t6,N,-,-⟩;refine⟨_,rfl,?_⟩;simp only [pT];replace p:=zAd p N;replace b:=zAd b N;replace a:=zAd a N;clear N;have T6:=qH t6;clear t6;obtain⟨-,ab,cb,hvb,-⟩:=T6.out.bef;subst hvb;obtain⟨-,aa,ca,hva,-⟩:=T6.out.aft;subst hva;have t:=HeadInv.put2 s (j:=7) (by kernel_rfl) (by omega)
  clear s;refine sa1 (r:=7) a.out ?_;refine Zo (Zd rfl) rfl (f:=57) (args:=#[qA (stgC m (qS a1 m.ways.length (m.ways.length+U)) (qS a2 m.home.length (m.home.length+S)) (qS a3 m.rocks.length (m.rocks.length+R)) (qS ab (rdBU m l).length ((rdBU m l).length+cb)) (qS aa (rdAU m l).length ((rdAU m l).length+ca)) k),qA #[qS al l.length (l.length+Z),O qL (k:Int),O qL 3,O qL q3,O qL px,O qL py]]) (by go_simp) (g3.out _ _ w2) ?_
  rintro e w3 ⟨rfl,P⟩;refine⟨_,rfl,?_⟩;simp only [pT];replace p:=zAd p P;replace b:=zAd b P;replace a:=zAd a P;clear P;refine sk hH 8 (.bool (notB q3 ⟨px,py⟩)) (Zd rfl) t (fun X hX=>?_) fun J=>?_
  ·go_simp
  simp only [pT];clear t J hH;refine Zj (by kernel_rfl) a.out ?_
  simp only [List.drop_succ_cons,List.drop_zero];clear a;gi_wp2;go_wp2;go_ret2;exact⟨by simp [askB],p.out⟩
 ·skip
  have d:=HA.out.2.2.2.2.2;have c:=HH.out.2.2.2.2.2;have E:(Lit.int .i64 4).wf=true:=rfl;have hk:=hkw (by decide)
  by_cases h1:(k:Int)=q1;rotate_left
  ·have d1:((k:Int) != q1)=true:=by simpa using h1
   go_wp2_with (at_lookup;refine wpList_lookup_own_ok (H:=Value) _ rfl _ _ 107 rfl 3 105 keyInt Tryz.underlying107 fnR (zeroF0 _) (.held .nilFunc) [] rfl G.heap.size _ _ rfl F.out _ _ rfl (keyOf_int_mk Tryz.underlying3 E) ?_;intro v9 ps9 o;replace o:=ZX o d;subst o;rw [c]);go_ret2;exact⟨by simp [h1],p.out⟩
  by_cases h2:(4:Int)=q2;rotate_left
  ·have d2:((4:Int) != q2)=true:=by simpa using h2
   subst h1;go_wp2_with (at_lookup;refine wpList_lookup_own_ok (H:=Value) _ rfl _ _ 107 rfl 3 105 keyInt Tryz.underlying107 fnR (zeroF0 _) (.held .nilFunc) [] rfl G.heap.size _ _ rfl F.out _ _ rfl (keyOf_int_mk Tryz.underlying3 E) ?_;intro v9 ps9 o;replace o:=ZX o d;subst o;rw [c]);go_ret2;exact⟨by simp [h2],p.out⟩
  subst h1 h2;have d1:((k:Int) != (k:Int))=false:=by simp
  go_upto_region 8 with (at_lookup;refine wpList_lookup_own_ok (H:=Value) _ rfl _ _ 107 rfl 3 105 keyInt Tryz.underlying107 fnR (zeroF0 _) (.held .nilFunc) [] rfl G.heap.size _ _ rfl F.out _ _ rfl (keyOf_int_mk Tryz.underlying3 E) ?_;intro v9 ps9 o;replace o:=ZX o d;subst o;rw [c])
  clear y1 y2 d c;refine (wpIn_wide (n:=9)).1 ?_;refine Zi (Zk _) 9 (fun X=>Below M.heap.size M X) (by kernel_rfl) (by kernel_rfl) (by kernel_rfl) fun hH inv0=>?_
  have Q:=Below.drew (qK M.heap.size M);generalize I:M.drew=X9 at *;clear I;replace p:=zAd p Q;replace b:=zAd b Q;have a:=qH Q;clear Q;refine sk hH 0 (.func (.func 57) #[] #[]) (Zd rfl) inv0 (fun X hX=>?_) fun C=>?_
  ·go_simp
  simp only [pT];clear inv0;refine sk hH 1 (qA #[qS a1 m.ways.length (m.ways.length+U),qS a2 m.home.length (m.home.length+S),O qL m.start,qS a3 m.rocks.length (m.rocks.length+R),O qL m.speed,O qL m.part,O qL m.flow,O qL m.idle,O qL m.drive,O qL m.battery,O qL m.deadline]) (Zd rfl) C (fun X hX=>?_) fun A=>?_
  ·have g:=Y.out.below hX Y.out.lt;obtain⟨c0,U,S,R,c4,c5,c6,c7,c8,c9,c10⟩:=Zh (m:=m) g;go_simp
  simp only [pT];clear C;refine sk hH 2 (.pointer (some ⟨w.heap.size+1,0,none⟩)) (Zd rfl) A (fun X hX=>?_) fun D=>?_
  ·go_simp
  simp only [pT];clear A;refine sk hH 3 (qS al l.length (l.length+Z)) (Zd rfl) D (fun X hX=>?_) fun z=>?_
  ·have g:=q.out.below hX q.out.lt;have t0:=cX 0 g rfl;have t1:=cX 1 g rfl;have t2:=cX 2 g rfl;have t3:=cX 3 g rfl;have t4:=cX 4 g rfl;have t5:=cX 5 g rfl;go_simp
  simp only [pT];clear D;refine sk hH 4 (O qL (k:Int)) (Zd rfl) z (fun X hX=>?_) fun u=>?_
  ·go_simp
  simp only [pT];clear z;refine sk hH 6 (qA #[qS al l.length (l.length+Z),O qL (k:Int),O qL 4,O qL q3,O qL px,O qL py]) (Zd rfl) u (fun X hX=>?_) fun v=>?_
  ·have g:=q.out.below hX q.out.lt;have t0:=cX 0 g rfl;have t1:=cX 1 g rfl;have t2:=cX 2 g rfl;have t3:=cX 3 g rfl;have t4:=cX 4 g rfl;have t5:=cX 5 g rfl;go_simp
  simp only [pT];clear u;have s:=HeadInv.put2 v (j:=5) (by kernel_rfl) (by omega)
  clear v;refine sa1 (r:=5) a.out ?_;refine Zo (Zd rfl) rfl (f:=37) (args:=#[qA #[qS a1 m.ways.length (m.ways.length+U),qS a2 m.home.length (m.home.length+S),O qL m.start,qS a3 m.rocks.length (m.rocks.length+R),O qL m.speed,O qL m.part,O qL m.flow,O qL m.idle,O qL m.drive,O qL m.battery,O qL m.deadline],qS al l.length (l.length+Z),O qL (k:Int)]) (by go_simp) (f3.out X9 p.out) ?_
  rintro e w2 ⟨vb,va,rfl,t6,N,-,-⟩;refine⟨_,rfl,?_⟩;simp only [pT];replace p:=zAd p N;replace b:=zAd b N;replace a:=zAd a N;clear N;have T6:=qH t6;clear t6;obtain⟨-,ab,cb,hvb,-⟩:=T6.out.bef;subst hvb;obtain⟨-,aa,ca,hva,-⟩:=T6.out.aft;subst hva;have t:=HeadInv.put2 s (j:=7) (by kernel_rfl) (by omega)
  clear s;refine sa1 (r:=7) a.out ?_;refine Zo (Zd rfl) rfl (f:=57) (args:=#[qA (stgC m (qS a1 m.ways.length (m.ways.length+U)) (qS a2 m.home.length (m.home.length+S)) (qS a3 m.rocks.length (m.rocks.length+R)) (qS ab (rdBU m l).length ((rdBU m l).length+cb)) (qS aa (rdAU m l).length ((rdAU m l).length+ca)) k),qA #[qS al l.length (l.length+Z),O qL (k:Int),O qL 4,O qL q3,O qL px,O qL py]]) (by go_simp) (g3.out _ _ w2) ?_
  rintro e w3 ⟨rfl,P⟩;refine⟨_,rfl,?_⟩;simp only [pT];replace p:=zAd p P;replace b:=zAd b P;replace a:=zAd a P;clear P;refine sk hH 8 (.bool (notB q3 ⟨px,py⟩)) (Zd rfl) t (fun X hX=>?_) fun J=>?_
  ·go_simp
  simp only [pT];clear t J hH;refine Zj (by kernel_rfl) a.out ?_
  simp only [List.drop_succ_cons,List.drop_zero];clear a;gi_wp2;go_wp2;go_ret2;exact⟨by simp [askB],p.out⟩
theorem Z8W (m:Msn) (vw vh vr vs:Value) (l:List Int) (q1 q2 q3:Int) (x:Pt) (w:World) (hm:MsnAt w.heap.size w m vw vh vr) (hl:Z8 w.heap.size w vs l) :
  Calls Tryz.prog 16 #[qA (Zc m vw vh vr),qA #[vs,O qL q1,O qL q2,O qL q3,O qL x.x,O qL x.y]] w fun e w'=>e=.returned (.tuple #[.bool (brB m l q1 q2 q3 x),O qL (kpE m l)])/\Below w.heap.size w w':=by
 unfold brB;cases hok:radOkB m l
 ·have:=Zb1 m vw vh vr vs l q1 q2 q3 x w hm hl hok
  simpa [kpE,hok] using this
 ·have:=Z8V m vw vh vr vs l q1 q2 q3 x w hm hl hok
  obtain⟨c,b,a⟩:=kp_of hok;rw [c,b,a];simp only [Bool.true_and];exact this
end
section
open Go.RowKit
theorem ZbB {c:List Pt} {ls:List (List Pt)} (h:okRocks c ls=true):Zb c=true/\∀ j,j<ls.length->Zb (rk ls j)=true:=by
 unfold okRocks at h;rw [Bool.and_eq_true] at h;exact⟨h.1,of_decide_eq_true h.2⟩
theorem Z9H {m:Msn} {p:List Pt} (h:firB p m.rocks=true):(outE m p=0\/outE m p=20)/\(outE m p=0->hasB p ⟨hitX p (rk m.rocks (firI p m.rocks).toNat),hitY p (rk m.rocks (firI p m.rocks).toNat)⟩=true/\onR m (firI p m.rocks) ⟨hitX p (rk m.rocks (firI p m.rocks).toNat),hitY p (rk m.rocks (firI p m.rocks).toNat)⟩=true):=by
 have a:m.rocks.length<=100/\okRocks p m.rocks=true:=by
  unfold firB at h
  split at h
  ·assumption
  ·cases h
 obtain⟨d,k⟩:=ZbB a.2;obtain⟨c,r,-⟩:=fir_ok a.1 a.2;rw [r] at h;cases hh:hitTo p m.rocks m.rocks.length with
 | none=>rw [hh] at h;cases h
 | some i =>
  rw [hh] at c;obtain⟨j,g,-⟩:=Z2C hh;have e:firI p m.rocks=(i:Int):=c;unfold outE;rw [e,Int.toNat_natCast];have f:=k i j;unfold hitE hitX hitY;rw [d,f];simp only [Bool.and_self,if_true];cases hx:comX p (rk m.rocks i) with
  | none=>simp [g]
  | some q =>
   obtain⟨o,l⟩:=Zde d f hx;refine⟨.inl rfl,fun _=>⟨o,?_⟩⟩
   have n:decide ((i:Int)<m.rocks.length)=true:=decide_eq_true (by omega)
   have b:decide (0<=(i:Int))=true:=decide_eq_true (by omega)
   unfold onR;rw [n,b,Int.toNat_natCast];exact l
theorem ZbS {m:Msn} (V:VMsn m) {l:List Int} {k:Nat} (hk:k+1<m.ways.length):Zb (hmP m l k)=true:=by
 rw [Zcr V hk];exact (hm_eq V (bk_bd V l hk (qN _))).2
theorem Zd3 {p:List Pt} (h:Zb p=true) {x:Pt} (hx:x ∈ p):hasB p x=true:=by
 obtain⟨k,a,rfl⟩:=List.getElem_of_mem hx;have:=Z1c h a
 rwa [Z56 a] at this
theorem Zai {p:List Pt} {x:Pt} (h:hasB p x=true):Z3 x=true:=by
 unfold hasB at h;simp only [Bool.and_eq_true] at h;exact h.1.2
theorem Zab {x:Pt} (h:Z3 x=true):insB x=true:=by
 unfold Z3 placeB at h;have:=of_decide_eq_true h;unfold insB;simp only [Bool.and_eq_true,decide_eq_true_eq];omega
theorem Zbo {m:Msn} (V:VMsn m) {l:List Int} {k:Nat} (hk:k+1<m.ways.length) {K:Int} {v:Value} {cs:Array Value} (h:ShowQ m l k K v cs 0):∃ (r:Int) (x:Pt),cs=#[v,O qL (k:Int),O qL K,O qL r,O qL x.x,O qL x.y]/\askB m l k K r x=true:=by
 rcases h with⟨rfl,rfl,b,a⟩ | ⟨rfl,j,g,a,rfl,b⟩ | ⟨rfl,-,x,f,o,rfl⟩ | ⟨n,-,rfl⟩
 ·obtain⟨d,c⟩:=(Z9H a).2 b.symm
  refine⟨firI (ownC m l k) m.rocks,⟨hitX (ownC m l k) (rk m.rocks (firI (ownC m l k) m.rocks).toNat),hitY (ownC m l k) (rk m.rocks (firI (ownC m l k) m.rocks).toNat)⟩,rfl,?_⟩;unfold askB inO;rw [if_pos rfl,d,c];rfl
 ·obtain⟨d,c⟩:=(Z9H a).2 b.symm
  refine⟨firI (bkP m l k j) m.rocks,⟨hitX (bkP m l k j) (rk m.rocks (firI (bkP m l k j) m.rocks).toNat),hitY (bkP m l k j) (rk m.rocks (firI (bkP m l k j) m.rocks).toNat)⟩,rfl,?_⟩;unfold askB;rw [if_neg (by decide),if_pos rfl,Z87 g d,c];rfl
 ·refine⟨0,x,rfl,?_⟩
  have e:=Zd3 (ZbS V hk) f;unfold askB ntH;rw [if_neg (by decide),if_neg (by decide),if_pos rfl,e,o,Zab (Zai e)]
  rfl
 ·refine⟨0,⟨0,0⟩,rfl,?_⟩
  unfold askB notB;rw [if_neg (by omega),if_neg (by omega),if_neg (by omega),if_pos n]
  rfl
end
end Go.Proofs.YthipcinibldgnaaGreat
