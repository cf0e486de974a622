/- package scene: inOwn, notHome, inBack. | package scene: what the kinds of a leg say; the shows. | package scene: Worst. -/
import Derived.Test.YthipcinibldgnaaGreatBin26
import Derived.Test.YthipcinibldgnaaGreatBin23
import Derived.Maps.OwnSet
import Derived.Test.YthipcinibldgnaaGreatBin27
open Go.Value renaming int->O,pointer->qP,slice->qS,bool->qB,agg->qA
open Go.IntKind renaming i64->qL
open Go.Lib renaming hid->qH
open Go.RowKit.Below renaming refl->qK
open Go.World renaming setCell->qU,alloc->qV
open Nat renaming le_refl->qN
open Go.Act renaming put->qJ
set_option linter.unusedSimpArgs false
set_option linter.unusedVariables false
set_option maxRecDepth 8000
set_option maxHeartbeats 6400000
namespace Go.Proofs.YthipcinibldgnaaGreat
section
attribute [local irreducible] wpQuiet
open Go.RowKit
noncomputable def inO (m:Msn) (l:List Int) (k:Nat) (r:Int) (x:Pt):Bool:=onR m r x && hasB (ownC m l k) x
noncomputable def ntH (m:Msn) (l:List Int) (k:Nat) (r:Int) (x:Pt):Bool:=decide (r=0) && (hasB (hmP m l k) x && (!hasB m.home x && insB x))
noncomputable def bkAny (m:Msn) (l:List Int) (k:Nat) (x:Pt):Bool:=(List.range (dep m (k+1))).any fun j=>hasB (bkP m l k j) x
theorem Z8h (m:Msn) (l:List Int) (vw vh vr vb va:Value) (w:World) (T:StgAt w.heap.size w m l vw vh vr vb va) (V:VMsn m) (k:Nat) (hk:k+1<m.ways.length) (vs:Value) (q1 q2 q3:Int) (x:Pt) :
  Calls Tryz.prog 54 #[qA (stgC m vw vh vr vb va k),qA #[vs,O qL q1,O qL q2,O qL q3,O qL x.x,O qL x.y]] w fun e w'=>e=.returned (qB (inO m l k q3 x))/\Below w.heap.size w w':=by
 have n41:=V.n41;have fr:=fun (W:World) (B:Below w.heap.size w W)=>Z3k m l vw vh vr vb va W (T.up B) k vs q1 q2 q3 x
 have fo:=fun (W:World) (B:Below w.heap.size w W)=>Z7p m l vw vh vr vb va W (T.up B) k hk n41
 have fh:=fun (W:World) v h=>Z1G v (ownC m l k) x W h
 unfold inO;obtain⟨-,I,S,rfl,-⟩:=T.bef;obtain⟨-,Q,L,rfl,-⟩:=T.aft;obtain⟨⟨-,P,U,rfl,hcw⟩,⟨-,Y,M,rfl,-⟩,⟨-,N,J,rfl,hcr⟩⟩:=T.msn;clear T hcw hcr V;unfold stgC PtsQ at *;obtain⟨G,E⟩:=x;simp only at fr fh ⊢;generalize onR m q3 ⟨G,E⟩=D at *;generalize hasB (ownC m l k) ⟨G,E⟩=Z at *;generalize ownC m l k=oo at *;replace fr:=qH fr;replace fo:=qH fo;replace fh:=qH fh;have c:=qH (qK w.heap.size w);go_enter Tryz.func54,Tryz.ntmps54;go_upto_region 1 with fail
 generalize F:qV (qV w _) _=X0;obtain⟨q0,q1,hA,ac⟩:=box2 F;clear F;have c:=qH hA;clear hA;have R:=qH q0;clear q0;have K:=qH q1;clear q1 ac;cases D
 ·skip
  refine (wpIn_wide (n:=9)).1 ?_;refine Zi (Zk _) 10 (fun X=>Below X0.heap.size X0 X) (by kernel_rfl) (by kernel_rfl) (by kernel_rfl) fun hH inv0=>?_
  have H:=Below.drew (qK X0.heap.size X0);generalize C:X0.drew=X1 at *;clear C;replace c:=zAd c H;have a:=qH H;clear H;refine sk hH 0 (qA #[qS P m.ways.length (m.ways.length+U),qS Y m.home.length (m.home.length+M),O qL m.start,qS N m.rocks.length (m.rocks.length+J),O qL m.speed,O qL m.part,O qL m.flow,O qL m.idle,O qL m.drive,O qL m.battery,O qL m.deadline,qS I (rdBU m l).length ((rdBU m l).length+S),qS Q (rdAU m l).length ((rdAU m l).length+L),O qL (k:Int)]) (Zd rfl) inv0 (fun X hX=>?_) fun u=>?_
  ·have b:=R.out.below hX R.out.lt;obtain⟨s0,s1,s2,s3,s4,s5,s6,s7,s8,s9,s10,s11,s12,s13⟩:=ZN (m:=m) (k:=k) b;go_simp
  simp only [pT];clear inv0;refine sk hH 1 (qA #[vs,O qL q1,O qL q2,O qL q3,O qL G,O qL E]) (Zd rfl) u (fun X hX=>?_) fun t=>?_
  ·have b:=K.out.below hX K.out.lt;have t0:=cX 0 b rfl;have t1:=cX 1 b rfl;have t2:=cX 2 b rfl;have t3:=cX 3 b rfl;have t4:=cX 4 b rfl;have t5:=cX 5 b rfl;go_simp
  simp only [pT];clear u;have z:=HeadInv.put2 t (j:=2) (by kernel_rfl) (by omega)
  clear t;refine sa1 (r:=2) a.out ?_;refine Zo (Zd rfl) rfl (f:=107) (args:=#[qA #[qS P m.ways.length (m.ways.length+U),qS Y m.home.length (m.home.length+M),O qL m.start,qS N m.rocks.length (m.rocks.length+J),O qL m.speed,O qL m.part,O qL m.flow,O qL m.idle,O qL m.drive,O qL m.battery,O qL m.deadline,qS I (rdBU m l).length ((rdBU m l).length+S),qS Q (rdAU m l).length ((rdAU m l).length+L),O qL (k:Int)],qA #[vs,O qL q1,O qL q2,O qL q3,O qL G,O qL E]]) (by go_simp) (fr.out X1 c.out) ?_
  rintro e w1 ⟨rfl,D⟩;refine⟨_,rfl,?_⟩;simp only [pT];replace c:=zAd c D;replace a:=zAd a D;clear D;refine sk hH 3 (qB false) (Zd rfl) z (fun X hX=>?_) fun s=>?_
  ·go_simp
  simp only [pT];clear z;refine Zp hH (i:=4) (Zd rfl) (by omega) s (by kernel_rfl) (by kernel_rfl) rfl fun g=>?_
  simp only [pT];clear s;refine Zp hH (i:=5) (Zd rfl) (by omega) g (by kernel_rfl) (by kernel_rfl) rfl fun q=>?_
  simp only [pT];clear g;refine Zp hH (i:=6) (Zd rfl) (by omega) q (by kernel_rfl) (by kernel_rfl) rfl fun d=>?_
  simp only [pT];clear q;refine Zp hH (i:=7) (Zd rfl) (by omega) d (by kernel_rfl) (by kernel_rfl) rfl fun o=>?_
  simp only [pT];clear d;refine Zp hH (i:=8) (Zd rfl) (by omega) o (by kernel_rfl) (by kernel_rfl) rfl fun p=>?_
  simp only [pT];clear o;refine sk hH 9 (qB false) (Zd rfl) p (fun X hX=>?_) fun A=>?_
  ·go_simp
  simp only [pT];clear p A hH;refine Zj (by kernel_rfl) a.out ?_
  simp only [List.drop_succ_cons,List.drop_zero];gi_wp2;go_wp2;go_ret;exact⟨by simp,c.out⟩
 ·skip
  refine (wpIn_wide (n:=9)).1 ?_;refine Zi (Zk _) 10 (fun X=>Below X0.heap.size X0 X) (by kernel_rfl) (by kernel_rfl) (by kernel_rfl) fun hH inv0=>?_
  have H:=Below.drew (qK X0.heap.size X0);generalize C:X0.drew=X1 at *;clear C;replace c:=zAd c H;have a:=qH H;clear H;refine sk hH 0 (qA #[qS P m.ways.length (m.ways.length+U),qS Y m.home.length (m.home.length+M),O qL m.start,qS N m.rocks.length (m.rocks.length+J),O qL m.speed,O qL m.part,O qL m.flow,O qL m.idle,O qL m.drive,O qL m.battery,O qL m.deadline,qS I (rdBU m l).length ((rdBU m l).length+S),qS Q (rdAU m l).length ((rdAU m l).length+L),O qL (k:Int)]) (Zd rfl) inv0 (fun X hX=>?_) fun u=>?_
  ·have b:=R.out.below hX R.out.lt;obtain⟨s0,s1,s2,s3,s4,s5,s6,s7,s8,s9,s10,s11,s12,s13⟩:=ZN (m:=m) (k:=k) b;go_simp
  simp only [pT];clear inv0;refine sk hH 1 (qA #[vs,O qL q1,O qL q2,O qL q3,O qL G,O qL E]) (Zd rfl) u (fun X hX=>?_) fun t=>?_
  ·have b:=K.out.below hX K.out.lt;have t0:=cX 0 b rfl;have t1:=cX 1 b rfl;have t2:=cX 2 b rfl;have t3:=cX 3 b rfl;have t4:=cX 4 b rfl;have t5:=cX 5 b rfl;go_simp
  simp only [pT];clear u;have z:=HeadInv.put2 t (j:=2) (by kernel_rfl) (by omega)
  clear t;refine sa1 (r:=2) a.out ?_;refine Zo (Zd rfl) rfl (f:=107) (args:=#[qA #[qS P m.ways.length (m.ways.length+U),qS Y m.home.length (m.home.length+M),O qL m.start,qS N m.rocks.length (m.rocks.length+J),O qL m.speed,O qL m.part,O qL m.flow,O qL m.idle,O qL m.drive,O qL m.battery,O qL m.deadline,qS I (rdBU m l).length ((rdBU m l).length+S),qS Q (rdAU m l).length ((rdAU m l).length+L),O qL (k:Int)],qA #[vs,O qL q1,O qL q2,O qL q3,O qL G,O qL E]]) (by go_simp) (fr.out X1 c.out) ?_
  rintro e w1 ⟨rfl,D⟩;refine⟨_,rfl,?_⟩;simp only [pT];replace c:=zAd c D;replace a:=zAd a D;clear D;refine sk hH 3 (qB true) (Zd rfl) z (fun X hX=>?_) fun s=>?_
  ·go_simp
  simp only [pT];clear z;refine sk hH 4 (qA #[qS P m.ways.length (m.ways.length+U),qS Y m.home.length (m.home.length+M),O qL m.start,qS N m.rocks.length (m.rocks.length+J),O qL m.speed,O qL m.part,O qL m.flow,O qL m.idle,O qL m.drive,O qL m.battery,O qL m.deadline,qS I (rdBU m l).length ((rdBU m l).length+S),qS Q (rdAU m l).length ((rdAU m l).length+L),O qL (k:Int)]) (Zd rfl) s (fun X hX=>?_) fun g=>?_
  ·have b:=R.out.below hX R.out.lt;obtain⟨s0,s1,s2,s3,s4,s5,s6,s7,s8,s9,s10,s11,s12,s13⟩:=ZN (m:=m) (k:=k) b;go_simp
  simp only [pT];clear s;refine sk hH 6 (qP (some ⟨w.heap.size+1,4,none⟩)) (Zd rfl) g (fun X hX=>?_) fun q=>?_
  ·go_simp
  simp only [pT];clear g;refine sk hH 7 (qA #[O qL G,O qL E]) (Zd rfl) q (fun X hX=>?_) fun d=>?_
  ·have b:=K.out.below hX K.out.lt;have t0:=cX 0 b rfl;have t1:=cX 1 b rfl;have t2:=cX 2 b rfl;have t3:=cX 3 b rfl;have t4:=cX 4 b rfl;have t5:=cX 5 b rfl;go_simp
  simp only [pT];clear q;have o:=HeadInv.put2 d (j:=5) (by kernel_rfl) (by omega)
  clear d;refine sa1 (r:=5) a.out ?_;refine Zo (Zd rfl) rfl (f:=78) (args:=#[qA #[qS P m.ways.length (m.ways.length+U),qS Y m.home.length (m.home.length+M),O qL m.start,qS N m.rocks.length (m.rocks.length+J),O qL m.speed,O qL m.part,O qL m.flow,O qL m.idle,O qL m.drive,O qL m.battery,O qL m.deadline,qS I (rdBU m l).length ((rdBU m l).length+S),qS Q (rdAU m l).length ((rdAU m l).length+L),O qL (k:Int)]]) (by go_simp) (fo.out w1 c.out) ?_
  rintro e w2 ⟨v1,rfl,p1,Z⟩;refine⟨_,rfl,?_⟩;simp only [pT];replace c:=zAd c Z;replace a:=zAd a Z;clear Z;have P1:=qH p1;obtain⟨g1,d1,hv1⟩:=P1.out.len;subst hv1;clear p1;have p:=HeadInv.put2 o (j:=8) (by kernel_rfl) (by omega)
  clear o;refine sa1 (r:=8) a.out ?_;refine Zo (Zd rfl) rfl (f:=81) (args:=#[qS g1 oo.length (oo.length+d1),qA #[O qL G,O qL E]]) (by go_simp) (fh.out w2 _ P1.out) ?_
  rintro e w3 ⟨rfl,b3⟩;refine⟨_,rfl,?_⟩;simp only [pT];replace c:=zAd c b3;replace a:=zAd a b3;have B_w2:=qH b3;clear b3;refine sk hH 9 (qB Z) (Zd rfl) p (fun X hX=>?_) fun A=>?_
  ·go_simp
  simp only [pT];clear p A hH;refine Zj (by kernel_rfl) a.out ?_
  simp only [List.drop_succ_cons,List.drop_zero];gi_wp2;go_wp2;go_ret;exact⟨by simp,c.out⟩
theorem Z5B (m : Msn) (l : List Int) (vw vh vr vb va : Value) (w : World) (T : StgAt w.heap.size w m l vw vh vr vb va) (V : VMsn m) (k : Nat) (hk : k + 1 < m.ways.length) (vs : Value) (q1 q2 q3 : Int) (x : Pt) :
  Calls Tryz.prog 56 #[qA (stgC m vw vh vr vb va k),qA #[vs,O qL q1,O qL q2,O qL q3,O qL x.x,O qL x.y]] w fun e w'=>e=.returned (qB (ntH m l k q3 x))/\Below w.heap.size w w':=by
 have fd:=fun (W:World) (B:Below w.heap.size w W)=>Z5G m l vw vh vr vb va W (T.up B) V k hk
 have fh:=fun (W:World) v h=>Z1G v (hmP m l k) x W h
 have fk:=fun (W:World) (B:Below w.heap.size w W)=>Z1G vh m.home x W ((T.msn.2.1.below B).mono B.size)
 have fi:=fun (W:World)=>Z6B x W
 unfold ntH;obtain⟨-,ab,cb,rfl,-⟩:=T.bef;obtain⟨-,aa,ca,rfl,-⟩:=T.aft;obtain⟨⟨-,a1,c1,rfl,hcw⟩,⟨-,a2,c2,rfl,-⟩,⟨-,a3,c3,rfl,hcr⟩⟩:=T.msn;clear T hcw hcr V;unfold stgC PtsQ at *;obtain⟨px,py⟩:=x;simp only at fi fk fh ⊢;generalize insB ⟨px,py⟩=b4 at *;generalize hasB m.home ⟨px,py⟩=b3 at *;generalize hasB (hmP m l k) ⟨px,py⟩=b2 at *;generalize hmP m l k=oo at *;replace fd:=qH fd;replace fh:=qH fh;replace fk:=qH fk;replace fi:=qH fi;obtain⟨b1,Z⟩:∃ b,decide (q3=0)=b:=⟨_,rfl⟩;rw [Z];have G:=qH (qK w.heap.size w);go_enter Tryz.func56,Tryz.ntmps56;go_upto_region 1 with fail
 generalize hXX0:qV (qV w _) _=X0;obtain⟨q0,q1,hA,hzX0⟩:=box2 hXX0;clear hXX0;have G:=qH hA;clear hA;have SB:=qH q0;clear q0;have Y:=qH q1;clear q1 hzX0;cases b1
 ·skip
  have d0:¬ q3=0:=of_decide_eq_false Z;have d1:(q3 == 0)=false:=by rw [beq_eq_false_iff_ne];exact d0
  clear Z;refine (wpIn_wide (n:=9)).1 ?_;refine Zi (Zk _) 24 (fun X=>Below X0.heap.size X0 X) (by kernel_rfl) (by kernel_rfl) (by kernel_rfl) fun hH inv0=>?_
  have hD:=Below.drew (qK X0.heap.size X0);generalize U:X0.drew=X1 at *;clear U;replace G:=zAd G hD;have a:=qH hD;clear hD;refine sk hH 0 (qP (some ⟨w.heap.size+1,3,none⟩)) (Zd rfl) inv0 (fun X hX=>?_) fun P=>?_
  ·go_simp
  simp only [pT];clear inv0;refine sk hH 1 (O qL q3) (Zd rfl) P (fun X hX=>?_) fun N=>?_
  ·have c:=Y.out.below hX Y.out.lt;have t0:=cX 0 c rfl;have t1:=cX 1 c rfl;have t2:=cX 2 c rfl;have t3:=cX 3 c rfl;have t4:=cX 4 c rfl;have t5:=cX 5 c rfl;go_simp
  simp only [pT];clear P;refine sk hH 2 (qB false) (Zd rfl) N (fun X hX=>?_) fun Q=>?_
  ·go_simp
  simp only [pT];clear N;refine sk hH 3 (qB false) (Zd rfl) Q (fun X hX=>?_) fun M=>?_
  ·go_simp
  simp only [pT];clear Q;refine Zp hH (i:=4) (Zd rfl) (by omega) M (by kernel_rfl) (by kernel_rfl) rfl fun I=>?_
  simp only [pT];clear M;refine Zp hH (i:=5) (Zd rfl) (by omega) I (by kernel_rfl) (by kernel_rfl) rfl fun L=>?_
  simp only [pT];clear I;refine Zp hH (i:=6) (Zd rfl) (by omega) L (by kernel_rfl) (by kernel_rfl) rfl fun H=>?_
  simp only [pT];clear L;refine Zp hH (i:=7) (Zd rfl) (by omega) H (by kernel_rfl) (by kernel_rfl) rfl fun J=>?_
  simp only [pT];clear H;refine Zp hH (i:=8) (Zd rfl) (by omega) J (by kernel_rfl) (by kernel_rfl) rfl fun K=>?_
  simp only [pT];clear J;refine sk hH 9 (qB false) (Zd rfl) K (fun X hX=>?_) fun D=>?_
  ·go_simp
  simp only [pT];clear K;refine sk hH 10 (qB false) (Zd rfl) D (fun X hX=>?_) fun F=>?_
  ·go_simp
  simp only [pT];clear D;refine Zp hH (i:=11) (Zd rfl) (by omega) F (by kernel_rfl) (by kernel_rfl) rfl fun g=>?_
  simp only [pT];clear F;refine Zp hH (i:=12) (Zd rfl) (by omega) g (by kernel_rfl) (by kernel_rfl) rfl fun E=>?_
  simp only [pT];clear g;refine Zp hH (i:=13) (Zd rfl) (by omega) E (by kernel_rfl) (by kernel_rfl) rfl fun p=>?_
  simp only [pT];clear E;refine Zp hH (i:=14) (Zd rfl) (by omega) p (by kernel_rfl) (by kernel_rfl) rfl fun q=>?_
  simp only [pT];clear p;refine Zp hH (i:=15) (Zd rfl) (by omega) q (by kernel_rfl) (by kernel_rfl) rfl fun u=>?_
  simp only [pT];clear q;refine Zp hH (i:=16) (Zd rfl) (by omega) u (by kernel_rfl) (by kernel_rfl) rfl fun C=>?_
  simp only [pT];clear u;refine Zp hH (i:=17) (Zd rfl) (by omega) C (by kernel_rfl) (by kernel_rfl) rfl fun t=>?_
  simp only [pT];clear C;refine sk hH 18 (qB false) (Zd rfl) t (fun X hX=>?_) fun z=>?_
  ·go_simp
  simp only [pT];clear t;refine sk hH 19 (qB false) (Zd rfl) z (fun X hX=>?_) fun A=>?_
  ·go_simp
  simp only [pT];clear z;refine Zp hH (i:=20) (Zd rfl) (by omega) A (by kernel_rfl) (by kernel_rfl) rfl fun d=>?_
  simp only [pT];clear A;refine Zp hH (i:=21) (Zd rfl) (by omega) d (by kernel_rfl) (by kernel_rfl) rfl fun s=>?_
  simp only [pT];clear d;refine Zp hH (i:=22) (Zd rfl) (by omega) s (by kernel_rfl) (by kernel_rfl) rfl fun o=>?_
  simp only [pT];clear s;refine sk hH 23 (qB false) (Zd rfl) o (fun X hX=>?_) fun R=>?_
  ·go_simp
  simp only [pT];clear o R hH;refine Zj (by kernel_rfl) a.out ?_
  simp only [List.drop_succ_cons,List.drop_zero];gi_wp2;go_wp2;go_ret;exact⟨by simp,G.out⟩
 ·skip
  cases b2
  ·skip
   have d0:q3=0:=of_decide_eq_true Z;have d1:(q3 == 0)=true:=by rw [d0];rfl
   clear Z;refine (wpIn_wide (n:=9)).1 ?_;refine Zi (Zk _) 24 (fun X=>Below X0.heap.size X0 X) (by kernel_rfl) (by kernel_rfl) (by kernel_rfl) fun hH inv0=>?_
   have hD:=Below.drew (qK X0.heap.size X0);generalize U:X0.drew=X1 at *;clear U;replace G:=zAd G hD;have a:=qH hD;clear hD;refine sk hH 0 (qP (some ⟨w.heap.size+1,3,none⟩)) (Zd rfl) inv0 (fun X hX=>?_) fun P=>?_
   ·go_simp
   simp only [pT];clear inv0;refine sk hH 1 (O qL q3) (Zd rfl) P (fun X hX=>?_) fun N=>?_
   ·have c:=Y.out.below hX Y.out.lt;have t0:=cX 0 c rfl;have t1:=cX 1 c rfl;have t2:=cX 2 c rfl;have t3:=cX 3 c rfl;have t4:=cX 4 c rfl;have t5:=cX 5 c rfl;go_simp
   simp only [pT];clear P;refine sk hH 2 (qB true) (Zd rfl) N (fun X hX=>?_) fun Q=>?_
   ·go_simp
   simp only [pT];clear N;refine sk hH 3 (qB true) (Zd rfl) Q (fun X hX=>?_) fun M=>?_
   ·go_simp
   simp only [pT];clear Q;refine sk hH 4 (qA #[qS a1 m.ways.length (m.ways.length+c1),qS a2 m.home.length (m.home.length+c2),O qL m.start,qS a3 m.rocks.length (m.rocks.length+c3),O qL m.speed,O qL m.part,O qL m.flow,O qL m.idle,O qL m.drive,O qL m.battery,O qL m.deadline,qS ab (rdBU m l).length ((rdBU m l).length+cb),qS aa (rdAU m l).length ((rdAU m l).length+ca),O qL (k:Int)]) (Zd rfl) M (fun X hX=>?_) fun I=>?_
   ·have c:=SB.out.below hX SB.out.lt;obtain⟨s0,s1,s2,s3,s4,s5,s6,s7,s8,s9,s10,s11,s12,s13⟩:=ZN (m:=m) (k:=k) c;go_simp
   simp only [pT];clear M;refine sk hH 6 (qP (some ⟨w.heap.size+1,4,none⟩)) (Zd rfl) I (fun X hX=>?_) fun L=>?_
   ·go_simp
   simp only [pT];clear I;refine sk hH 7 (qA #[O qL px,O qL py]) (Zd rfl) L (fun X hX=>?_) fun H=>?_
   ·have c:=Y.out.below hX Y.out.lt;have t0:=cX 0 c rfl;have t1:=cX 1 c rfl;have t2:=cX 2 c rfl;have t3:=cX 3 c rfl;have t4:=cX 4 c rfl;have t5:=cX 5 c rfl;go_simp
   simp only [pT];clear L;have J:=HeadInv.put2 H (j:=5) (by kernel_rfl) (by omega)
   clear H;refine sa1 (r:=5) a.out ?_;refine Zo (Zd rfl) rfl (f:=80) (args:=#[qA #[qS a1 m.ways.length (m.ways.length+c1),qS a2 m.home.length (m.home.length+c2),O qL m.start,qS a3 m.rocks.length (m.rocks.length+c3),O qL m.speed,O qL m.part,O qL m.flow,O qL m.idle,O qL m.drive,O qL m.battery,O qL m.deadline,qS ab (rdBU m l).length ((rdBU m l).length+cb),qS aa (rdAU m l).length ((rdAU m l).length+ca),O qL (k:Int)]]) (by go_simp) (fd.out X1 G.out) ?_
   rintro e w1 ⟨v1,rfl,p1,b1⟩;refine⟨_,rfl,?_⟩;simp only [pT];replace G:=zAd G b1;replace a:=zAd a b1;clear b1;have P1:=qH p1;obtain⟨g1,d1,hv1⟩:=P1.out.len;subst hv1;clear p1;have K:=HeadInv.put2 J (j:=8) (by kernel_rfl) (by omega)
   clear J;refine sa1 (r:=8) a.out ?_;refine Zo (Zd rfl) rfl (f:=81) (args:=#[qS g1 oo.length (oo.length+d1),qA #[O qL px,O qL py]]) (by go_simp) (fh.out w1 _ P1.out) ?_
   rintro e w2 ⟨rfl,b2⟩;refine⟨_,rfl,?_⟩;simp only [pT];replace G:=zAd G b2;replace a:=zAd a b2;have S:=qH b2;clear b2;refine sk hH 9 (qB false) (Zd rfl) K (fun X hX=>?_) fun D=>?_
   ·go_simp
   simp only [pT];clear K;refine sk hH 10 (qB false) (Zd rfl) D (fun X hX=>?_) fun F=>?_
   ·go_simp
   simp only [pT];clear D;refine Zp hH (i:=11) (Zd rfl) (by omega) F (by kernel_rfl) (by kernel_rfl) rfl fun g=>?_
   simp only [pT];clear F;refine Zp hH (i:=12) (Zd rfl) (by omega) g (by kernel_rfl) (by kernel_rfl) rfl fun E=>?_
   simp only [pT];clear g;refine Zp hH (i:=13) (Zd rfl) (by omega) E (by kernel_rfl) (by kernel_rfl) rfl fun p=>?_
   simp only [pT];clear E;refine Zp hH (i:=14) (Zd rfl) (by omega) p (by kernel_rfl) (by kernel_rfl) rfl fun q=>?_
   simp only [pT];clear p;refine Zp hH (i:=15) (Zd rfl) (by omega) q (by kernel_rfl) (by kernel_rfl) rfl fun u=>?_
   simp only [pT];clear q;refine Zp hH (i:=16) (Zd rfl) (by omega) u (by kernel_rfl) (by kernel_rfl) rfl fun C=>?_
   simp only [pT];clear u;refine Zp hH (i:=17) (Zd rfl) (by omega) C (by kernel_rfl) (by kernel_rfl) rfl fun t=>?_
   simp only [pT];clear C;refine sk hH 18 (qB false) (Zd rfl) t (fun X hX=>?_) fun z=>?_
   ·go_simp
   simp only [pT];clear t;refine sk hH 19 (qB false) (Zd rfl) z (fun X hX=>?_) fun A=>?_
   ·go_simp
   simp only [pT];clear z;refine Zp hH (i:=20) (Zd rfl) (by omega) A (by kernel_rfl) (by kernel_rfl) rfl fun d=>?_
   simp only [pT];clear A;refine Zp hH (i:=21) (Zd rfl) (by omega) d (by kernel_rfl) (by kernel_rfl) rfl fun s=>?_
   simp only [pT];clear d;refine Zp hH (i:=22) (Zd rfl) (by omega) s (by kernel_rfl) (by kernel_rfl) rfl fun o=>?_
   simp only [pT];clear s;refine sk hH 23 (qB false) (Zd rfl) o (fun X hX=>?_) fun R=>?_
   ·go_simp
   simp only [pT];clear o R hH;refine Zj (by kernel_rfl) a.out ?_
   simp only [List.drop_succ_cons,List.drop_zero];gi_wp2;go_wp2;go_ret;exact⟨by simp,G.out⟩
  ·skip
   cases b3
   ·skip
    have d0:q3=0:=of_decide_eq_true Z;have d1:(q3 == 0)=true:=by rw [d0];rfl
    clear Z;refine (wpIn_wide (n:=9)).1 ?_;refine Zi (Zk _) 24 (fun X=>Below X0.heap.size X0 X) (by kernel_rfl) (by kernel_rfl) (by kernel_rfl) fun hH inv0=>?_
    have hD:=Below.drew (qK X0.heap.size X0);generalize U:X0.drew=X1 at *;clear U;replace G:=zAd G hD;have a:=qH hD;clear hD;refine sk hH 0 (qP (some ⟨w.heap.size+1,3,none⟩)) (Zd rfl) inv0 (fun X hX=>?_) fun P=>?_
    ·go_simp
    simp only [pT];clear inv0;refine sk hH 1 (O qL q3) (Zd rfl) P (fun X hX=>?_) fun N=>?_
    ·have c:=Y.out.below hX Y.out.lt;have t0:=cX 0 c rfl;have t1:=cX 1 c rfl;have t2:=cX 2 c rfl;have t3:=cX 3 c rfl;have t4:=cX 4 c rfl;have t5:=cX 5 c rfl;go_simp
    simp only [pT];clear P;refine sk hH 2 (qB true) (Zd rfl) N (fun X hX=>?_) fun Q=>?_
    ·go_simp
    simp only [pT];clear N;refine sk hH 3 (qB true) (Zd rfl) Q (fun X hX=>?_) fun M=>?_
    ·go_simp
    simp only [pT];clear Q;refine sk hH 4 (qA #[qS a1 m.ways.length (m.ways.length+c1),qS a2 m.home.length (m.home.length+c2),O qL m.start,qS a3 m.rocks.length (m.rocks.length+c3),O qL m.speed,O qL m.part,O qL m.flow,O qL m.idle,O qL m.drive,O qL m.battery,O qL m.deadline,qS ab (rdBU m l).length ((rdBU m l).length+cb),qS aa (rdAU m l).length ((rdAU m l).length+ca),O qL (k:Int)]) (Zd rfl) M (fun X hX=>?_) fun I=>?_
    ·have c:=SB.out.below hX SB.out.lt;obtain⟨s0,s1,s2,s3,s4,s5,s6,s7,s8,s9,s10,s11,s12,s13⟩:=ZN (m:=m) (k:=k) c;go_simp
    simp only [pT];clear M;refine sk hH 6 (qP (some ⟨w.heap.size+1,4,none⟩)) (Zd rfl) I (fun X hX=>?_) fun L=>?_
    ·go_simp
    simp only [pT];clear I;refine sk hH 7 (qA #[O qL px,O qL py]) (Zd rfl) L (fun X hX=>?_) fun H=>?_
    ·have c:=Y.out.below hX Y.out.lt;have t0:=cX 0 c rfl;have t1:=cX 1 c rfl;have t2:=cX 2 c rfl;have t3:=cX 3 c rfl;have t4:=cX 4 c rfl;have t5:=cX 5 c rfl;go_simp
    simp only [pT];clear L;have J:=HeadInv.put2 H (j:=5) (by kernel_rfl) (by omega)
    clear H;refine sa1 (r:=5) a.out ?_;refine Zo (Zd rfl) rfl (f:=80) (args:=#[qA #[qS a1 m.ways.length (m.ways.length+c1),qS a2 m.home.length (m.home.length+c2),O qL m.start,qS a3 m.rocks.length (m.rocks.length+c3),O qL m.speed,O qL m.part,O qL m.flow,O qL m.idle,O qL m.drive,O qL m.battery,O qL m.deadline,qS ab (rdBU m l).length ((rdBU m l).length+cb),qS aa (rdAU m l).length ((rdAU m l).length+ca),O qL (k:Int)]]) (by go_simp) (fd.out X1 G.out) ?_
    rintro e w1 ⟨v1,rfl,p1,b1⟩;refine⟨_,rfl,?_⟩;simp only [pT];replace G:=zAd G b1;replace a:=zAd a b1;clear b1;have P1:=qH p1;obtain⟨g1,d1,hv1⟩:=P1.out.len;subst hv1;clear p1;have K:=HeadInv.put2 J (j:=8) (by kernel_rfl) (by omega)
    clear J;refine sa1 (r:=8) a.out ?_;refine Zo (Zd rfl) rfl (f:=81) (args:=#[qS g1 oo.length (oo.length+d1),qA #[O qL px,O qL py]]) (by go_simp) (fh.out w1 _ P1.out) ?_
    rintro e w2 ⟨rfl,b2⟩;refine⟨_,rfl,?_⟩;simp only [pT];replace G:=zAd G b2;replace a:=zAd a b2;have S:=qH b2;clear b2;refine sk hH 9 (qB true) (Zd rfl) K (fun X hX=>?_) fun D=>?_
    ·go_simp
    simp only [pT];clear K;refine sk hH 10 (qB true) (Zd rfl) D (fun X hX=>?_) fun F=>?_
    ·go_simp
    simp only [pT];clear D;refine sk hH 11 (qP (some ⟨w.heap.size,0,none⟩)) (Zd rfl) F (fun X hX=>?_) fun g=>?_
    ·go_simp
    simp only [pT];clear F;refine sk hH 12 (qP (some ⟨w.heap.size,1,none⟩)) (Zd rfl) g (fun X hX=>?_) fun E=>?_
    ·go_simp
    simp only [pT];clear g;refine sk hH 13 (qS a2 m.home.length (m.home.length+c2)) (Zd rfl) E (fun X hX=>?_) fun p=>?_
    ·have c:=SB.out.below hX SB.out.lt;obtain⟨s0,s1,s2,s3,s4,s5,s6,s7,s8,s9,s10,s11,s12,s13⟩:=ZN (m:=m) (k:=k) c;go_simp
    simp only [pT];clear E;refine sk hH 14 (qP (some ⟨w.heap.size+1,4,none⟩)) (Zd rfl) p (fun X hX=>?_) fun q=>?_
    ·go_simp
    simp only [pT];clear p;refine sk hH 15 (qA #[O qL px,O qL py]) (Zd rfl) q (fun X hX=>?_) fun u=>?_
    ·have c:=Y.out.below hX Y.out.lt;have t0:=cX 0 c rfl;have t1:=cX 1 c rfl;have t2:=cX 2 c rfl;have t3:=cX 3 c rfl;have t4:=cX 4 c rfl;have t5:=cX 5 c rfl;go_simp
    simp only [pT];clear q;have C:=HeadInv.put2 u (j:=16) (by kernel_rfl) (by omega)
    clear u;refine sa1 (r:=16) a.out ?_;refine Zo (Zd rfl) rfl (f:=81) (args:=#[qS a2 m.home.length (m.home.length+c2),qA #[O qL px,O qL py]]) (by go_simp) (fk.out w2 G.out) ?_
    rintro e w3 ⟨rfl,b3⟩;refine⟨_,rfl,?_⟩;simp only [pT];replace G:=zAd G b3;replace a:=zAd a b3;replace S:=zAd S b3;clear b3;refine sk hH 17 (qB true) (Zd rfl) C (fun X hX=>?_) fun t=>?_
    ·go_simp
    simp only [pT];clear C;refine sk hH 18 (qB true) (Zd rfl) t (fun X hX=>?_) fun z=>?_
    ·go_simp
    simp only [pT];clear t;refine sk hH 19 (qB true) (Zd rfl) z (fun X hX=>?_) fun A=>?_
    ·go_simp
    simp only [pT];clear z;refine sk hH 20 (qP (some ⟨w.heap.size+1,4,none⟩)) (Zd rfl) A (fun X hX=>?_) fun d=>?_
    ·go_simp
    simp only [pT];clear A;refine sk hH 21 (qA #[O qL px,O qL py]) (Zd rfl) d (fun X hX=>?_) fun s=>?_
    ·have c:=Y.out.below hX Y.out.lt;have t0:=cX 0 c rfl;have t1:=cX 1 c rfl;have t2:=cX 2 c rfl;have t3:=cX 3 c rfl;have t4:=cX 4 c rfl;have t5:=cX 5 c rfl;go_simp
    simp only [pT];clear d;have o:=HeadInv.put2 s (j:=22) (by kernel_rfl) (by omega)
    clear s;refine sa1 (r:=22) a.out ?_;refine Zo (Zd rfl) rfl (f:=108) (args:=#[qA #[O qL px,O qL py]]) (by go_simp) (fi.out w3) ?_
    rintro e w4 ⟨rfl,b4⟩;refine⟨_,rfl,?_⟩;simp only [pT];replace G:=zAd G b4;replace a:=zAd a b4;replace S:=zAd S b4;clear b4;refine sk hH 23 (qB b4) (Zd rfl) o (fun X hX=>?_) fun R=>?_
    ·go_simp
    simp only [pT];clear o R hH;refine Zj (by kernel_rfl) a.out ?_
    simp only [List.drop_succ_cons,List.drop_zero];gi_wp2;go_wp2;go_ret;exact⟨by simp,G.out⟩
   ·skip
    have d0:q3=0:=of_decide_eq_true Z;have d1:(q3 == 0)=true:=by rw [d0];rfl
    clear Z;refine (wpIn_wide (n:=9)).1 ?_;refine Zi (Zk _) 24 (fun X=>Below X0.heap.size X0 X) (by kernel_rfl) (by kernel_rfl) (by kernel_rfl) fun hH inv0=>?_
    have hD:=Below.drew (qK X0.heap.size X0);generalize U:X0.drew=X1 at *;clear U;replace G:=zAd G hD;have a:=qH hD;clear hD;refine sk hH 0 (qP (some ⟨w.heap.size+1,3,none⟩)) (Zd rfl) inv0 (fun X hX=>?_) fun P=>?_
    ·go_simp
    simp only [pT];clear inv0;refine sk hH 1 (O qL q3) (Zd rfl) P (fun X hX=>?_) fun N=>?_
    ·have c:=Y.out.below hX Y.out.lt;have t0:=cX 0 c rfl;have t1:=cX 1 c rfl;have t2:=cX 2 c rfl;have t3:=cX 3 c rfl;have t4:=cX 4 c rfl;have t5:=cX 5 c rfl;go_simp
    simp only [pT];clear P;refine sk hH 2 (qB true) (Zd rfl) N (fun X hX=>?_) fun Q=>?_
    ·go_simp
    simp only [pT];clear N;refine sk hH 3 (qB true) (Zd rfl) Q (fun X hX=>?_) fun M=>?_
    ·go_simp
    simp only [pT];clear Q;refine sk hH 4 (qA #[qS a1 m.ways.length (m.ways.length+c1),qS a2 m.home.length (m.home.length+c2),O qL m.start,qS a3 m.rocks.length (m.rocks.length+c3),O qL m.speed,O qL m.part,O qL m.flow,O qL m.idle,O qL m.drive,O qL m.battery,O qL m.deadline,qS ab (rdBU m l).length ((rdBU m l).length+cb),qS aa (rdAU m l).length ((rdAU m l).length+ca),O qL (k:Int)]) (Zd rfl) M (fun X hX=>?_) fun I=>?_
    ·have c:=SB.out.below hX SB.out.lt;obtain⟨s0,s1,s2,s3,s4,s5,s6,s7,s8,s9,s10,s11,s12,s13⟩:=ZN (m:=m) (k:=k) c;go_simp
    simp only [pT];clear M;refine sk hH 6 (qP (some ⟨w.heap.size+1,4,none⟩)) (Zd rfl) I (fun X hX=>?_) fun L=>?_
    ·go_simp
    simp only [pT];clear I;refine sk hH 7 (qA #[O qL px,O qL py]) (Zd rfl) L (fun X hX=>?_) fun H=>?_
    ·have c:=Y.out.below hX Y.out.lt;have t0:=cX 0 c rfl;have t1:=cX 1 c rfl;have t2:=cX 2 c rfl;have t3:=cX 3 c rfl;have t4:=cX 4 c rfl;have t5:=cX 5 c rfl;go_simp
    simp only [pT];clear L;have J:=HeadInv.put2 H (j:=5) (by kernel_rfl) (by omega)
    clear H;refine sa1 (r:=5) a.out ?_;refine Zo (Zd rfl) rfl (f:=80) (args:=#[qA #[qS a1 m.ways.length (m.ways.length+c1),qS a2 m.home.length (m.home.length+c2),O qL m.start,qS a3 m.rocks.length (m.rocks.length+c3),O qL m.speed,O qL m.part,O qL m.flow,O qL m.idle,O qL m.drive,O qL m.battery,O qL m.deadline,qS ab (rdBU m l).length ((rdBU m l).length+cb),qS aa (rdAU m l).length ((rdAU m l).length+ca),O qL (k:Int)]]) (by go_simp) (fd.out X1 G.out) ?_
    rintro e w1 ⟨v1,rfl,p1,b1⟩;refine⟨_,rfl,?_⟩;simp only [pT];replace G:=zAd G b1;replace a:=zAd a b1;clear b1;have P1:=qH p1;obtain⟨g1,d1,hv1⟩:=P1.out.len;subst hv1;clear p1;have K:=HeadInv.put2 J (j:=8) (by kernel_rfl) (by omega)
    clear J;refine sa1 (r:=8) a.out ?_;refine Zo (Zd rfl) rfl (f:=81) (args:=#[qS g1 oo.length (oo.length+d1),qA #[O qL px,O qL py]]) (by go_simp) (fh.out w1 _ P1.out) ?_
    rintro e w2 ⟨rfl,b2⟩;refine⟨_,rfl,?_⟩;simp only [pT];replace G:=zAd G b2;replace a:=zAd a b2;have S:=qH b2;clear b2;refine sk hH 9 (qB true) (Zd rfl) K (fun X hX=>?_) fun D=>?_
    ·go_simp
    simp only [pT];clear K;refine sk hH 10 (qB true) (Zd rfl) D (fun X hX=>?_) fun F=>?_
    ·go_simp
    simp only [pT];clear D;refine sk hH 11 (qP (some ⟨w.heap.size,0,none⟩)) (Zd rfl) F (fun X hX=>?_) fun g=>?_
    ·go_simp
    simp only [pT];clear F;refine sk hH 12 (qP (some ⟨w.heap.size,1,none⟩)) (Zd rfl) g (fun X hX=>?_) fun E=>?_
    ·go_simp
    simp only [pT];clear g;refine sk hH 13 (qS a2 m.home.length (m.home.length+c2)) (Zd rfl) E (fun X hX=>?_) fun p=>?_
    ·have c:=SB.out.below hX SB.out.lt;obtain⟨s0,s1,s2,s3,s4,s5,s6,s7,s8,s9,s10,s11,s12,s13⟩:=ZN (m:=m) (k:=k) c;go_simp
    simp only [pT];clear E;refine sk hH 14 (qP (some ⟨w.heap.size+1,4,none⟩)) (Zd rfl) p (fun X hX=>?_) fun q=>?_
    ·go_simp
    simp only [pT];clear p;refine sk hH 15 (qA #[O qL px,O qL py]) (Zd rfl) q (fun X hX=>?_) fun u=>?_
    ·have c:=Y.out.below hX Y.out.lt;have t0:=cX 0 c rfl;have t1:=cX 1 c rfl;have t2:=cX 2 c rfl;have t3:=cX 3 c rfl;have t4:=cX 4 c rfl;have t5:=cX 5 c rfl;go_simp
    simp only [pT];clear q;have C:=HeadInv.put2 u (j:=16) (by kernel_rfl) (by omega)
    clear u;refine sa1 (r:=16) a.out ?_;refine Zo (Zd rfl) rfl (f:=81) (args:=#[qS a2 m.home.length (m.home.length+c2),qA #[O qL px,O qL py]]) (by go_simp) (fk.out w2 G.out) ?_
    rintro e w3 ⟨rfl,b3⟩;refine⟨_,rfl,?_⟩;simp only [pT];replace G:=zAd G b3;replace a:=zAd a b3;replace S:=zAd S b3;clear b3;refine sk hH 17 (qB false) (Zd rfl) C (fun X hX=>?_) fun t=>?_
    ·go_simp
    simp only [pT];clear C;refine sk hH 18 (qB false) (Zd rfl) t (fun X hX=>?_) fun z=>?_
    ·go_simp
    simp only [pT];clear t;refine sk hH 19 (qB false) (Zd rfl) z (fun X hX=>?_) fun A=>?_
    ·go_simp
    simp only [pT];clear z;refine Zp hH (i:=20) (Zd rfl) (by omega) A (by kernel_rfl) (by kernel_rfl) rfl fun d=>?_
    simp only [pT];clear A;refine Zp hH (i:=21) (Zd rfl) (by omega) d (by kernel_rfl) (by kernel_rfl) rfl fun s=>?_
    simp only [pT];clear d;refine Zp hH (i:=22) (Zd rfl) (by omega) s (by kernel_rfl) (by kernel_rfl) rfl fun o=>?_
    simp only [pT];clear s;refine sk hH 23 (qB false) (Zd rfl) o (fun X hX=>?_) fun R=>?_
    ·go_simp
    simp only [pT];clear o R hH;refine Zj (by kernel_rfl) a.out ?_
    simp only [List.drop_succ_cons,List.drop_zero];gi_wp2;go_wp2;go_ret;exact⟨by simp,G.out⟩
attribute [local go_sem] Oper.semAt_some
theorem Z87 {m:Msn} {l:List Int} {k:Nat} {x:Pt} {j:Nat} (hj:j<dep m (k+1)) (h:hasB (bkP m l k j) x=true):bkAny m l k x=true:=List.any_eq_true.2 ⟨j,List.mem_range.2 hj,h⟩
theorem Zcg {m:Msn} {l:List Int} {k:Nat} {x:Pt} (h:∀ j,j<dep m (k+1)->hasB (bkP m l k j) x=false):bkAny m l k x=false:=by
 unfold bkAny;rw [List.any_eq_false];intro j hj;rw [h j (List.mem_range.1 hj)];simp
theorem Z6C (m:Msn) (l:List Int) (vw vh vr vb va:Value) (w:World) (T:StgAt w.heap.size w m l vw vh vr vb va) (V:VMsn m) (k:Nat) (hk:k+1<m.ways.length) (vs:Value) (q1 q2 q3:Int) (x:Pt) :
  Calls Tryz.prog 55 #[qA (stgC m vw vh vr vb va k),qA #[vs,O qL q1,O qL q2,O qL q3,O qL x.x,O qL x.y]] w fun e w'=>e=.returned (qB (bkAny m l k x && onR m q3 x))/\Below w.heap.size w w':=by
 have fs:=fun (E:World) (Bs:Nat) (q:Nat->Prop) (B:Below w.heap.size w E) (HB:Has E Bs (stgC m vw vh vr vb va k) 81) (hq:∀ b,q b->b<E.heap.size/\b≠Bs)=>Z5u m l vw vh vr vb va k w.heap.size q Bs E (T.low B) V hk B.size HB hq
 have fr:=fun (W:World) (B:Below w.heap.size w W)=>Z3k m l vw vh vr vb va W (T.up B) k vs q1 q2 q3 x
 have fh:=fun (W:World) v j h=>Z1G v (bkP m l k j) x W h
 have K:∀ v j,bkX m l k (v,j)=#[v,O qL (bkR m (k+1) (rdB m l (k+1)) (j+1))]:=fun _ _=>rfl
 have I:∀ j,j<dep m (k+1)->hasB (bkP m l k j) x=true->bkAny m l k x=true:=fun j h1 h2=>Z87 h1 h2
 have F:(∀ j,j<dep m (k+1)->hasB (bkP m l k j) x=false)->bkAny m l k x=false:=Zcg;obtain⟨-,ab,cb,rfl,-⟩:=T.bef;obtain⟨-,aa,ca,rfl,-⟩:=T.aft;obtain⟨⟨-,a1,c1,rfl,hcw⟩,⟨-,a2,c2,rfl,-⟩,⟨-,a3,c3,rfl,hcr⟩⟩:=T.msn;clear T hcw hcr V;unfold stgC at *;obtain⟨px,py⟩:=x;simp only at fr fh ⊢;obtain⟨f,hf⟩:∃ f:Nat->Bool,(fun j=>hasB (bkP m l k j) ⟨px,py⟩)=f:=⟨_,rfl⟩
 have Y:∀ j,hasB (bkP m l k j) ⟨px,py⟩=f j:=fun j=>by rw [<- hf]
 simp only [Y] at I F fh;clear hf Y;generalize bkAny m l k ⟨px,py⟩=ba at *;generalize onR m q3 ⟨px,py⟩=br at *;replace fr:=qH fr;replace fh:=qH fh;replace fs:=qH fs;replace K:=qH K;replace I:=qH I;replace F:=qH F;have BW:=qH (qK w.heap.size w);refine (callsIn_wide (n:=9)).1 ?_;refine callsIn_of_wp_marks Tryz.func55 rfl trivial ?_ rfl;simp only [Tryz.ntmps55,List.size_toArray,List.length_cons,List.length_nil,Nat.reduceAdd,Nat.reduceSub,Array.replicate_succ,Array.replicate_zero,List.push_toArray,List.append_toArray,List.nil_append,List.cons_append];refine wpIn_wide.2 ?_;go_upto_region 1 with fail
 generalize H:qV (qV (qV w _) _) _=X0;obtain⟨q0,q1,q2,hA,J⟩:=box3 H;clear H;have BW:=qH hA;clear hA;have SB:=qH q0;clear q0;have XB:=qH q1;clear q1;have RB:=qH q2;clear q2;have U:=SB.out;obtain⟨A,s1,s2,s3,s4,s5,s6,s7,s8,s9,M,N,P,Q⟩:=ZN (m:=m) (k:=k) U;clear U;have HZ0:=qH J;clear J;go_wp2_with fail;refine (Z3o m _ _ _ _ _ k X0).mono ?_;rintro e E ⟨rfl,Z⟩;obtain⟨BB,t,hz0⟩:=box1 Z.symm;clear Z A s1 s2 s3 s4 s5 s6 s7 s8 s9 M N P Q;have zz0:w.heap.size+3=X0.heap.size:=HZ0.out.symm;have zz2:X0.heap.size<E.heap.size:=by omega
 have zz3:w.heap.size+3<=X0.heap.size:=by omega
 clear hz0;have g:=zAd BW t;have SB0:=qH (SB.out.below t (by omega))
 have XB0:=qH (XB.out.below t (by omega))
 have RB0:=qH (RB.out.below t (by omega))
 clear zz0;have r:=fs.out E X0.heap.size (fun _=>False) g.out BB (fun b hb=>hb.elim)
 clear t BB;go_wp2;refine (wpIn_wide (n:=9)).1 ?_;refine Z1Q (by omega) (gf:=141) (lb:=#[qP (some ⟨X0.heap.size,0,none⟩)]) rfl (enters_of Tryz.func141 (by kernel_rfl) rfl) r bkH.put (fun h k=>bkK.trans h k) (fun W o o' h1 h2=>bkK.put W o o' (by omega) h1 h2) (qK _ _) (fun _=>rfl)
  (fun u W=>(∀ y:Value × Nat,y ∈ u->f y.2=false)/\Below E.heap.size E W)
  (fun c s W=>(c=.ret/\∃ (A:List (Value × Nat)) (x:Value × Nat),s=A++[x]/\(∀ y:Value × Nat,y ∈ A->f y.2=false)/\f x.2=true)/\Has W (w.heap.size+1+1) #[qB br] 4/\Below w.heap.size w W)
  (OwnD.and (OwnD.pure (fun u=>∀ y:Value × Nat,y ∈ u->f y.2=false)) (OwnD.below E (qN _) (qN _) (fun _ _ h=>h.elim))) (fun c=>OwnD.and (OwnD.pure (fun s=>c=.ret/\∃ (A:List (Value × Nat)) (x:Value × Nat),s=A++[x]/\(∀ y:Value × Nat,y ∈ A->f y.2=false)/\f x.2=true)) (OwnD.and (OwnD.has (w.heap.size+1+1) (fun _ h=>h) (fun _=>#[qB br]) 4) (OwnD.below w (qN _) (by omega) (fun _ _ h=>h.elim)))) ⟨(fun y I=>by cases I),qK _ _⟩ ?round ?done ?stop
 case round =>
  rintro ll rm u ⟨v,j⟩ W hll hI0 hx hsz;obtain⟨a9,c9,hv9⟩:=hx.1.len;simp only at hv9;subst hv9;rw [K.out];clear r;gi_wp2;refine⟨trivial,?_⟩;rintro V9 ⟨r9,hr9'⟩ ⟨p,a⟩ X hz9;have HP:=qH X.1;have C:=qH (And.intro p a);have hz8:=a.size;have BV:=zAd g a;have d:=XB0.out.below a (by omega)
  have o4:=cX 4 d rfl;have o5:=cX 5 d rfl;clear hI0 hx p a X hr9' d;have HL:=qH hll;clear hll;have R:=qH (fh.out V9 _ j HP.out);cases hfj:f j
  ·rw [hfj] at R
   have HJ:=qH hfj;clear hfj
   gi_wp2_with fail
   refine⟨trivial,(fun h=>by cases h),(CallsIn.inRound ll (callsIn_wide.2 R.out)).mono ?_⟩
   rintro e W4 ⟨rfl,b4⟩;have L:=qH b4;clear b4 o4 o5 R;gi_wp2;refine⟨Z3J L.out,bkK.low L.out (by omega),?_,C.out.2.trans (L.out.mono C.out.2.size)⟩
   intro y I;rcases List.mem_append.1 I with h | h
   ·exact C.out.1 y h
   ·rw [List.mem_singleton.1 h];exact HJ.out
  ·rw [hfj] at R
   have HJ:=qH hfj;clear hfj
   gi_wp2_with fail
   refine⟨trivial,(fun h=>by cases h),(CallsIn.inRound ll (callsIn_wide.2 R.out)).mono ?_⟩
   rintro e W4 ⟨rfl,b4⟩;have L:=qH b4;clear b4 o4 o5 R;have I4:=qH (C.out.2.trans (L.out.mono C.out.2.size));have BV4:=qH (g.out.trans (I4.out.mono g.out.size));have hS9:=SB0.out.below I4.out (by omega)
   have d:=XB0.out.below I4.out (by omega)
   obtain⟨A,s1,s2,s3,s4,s5,s6,s7,s8,s9,M,N,P,Q⟩:=ZN (m:=m) (k:=k) hS9;have t0:=cX 0 d rfl;have t1:=cX 1 d rfl;have t2:=cX 2 d rfl;have t3:=cX 3 d rfl;have t4:=cX 4 d rfl;have t5:=cX 5 d rfl;clear hS9 d;have g5:=qH (fr.out W4 BV4.out)
   gi_wp2_with fail
   refine⟨trivial,(fun h=>by cases h),(CallsIn.inRound ll (callsIn_wide.2 g5.out)).mono ?_⟩
   rintro e W6 ⟨rfl,b6⟩;have B6:=qH b6;clear b6 A s1 s2 s3 s4 s5 s6 s7 s8 s9 M N P Q t0 t1 t2 t3 t4 t5 g5;have I6:=qH (I4.out.trans (B6.out.mono I4.out.size));have G:=RB0.out.below I6.out (by omega)
   have r0:=cX 0 G rfl;have r1:=Ze G 0;have H6:=qH G;clear G;have z4:=L.out.size;have z6:=B6.out.size;gi_wp2;have z:=H6.out.set 0 (qB br);simp only [zq4,zr4,zs4] at z;refine⟨(Z3J (L.out.trans (B6.out.mono z4))).trans (KeepsFrom.of_grownBy (ZU W6 (w.heap.size+1+1) 0 _) (fun j e=>by cases e;omega)),⟨rfl,u,_,rfl,C.out.1,HJ.out⟩,z,?_⟩
   exact grown_low' (g.out.trans (I6.out.mono g.out.size)) (ZU W6 (w.heap.size+1+1) 0 _) (by omega) (qN _)
 case stop =>
  rintro D c s W5 hD ⟨j,hj,hs⟩ ⟨⟨rfl,A,x,hs0,ha,hx⟩,p,a⟩ S;obtain⟨p1,p2,p3⟩:=Z4k hs hj hs0 ha hx;have y1:=(p.putO (.deferred none) S rfl).cell (i:=0) rfl;have HF:=qH (And.intro (I.out _ p1 p2) (Z1B a (.deferred none) (show w.heap.size<=D by omega) (qN _)))
  have HK:=qH S;have HY:=qH y1;clear p a S r hs hs0 ha hx p1 p2 p3 y1;refine wpIn_wide.2 ?_;go_wp2;refine⟨by simp,.inl ⟨_,_,rfl,run_takeDeferred HK.out,?_⟩⟩
  exact⟨qB br,by simp [results,Tryz.f55,go_sem,HY.out],by rw [HF.out.1];simp,HF.out.2⟩
 case done =>
  rintro D xs W5 hD hxs ⟨p,a⟩ S;have AL:=qH (F.out (Z7U hxs p));have hR:=RB0.out.below a (by omega)
  have y0:=cX 0 hR rfl;have y1:=Ze hR 0;have hz5:=a.size;have C:=qH (And.intro a (And.intro hR S));clear p a S r hxs hR;go_wp2;have z:=C.out.2.1.set 0 (qB false);simp only [zq4,zr4,zs4] at z;have hK2:(W5.setCell ⟨(w.heap.size+1+1),0,none⟩ (qB false)).heap[D]?=some (.deferred (some [])):=(Below.heap_setCell W5 ⟨(w.heap.size+1+1),0,none⟩ _ D (by show D≠(w.heap.size+1+1);omega)).trans C.out.2.2
  have y2:=(z.putO (.deferred none) hK2 rfl).cell (i:=0) rfl;refine⟨by simp,.inl ⟨_,_,rfl,run_takeDeferred hK2,?_⟩⟩
  exact⟨qB false,by simp [results,Tryz.f55,go_sem,y2],by rw [AL.out];simp,Z1B (g.out.trans (grown_low' (C.out.1.mono g.out.size) (ZU W5 (w.heap.size+1+1) 0 _) (by omega) g.out.size)) (.deferred none) (by omega) (qN _)⟩
end
section
attribute [local irreducible] wpQuiet
open Go.RowKit
theorem ZcB {m:Msn} {a:Nat} {r:Int}:∀ n,bkC m a r n=false->∃ j,j<n/\clrB m (itB m a j) (bkR m a r j) (itB m a (j+1)) (bkR m a r (j+1))=false
 | 0,h=>by simp [bkC] at h
 | n + 1, h => by
  simp only [bkC,Bool.and_eq_false_iff] at h;rcases h with h | h
  ·obtain⟨j,h1,h2⟩:=ZcB n h
   exact⟨j,by omega,h2⟩
  ·exact⟨n,by omega,h⟩
theorem Z60 {m:Msn} {l:List Int} {k:Nat} (h:kindV m l k=1):firB (ownC m l k) m.rocks=true:=by
 by_cases h1:clrB m k (rdA m l k) (k+1) (rdB m l (k+1))=false
 ·simpa [clrB,ownC] using h1
 ·unfold kindV at h
  rw [if_neg h1] at h
  repeat' (split at h)
  all_goals omega
theorem Za3 {m:Msn} {l:List Int} {k:Nat} (h:kindV m l k=5):∃ j,j<dep m (k+1)/\firB (bkP m l k j) m.rocks=true:=by
 unfold kindV at h
 split at h
 ·omega
 split at h
 ·rename_i h2
  obtain⟨j,a,b⟩:=ZcB _ h2;exact⟨j,a,by simpa [clrB,bkP] using b⟩
 ·repeat' (split at h)
  all_goals omega
theorem Z6i {l m:List Pt}:∀ k,(∀ j,j<k->hasB m (nth l j)=true)->(cornersTo l m k).length=k
 | 0,_=>rfl
 | k + 1, h => by
  have ih:=Z6i k (fun j hj=>h j (by omega))
  simp only [cornersTo,if_pos (h k (by omega)),List.length_append,List.length_singleton,ih]
theorem hm_eq {m:Msn} (V:VMsn m) {r:Int} (h:0<=r/\r<=100000):shL (dskL r) (atW m 0)=mvL (atW m 0) (Z4 r.toNat)/\Zb (mvL (atW m 0) (Z4 r.toNat))=true:=by
 have f:radOk r=true:=by simp [radOk,h]
 have e:dskL r=Z4 r.toNat:=by simp [dskL,f]
 have c:=Z4H V (a:=0) (b:=0) (by have:=V.n2;omega) (by have:=V.n2;omega) h h
 obtain⟨⟨j,-⟩,d,-⟩:=Z0A c;have G:=Z0t (n:=r.toNat) (by omega)
 have k:Zb (Z4 r.toNat)=true:=by simpa [Zb] using G
 have g:shE (dskL r) (atW m 0)=0:=by rw [e];simp [shE,k,j,d]
 exact⟨by simp only [shL,g,if_true];rw [e],by rw [Z0D _ G];exact d⟩
theorem Zcr {m:Msn} (V:VMsn m) {l:List Int} {k:Nat} (hk:k+1<m.ways.length):hmP m l k=mvL (atW m 0) (Z4 (hmR m l k).toNat):=(hm_eq V (bk_bd V l hk (qN _))).1
theorem Za2 {m:Msn} (V:VMsn m) {l:List Int} {k:Nat} (hk:k+1<m.ways.length) (h:kindV m l k=2):¬ ∀ x ∈ hmP m l k,hasB m.home x=true:=by
 intro ha;unfold kindV at h
 split at h
 ·omega
 split at h
 ·omega
 split at h
 ·rename_i h2
  rw [Zcr V hk] at ha;unfold lieB at h2;rw [decide_eq_false_iff_not] at h2;refine h2 (Z6i _ fun j hj=>ha _ ?_)
  rw [Z56 hj];exact List.getElem_mem _
 ·repeat' (split at h)
  all_goals omega
def ShowQ (m:Msn) (l:List Int) (k:Nat) (K:Int) (v:Value) (cs:Array Value) (er:Int):Prop :=
 (K=1/\cs=outC m v k 1 (ownC m l k)/\er=outE m (ownC m l k)/\firB (ownC m l k) m.rocks=true) \/
 (K=5/\∃ j,j<dep m (k+1)/\firB (bkP m l k j) m.rocks=true/\cs=outC m v k 5 (bkP m l k j)/\er=outE m (bkP m l k j)) \/
 (K=2/\er=0/\∃ x ∈ hmP m l k,hasB m.home x=false/\cs=#[v,O qL (k:Int),O qL 2,O qL 0,O qL x.x,O qL x.y]) \/
 ((K=3\/K=4)/\er=0/\cs=#[v,O qL (k:Int),O qL K,O qL 0,O qL 0,O qL 0])
theorem ShowQ.shape {m:Msn} {l:List Int} {k:Nat} {K:Int} {v:Value} {cs:Array Value} {er:Int} (h:ShowQ m l k K v cs er):∃ a b c,cs=#[v,O qL (k:Int),O qL K,O qL a,O qL b,O qL c]:=by
 rcases h with⟨rfl,rfl,-,-⟩ | ⟨rfl,j,-,-,rfl,-⟩ | ⟨rfl,-,x,-,-,rfl⟩ | ⟨-,-,rfl⟩
 ·exact⟨_,_,_,rfl⟩
 ·exact⟨_,_,_,rfl⟩
 ·exact⟨_,_,_,rfl⟩
 ·exact⟨_,_,_,rfl⟩
def ShowR (m:Msn) (l:List Int) (k:Nat) (K:Int) (v:Value) (Bo:Nat) (w:World) (e:Ending) (w':World):Prop :=
 ∃ cs er,e=.returned (O qL er)/\ShowQ m l k K v cs er/\Has w' Bo cs 38/\w.grownBy w' (some Bo)
theorem Z5D (m:Msn) (l:List Int) (vw vh vr vb va:Value) (w:World) (T:StgAt w.heap.size w m l vw vh vr vb va) (V:VMsn m) (k:Nat) (hk:k+1<m.ways.length) (Bo:Nat) (v:Value) (HO:Has w Bo #[v,O qL (k:Int),O qL 1,O qL 0,O qL 0,O qL 0] 38) (hK:kindV m l k=1):Calls Tryz.prog 34 #[qA (stgC m vw vh vr vb va k),qP (some ⟨Bo,0,none⟩)] w (ShowR m l k 1 v Bo w) :=
 (Z4Q m l vw vh vr vb va w T V k hk Bo v k 1 0 0 0 HO (Z60 hK)).mono fun _ _ ⟨h1,h2,h3⟩=>⟨_,_,h1,.inl ⟨rfl,rfl,rfl,Z60 hK⟩,h2,h3⟩
theorem Z5F (m:Msn) (l:List Int) (vw vh vr vb va:Value) (w:World) (T:StgAt w.heap.size w m l vw vh vr vb va) (V:VMsn m) (k:Nat) (hk:k+1<m.ways.length) (Bo:Nat) (v:Value) (HO:Has w Bo #[v,O qL (k:Int),O qL 5,O qL 0,O qL 0,O qL 0] 38) (hK:kindV m l k=5):Calls Tryz.prog 35 #[qA (stgC m vw vh vr vb va k),qP (some ⟨Bo,0,none⟩)] w (ShowR m l k 5 v Bo w) :=
 (Z4S m l vw vh vr vb va w T V k hk Bo v k 5 0 0 0 HO).mono fun e w' h=>by
  rcases h with⟨h,-,-⟩ | ⟨j,h1,-,h3,h4,h5,h6⟩
  ·obtain⟨j,h1,h2⟩:=Za3 hK
   rw [h j h1] at h2;cases h2
  ·exact⟨_,_,h4,.inr (.inl ⟨rfl,j,h1,h3,rfl,rfl⟩),h5,h6⟩
theorem Z5E (m:Msn) (l:List Int) (vw vh vr vb va:Value) (w:World) (T:StgAt w.heap.size w m l vw vh vr vb va) (V:VMsn m) (k:Nat) (hk:k+1<m.ways.length) (Bo:Nat) (v:Value) (HO:Has w Bo #[v,O qL (k:Int),O qL 2,O qL 0,O qL 0,O qL 0] 38) (hK:kindV m l k=2):Calls Tryz.prog 36 #[qA (stgC m vw vh vr vb va k),qP (some ⟨Bo,0,none⟩)] w (ShowR m l k 2 v Bo w) :=
 (Z4R m l vw vh vr vb va w T V k hk Bo v k 2 0 0 0 HO).mono fun e w' h=>by
  obtain⟨h0,⟨h,-⟩ | ⟨x,h1,h2,h3,h4⟩⟩:=h
  ·exact (Za2 V hk hK h).elim
  ·exact⟨_,_,h0,.inr (.inr (.inl ⟨rfl,rfl,x,h1,h2,rfl⟩)),h3,h4⟩
def fnR (v:Value):Option (DataW Value × List MemPlace):=some (.held v,[])
theorem Z43 {n:Nat} {A B:World} (h:Below n A B):∃ C,C=B/\Below n A C:=⟨B,rfl,h⟩
theorem ZX {v f:Value} {d:DataW Value} {ps:List MemPlace} (h:fnR v=some (d,ps)) (hd:d=.held f):v=f:=by
 subst hd;simp only [fnR,Option.some.injEq,Prod.mk.injEq,DataW.held.injEq] at h;exact h.1
end
section
attribute [local irreducible] wpQuiet
open Go.RowKit Go.Maps
def scZ:Array Value:=#[qS none 0 0,O qL 0,O qL 0,O qL 0,O qL 0,O qL 0]
theorem zeroF1 (w:World):(zeroValue 78).run Tryz.prog w=.ok .nilFunc w:=by kernel_rfl
def showD:DataW Value:=(((DataW.map []).put (.int .i64 1) (.held (.func (.func 34) #[] #[]))).put (.int .i64 5) (.held (.func (.func 35) #[] #[]))).put (.int .i64 2) (.held (.func (.func 36) #[] #[]))
theorem Zbp:showD.atKey (.int .i64 1) (.held .nilFunc)=.held (.func (.func 34) #[] #[])/\showD.atKey (.int .i64 5) (.held .nilFunc)=.held (.func (.func 35) #[] #[])/\showD.atKey (.int .i64 2) (.held .nilFunc)=.held (.func (.func 36) #[] #[])/\showD.atKey (.int .i64 3) (.held .nilFunc)=.held .nilFunc/\showD.atKey (.int .i64 4) (.held .nilFunc)=.held .nilFunc:=⟨rfl,rfl,rfl,rfl,rfl⟩
theorem Z9s:Maps.has showD (.int .i64 1)=true/\Maps.has showD (.int .i64 5)=true/\Maps.has showD (.int .i64 2)=true/\Maps.has showD (.int .i64 3)=false/\Maps.has showD (.int .i64 4)=false:=⟨rfl,rfl,rfl,rfl,rfl⟩
theorem set6 {X Z:World} {B:Nat} {cs:Array Value} {T:TypeId} {v0 v1 v2 v3 v4 v5:Value} (H:Has X B cs T) (hs:cs.size=6) (hz:((((((X.setCell ⟨B,0,none⟩ v0).setCell ⟨B,1,none⟩ v1).setCell ⟨B,2,none⟩ v2).setCell ⟨B,3,none⟩ v3).setCell ⟨B,4,none⟩ v4).setCell ⟨B,5,none⟩ v5)=Z) :
  Has Z B #[v0,v1,v2,v3,v4,v5] T/\(∀ n,n<=B->Below n X Z)/\Z.heap.size=X.heap.size/\∀ b,b≠B->Z.heap[b]?=X.heap[b]?:=by
 subst hz;obtain⟨l,rfl⟩:∃ l:List Value,cs=l.toArray:=⟨cs.toList,by simp⟩
 obtain⟨e,a,g,c,f,d,rfl⟩:∃ e a g c f d,l=[e,a,g,c,f,d]:=by
  match l,hs with
  | [e,a,g,c,f,d],_=>exact⟨_,_,_,_,_,_,rfl⟩
 refine⟨?_,fun n hn=>?_,by simp,fun b hb=>?_⟩
 ·have:=((((((H.set 0 v0).set 1 v1).set 2 v2).set 3 v3).set 4 v4).set 5 v5)
  simpa only [zq4,zr4,zs4] using this
 ·exact (((((((qK n X).setCell (p:=⟨B,0,none⟩) hn v0).setCell (p:=⟨B,1,none⟩) hn v1).setCell (p:=⟨B,2,none⟩) hn v2).setCell (p:=⟨B,3,none⟩) hn v3).setCell (p:=⟨B,4,none⟩) hn v4).setCell (p:=⟨B,5,none⟩) hn v5)
 ·iterate 6 (rw [Below.heap_setCell _ _ _ _ (by exact hb)])
theorem Z4X {m:Msn} (hr:rfB m=true):validB m=true/\radOkB m (rfL m)=true/\leadN m (rfL m)+1<m.ways.length/\rfG m=(leadN m (rfL m):Int)/\kpL m (rfL m)=(leadN m (rfL m):Int)/\kpK m (rfL m)=kindV m (rfL m) (leadN m (rfL m))/\kpE m (rfL m)=0/\plE m=0/\kindV m (rfL m) (leadN m (rfL m))≠0/\rfL m=(bestP m).2:=by
 have b:rfL m=(bestP m).2:=by simp [rfL,hr]
 have j:rfG m=(bestP m).1:=by simp [rfG,hr]
 have h:=hr;simp only [rfB,Bool.and_eq_true,Bool.not_eq_true',decide_eq_false_iff_not] at h;have a:=sub_ok h.1 (Z89 m);rw [<- b] at a;obtain⟨d,l,k⟩:=kp_of a;have e:=Z6o m;rw [<- b] at e;have c:=Z11 m (rfL m);have f:leadN m (rfL m)<m.ways.length-1:=by
  rcases Nat.lt_or_ge (leadN m (rfL m)) (m.ways.length-1) with g | g
  ·exact g
  ·exfalso
   apply h.2
   rw [<- e,d];unfold leadV;omega
 refine⟨h.1,a,by omega,by rw [j,<- e,d];rfl,d,?_,k,by simp [plE,h.1],c.2.2 f,b⟩
 rw [l];unfold leadK;rw [if_pos f]
theorem Z95 (m:Msn) (vw vh vr:Value) (w:World) (hm:MsnAt w.heap.size w m vw vh vr) (h13:m.ways.length<=13) (hr:rfB m=true) :
  Calls Tryz.prog 10 #[qA (Zc m vw vh vr)] w fun e w'=>∃ v cs er,ShowQ m (rfL m) (leadN m (rfL m)) (kindV m (rfL m) (leadN m (rfL m))) v cs er/\Z8 w'.heap.size w' v (rfL m)/\Below w.heap.size w w' /\
   e=.returned (.tuple (if er=0 then #[qA cs,qB true,O qL 0] else #[qA scZ,qB false,O qL er])):=by
 obtain⟨hV,hok,hk,e1,N,e3,e4,e5,hK0,-⟩:=Z4X hr;have V:=(Zm m).1 hV;have n41:=V.n41;have f1:=fun w1 (B:Below w.heap.size w w1)=>Z5w m vw vh vr w1 ((hm.below B).mono B.size) h13
 have f2:=fun v w1 (B:Below w.heap.size w w1) hl=>Z0X m vw vh vr v (rfL m) w1 ((hm.below B).mono B.size) hl
 rw [hr,e1,e5] at f1;rw [N,e3,e4] at f2;have hKb:=Z5e m (rfL m) (leadN m (rfL m));generalize rfL m=l at *;generalize leadN m l=k at *;have f3:=fun v w1 (B:Below w.heap.size w w1) hl=>Z5z m l vw vh vr v k w1 ((hm.below B).mono B.size) hl hok
 have g1:=fun vb va W T Bo v HO hK=>Z5D m l vw vh vr vb va W T V k hk Bo v HO hK
 have g5:=fun vb va W T Bo v HO hK=>Z5F m l vw vh vr vb va W T V k hk Bo v HO hK
 have g2:=fun vb va W T Bo v HO hK=>Z5E m l vw vh vr vb va W T V k hk Bo v HO hK
 clear V hV hok e1 N e3 e4 e5 hr;obtain⟨⟨-,a1,c1,rfl,-⟩,⟨-,a2,c2,rfl,-⟩,⟨-,a3,c3,rfl,-⟩⟩:=hm;unfold Zc at *;obtain⟨K,hK⟩:∃ K,kindV m l k=K:=⟨_,rfl⟩;simp only [hK] at *;have hK5:K=1\/K=5\/K=2\/K=3\/K=4:=by omega
 clear hKb hK0 hK;have HQ:∀ (v:Value) (hK:K=3\/K=4),ShowQ m l k K v #[v,O qL (k:Int),O qL K,O qL 0,O qL 0,O qL 0] 0:=fun v hK=>.inr (.inr (.inr ⟨hK,rfl,rfl⟩))
 replace f1:=qH f1;replace f2:=qH f2;replace f3:=qH f3;replace g1:=qH g1;replace g2:=qH g2;replace g5:=qH g5;replace HQ:=qH HQ;have HA:=Zbp;have HH:=Z9s;unfold showD at HA HH;replace HA:=qH HA;replace HH:=qH HH;have hmm:=@run_makeMap Tryz.prog;have hk41:k<41:=by omega
 unfold ShowR at *;have E:=qH (qK w.heap.size w);go_enter Tryz.func10,Tryz.ntmps10;go_upto_region 1 with fail
 generalize hXX0:qV (qV w _) _=X0;obtain⟨q0,q1,hA,hzX0⟩:=box2 hXX0;clear hXX0;have E:=qH hA;clear hA;have MB:=qH q0;clear q0;have RB:=qH q1;clear q1;have HZ0:=qH hzX0;clear hzX0;obtain⟨c0,c1,c2,c3,c4,c5,c6,c7,c8,c9,S⟩:=Zh (m:=m) MB.out;go_wp2_with fail;refine (f1.out _ E.out).mono ?_;rintro e w1 ⟨v1,rfl,p1,b1,n1⟩;replace E:=zAd E b1;have f:=qH b1;clear b1;have P1:=qH p1;clear p1;have N1:=qH n1;obtain⟨-,h1,d1,hv1,-⟩:=P1.out;subst hv1;clear n1 c0 c1 c2 c3 c4 c5 c6 c7 c8 c9 S;obtain⟨c0,c1,c2,c3,c4,c5,c6,c7,c8,c9,S⟩:=Zh (m:=m) (zCj MB f);go_wp2_with fail;refine (f2.out _ _ E.out P1.out).mono ?_;rintro e w2 ⟨rfl,b2⟩;replace E:=zAd E b2;replace f:=zAd f b2;have a:=qH b2;clear b2 c0 c1 c2 c3 c4 c5 c6 c7 c8 c9 S;have zB:X0.heap.size<=w2.heap.size:=f.out.size;have zw:w.heap.size+2<=X0.heap.size:=by have:=HZ0.out;omega
 have zw1:w1.heap.size<=w2.heap.size:=a.out.size;go_upto_region 6 with fail
 generalize hXX1:qV w2 _=X1;obtain⟨q0,hA,hzX1⟩:=box1 hXX1;clear hXX1;replace E:=zAd E hA;replace f:=zAd f hA;replace a:=zAd a hA;clear hA;have OB:=qH q0;clear q0;have HZ1:=qH hzX1;clear hzX1;have U:=qH (World.ownsMap_made X1 Tryz.prog 3 fnR);have BM:=qH ((qK X1.heap.size X1).alloc (qN _) (.map #[] 0));go_upto_region 7 with (first | (refine ZD (H:=Value) _ rfl _ _ _ 82 rfl 3 78 keyInt Tryz.underlying82 fnR X1.heap.size _ _ rfl U.out (by unfold maxLen;omega) (.int .i64 1) (.func (.func 34) #[] #[]) (.int .i64 1) rfl rfl (keyOf_int_mk Tryz.underlying3 rfl) (.held (.func (.func 34) #[] #[])) [] rfl ?_;intro w9 C g9;have Q:=qH C;replace BM:=qH (BM.out.grown g9 BM.out.size (fun j hj=>by cases hj;exact qN _));clear U C g9;have U:=Q;clear Q) | (refine ZD (H:=Value) _ rfl _ _ _ 82 rfl 3 78 keyInt Tryz.underlying82 fnR X1.heap.size _ _ rfl U.out (by unfold maxLen;omega) (.int .i64 5) (.func (.func 35) #[] #[]) (.int .i64 5) rfl rfl (keyOf_int_mk Tryz.underlying3 rfl) (.held (.func (.func 35) #[] #[])) [] rfl ?_;intro w9 C g9;have Q:=qH C;replace BM:=qH (BM.out.grown g9 BM.out.size (fun j hj=>by cases hj;exact qN _));clear U C g9;have U:=Q;clear Q) | (refine ZD (H:=Value) _ rfl _ _ _ 82 rfl 3 78 keyInt Tryz.underlying82 fnR X1.heap.size _ _ rfl U.out (by unfold maxLen;omega) (.int .i64 2) (.func (.func 36) #[] #[]) (.int .i64 2) rfl rfl (keyOf_int_mk Tryz.underlying3 rfl) (.held (.func (.func 36) #[] #[])) [] rfl ?_;intro w9 C g9;have Q:=qH C;replace BM:=qH (BM.out.grown g9 BM.out.size (fun j hj=>by cases hj;exact qN _));clear U C g9;have U:=Q;clear Q) | go_in)
 obtain⟨X5,hX5,-⟩:=Z43 BM.out;subst hX5;have b5:=BM.out;clear BM;replace E:=zAd E b5;replace f:=zAd f b5;replace a:=zAd a b5;have p:=qH b5;clear b5;obtain⟨c0,c1,c2,c3,c4,c5,c6,c7,c8,c9,S⟩:=Zh (m:=m) (zCj MB f);have HC0:=qH HZ0.out;clear HZ0;rcases hK5 with rfl | rfl | rfl | rfl | rfl
 ·skip
  have o:=HA.out.1;have n:=HH.out.1;have M:(Lit.int .i64 1).wf=true:=rfl;go_wp2_with (at_lookup;refine wpList_lookup_own_ok (H:=Value) _ rfl _ _ 82 rfl 3 78 keyInt Tryz.underlying82 fnR (zeroF1 _) (.held .nilFunc) [] rfl X1.heap.size _ _ rfl U.out _ _ rfl (keyOf_int_mk Tryz.underlying3 M) ?_;intro v9 ps9 C;replace C:=ZX C o;subst C;rw [n]);refine (f3.out _ X5 E.out ((P1.out.below a.out).mono a.out.size)).mono ?_;rintro e w3 ⟨vb,va,rfl,t6,P,-,-⟩;replace E:=zAd E P;replace f:=zAd f P;replace a:=zAd a P;replace p:=zAd p P;clear P;have T6:=qH t6;clear t6 o n c0 c1 c2 c3 c4 c5 c6 c7 c8 c9 S;obtain⟨-,ab,cb,hvb,-⟩:=T6.out.bef;subst hvb;obtain⟨-,aa,ca,hva,-⟩:=T6.out.aft;subst hva;have gs:=g1.out _ _ w3 T6.out _ _ (zCj OB p) (by first | rfl | trivial)
  unfold stgC at gs ⊢;go_wp2_with fail;refine gs.mono ?_;clear gs;rintro e G ⟨cs,er,rfl,hq,b,L⟩;obtain⟨ra,rx,ry,hcs⟩:=hq.shape;subst hcs;have I:=(zCj RB f);have lR:=I.lt;have d:Has G (w.heap.size+1) _ 38:=(L.block _ lR (fun e=>by simp only [Option.some.injEq] at e;omega)).trans I
  clear I;have HI:=qH (show Z8 G.heap.size G _ l from (P1.out.below (grown_low' a.out L (by omega) (qN _))).mono (Nat.le_trans a.out.size L.size))
  have Y:=qH (grown_low' E.out L (by omega) (qN _))
  have HR:=qH d;have F:=qH hq;have z7:=L.size;clear hq L;have y:=cX 0 d rfl;have y0:=Ze d 0;have D:=cX 1 d rfl;have y1:=Ze d 1;have u:=cX 2 d rfl;have y2:=Ze d 2;have x:=cX 3 d rfl;have y3:=Ze d 3;have z:=cX 4 d rfl;have y4:=Ze d 4;have A:=cX 5 d rfl;have y5:=Ze d 5;clear d;have o0:=cX 0 b rfl;have o1:=cX 1 b rfl;have o2:=cX 2 b rfl;have X:=cX 3 b rfl;have o4:=cX 4 b rfl;have o5:=cX 5 b rfl;clear b;by_cases er0:er=0
  ·subst er0
   go_wp2;clear o0 o1 o2 X o4 o5 y y0 D y1 u y2 x y3 z y4 A y5;generalize J:qU (qU (qU (qU (qU (qU G _ _) _ _) _ _) _ _) _ _) _ _=Z;obtain⟨g,c,R,q⟩:=set6 HR.out rfl J;clear J;have s:G.grownBy Z (some (w.heap.size+1)):=⟨(c 0 (Nat.zero_le _)).os,(c 0 (Nat.zero_le _)).tape,(c 0 (Nat.zero_le _)).output,by omega,fun i _ hne=>q i (fun e=>hne (by rw [e]))⟩
   have y:=cX 0 g rfl;have D:=cX 1 g rfl;have u:=cX 2 g rfl;have x:=cX 3 g rfl;have z:=cX 4 g rfl;have A:=cX 5 g rfl;have t:Z8 Z.heap.size Z _ l:=HI.out.offG s (fun r e=>.inr fun N=>by cases e;have:=N1.out _ N;omega)
   exact bodyPost_ret (v:=.tuple #[qA #[qS h1 l.length (l.length+d1),O qL (k:Int),O qL 1,O qL ra,O qL rx,O qL ry],qB true,O qL 0]) (by simp [results,scZ,Tryz.f10,go_sem,y,D,u,x,z,A]) rfl ⟨_,_,0,F.out,t,Y.out.trans (c _ (by omega)),by rw [if_pos rfl]⟩
  ·have e1:(er != 0)=true:=by simpa using er0
   clear o0 o1 o2 X o4 o5;go_wp2;clear y y0 D y1 u y2 x y3 z y4 A y5;generalize J:qU (qU (qU (qU (qU (qU G _ _) _ _) _ _) _ _) _ _) _ _=Z;obtain⟨g,c,R,q⟩:=set6 HR.out rfl J;clear J;have s:G.grownBy Z (some (w.heap.size+1)):=⟨(c 0 (Nat.zero_le _)).os,(c 0 (Nat.zero_le _)).tape,(c 0 (Nat.zero_le _)).output,by omega,fun i _ hne=>q i (fun e=>hne (by rw [e]))⟩
   have y:=cX 0 g rfl;have D:=cX 1 g rfl;have u:=cX 2 g rfl;have x:=cX 3 g rfl;have z:=cX 4 g rfl;have A:=cX 5 g rfl;have t:Z8 Z.heap.size Z _ l:=HI.out.offG s (fun r e=>.inr fun N=>by cases e;have:=N1.out _ N;omega)
   exact bodyPost_ret (v:=.tuple #[qA scZ,qB false,O qL er]) (by simp [results,scZ,Tryz.f10,go_sem,y,D,u,x,z,A]) rfl ⟨_,_,er,F.out,t,Y.out.trans (c _ (by omega)),by rw [if_neg er0]⟩
 ·skip
  have o:=HA.out.2.1;have n:=HH.out.2.1;have M:(Lit.int .i64 5).wf=true:=rfl;go_wp2_with (at_lookup;refine wpList_lookup_own_ok (H:=Value) _ rfl _ _ 82 rfl 3 78 keyInt Tryz.underlying82 fnR (zeroF1 _) (.held .nilFunc) [] rfl X1.heap.size _ _ rfl U.out _ _ rfl (keyOf_int_mk Tryz.underlying3 M) ?_;intro v9 ps9 C;replace C:=ZX C o;subst C;rw [n]);refine (f3.out _ X5 E.out ((P1.out.below a.out).mono a.out.size)).mono ?_;rintro e w3 ⟨vb,va,rfl,t6,P,-,-⟩;replace E:=zAd E P;replace f:=zAd f P;replace a:=zAd a P;replace p:=zAd p P;clear P;have T6:=qH t6;clear t6 o n c0 c1 c2 c3 c4 c5 c6 c7 c8 c9 S;obtain⟨-,ab,cb,hvb,-⟩:=T6.out.bef;subst hvb;obtain⟨-,aa,ca,hva,-⟩:=T6.out.aft;subst hva;have gs:=g5.out _ _ w3 T6.out _ _ (zCj OB p) (by first | rfl | trivial)
  unfold stgC at gs ⊢;go_wp2_with fail;refine gs.mono ?_;clear gs;rintro e G ⟨cs,er,rfl,hq,b,L⟩;obtain⟨ra,rx,ry,hcs⟩:=hq.shape;subst hcs;have I:=(zCj RB f);have lR:=I.lt;have d:Has G (w.heap.size+1) _ 38:=(L.block _ lR (fun e=>by simp only [Option.some.injEq] at e;omega)).trans I
  clear I;have HI:=qH (show Z8 G.heap.size G _ l from (P1.out.below (grown_low' a.out L (by omega) (qN _))).mono (Nat.le_trans a.out.size L.size))
  have Y:=qH (grown_low' E.out L (by omega) (qN _))
  have HR:=qH d;have F:=qH hq;have z7:=L.size;clear hq L;have y:=cX 0 d rfl;have y0:=Ze d 0;have D:=cX 1 d rfl;have y1:=Ze d 1;have u:=cX 2 d rfl;have y2:=Ze d 2;have x:=cX 3 d rfl;have y3:=Ze d 3;have z:=cX 4 d rfl;have y4:=Ze d 4;have A:=cX 5 d rfl;have y5:=Ze d 5;clear d;have o0:=cX 0 b rfl;have o1:=cX 1 b rfl;have o2:=cX 2 b rfl;have X:=cX 3 b rfl;have o4:=cX 4 b rfl;have o5:=cX 5 b rfl;clear b;by_cases er0:er=0
  ·subst er0
   go_wp2;clear o0 o1 o2 X o4 o5 y y0 D y1 u y2 x y3 z y4 A y5;generalize J:qU (qU (qU (qU (qU (qU G _ _) _ _) _ _) _ _) _ _) _ _=Z;obtain⟨g,c,R,q⟩:=set6 HR.out rfl J;clear J;have s:G.grownBy Z (some (w.heap.size+1)):=⟨(c 0 (Nat.zero_le _)).os,(c 0 (Nat.zero_le _)).tape,(c 0 (Nat.zero_le _)).output,by omega,fun i _ hne=>q i (fun e=>hne (by rw [e]))⟩
   have y:=cX 0 g rfl;have D:=cX 1 g rfl;have u:=cX 2 g rfl;have x:=cX 3 g rfl;have z:=cX 4 g rfl;have A:=cX 5 g rfl;have t:Z8 Z.heap.size Z _ l:=HI.out.offG s (fun r e=>.inr fun N=>by cases e;have:=N1.out _ N;omega)
   exact bodyPost_ret (v:=.tuple #[qA #[qS h1 l.length (l.length+d1),O qL (k:Int),O qL 5,O qL ra,O qL rx,O qL ry],qB true,O qL 0]) (by simp [results,scZ,Tryz.f10,go_sem,y,D,u,x,z,A]) rfl ⟨_,_,0,F.out,t,Y.out.trans (c _ (by omega)),by rw [if_pos rfl]⟩
  ·have e1:(er != 0)=true:=by simpa using er0
   clear o0 o1 o2 X o4 o5;go_wp2;clear y y0 D y1 u y2 x y3 z y4 A y5;generalize J:qU (qU (qU (qU (qU (qU G _ _) _ _) _ _) _ _) _ _) _ _=Z;obtain⟨g,c,R,q⟩:=set6 HR.out rfl J;clear J;have s:G.grownBy Z (some (w.heap.size+1)):=⟨(c 0 (Nat.zero_le _)).os,(c 0 (Nat.zero_le _)).tape,(c 0 (Nat.zero_le _)).output,by omega,fun i _ hne=>q i (fun e=>hne (by rw [e]))⟩
   have y:=cX 0 g rfl;have D:=cX 1 g rfl;have u:=cX 2 g rfl;have x:=cX 3 g rfl;have z:=cX 4 g rfl;have A:=cX 5 g rfl;have t:Z8 Z.heap.size Z _ l:=HI.out.offG s (fun r e=>.inr fun N=>by cases e;have:=N1.out _ N;omega)
   exact bodyPost_ret (v:=.tuple #[qA scZ,qB false,O qL er]) (by simp [results,scZ,Tryz.f10,go_sem,y,D,u,x,z,A]) rfl ⟨_,_,er,F.out,t,Y.out.trans (c _ (by omega)),by rw [if_neg er0]⟩
 ·skip
  have o:=HA.out.2.2.1;have n:=HH.out.2.2.1;have M:(Lit.int .i64 2).wf=true:=rfl;go_wp2_with (at_lookup;refine wpList_lookup_own_ok (H:=Value) _ rfl _ _ 82 rfl 3 78 keyInt Tryz.underlying82 fnR (zeroF1 _) (.held .nilFunc) [] rfl X1.heap.size _ _ rfl U.out _ _ rfl (keyOf_int_mk Tryz.underlying3 M) ?_;intro v9 ps9 C;replace C:=ZX C o;subst C;rw [n]);refine (f3.out _ X5 E.out ((P1.out.below a.out).mono a.out.size)).mono ?_;rintro e w3 ⟨vb,va,rfl,t6,P,-,-⟩;replace E:=zAd E P;replace f:=zAd f P;replace a:=zAd a P;replace p:=zAd p P;clear P;have T6:=qH t6;clear t6 o n c0 c1 c2 c3 c4 c5 c6 c7 c8 c9 S;obtain⟨-,ab,cb,hvb,-⟩:=T6.out.bef;subst hvb;obtain⟨-,aa,ca,hva,-⟩:=T6.out.aft;subst hva;have gs:=g2.out _ _ w3 T6.out _ _ (zCj OB p) (by first | rfl | trivial)
  unfold stgC at gs ⊢;go_wp2_with fail;refine gs.mono ?_;clear gs;rintro e G ⟨cs,er,rfl,hq,b,L⟩;obtain⟨ra,rx,ry,hcs⟩:=hq.shape;subst hcs;have I:=(zCj RB f);have lR:=I.lt;have d:Has G (w.heap.size+1) _ 38:=(L.block _ lR (fun e=>by simp only [Option.some.injEq] at e;omega)).trans I
  clear I;have HI:=qH (show Z8 G.heap.size G _ l from (P1.out.below (grown_low' a.out L (by omega) (qN _))).mono (Nat.le_trans a.out.size L.size))
  have Y:=qH (grown_low' E.out L (by omega) (qN _))
  have HR:=qH d;have F:=qH hq;have z7:=L.size;clear hq L;have y:=cX 0 d rfl;have y0:=Ze d 0;have D:=cX 1 d rfl;have y1:=Ze d 1;have u:=cX 2 d rfl;have y2:=Ze d 2;have x:=cX 3 d rfl;have y3:=Ze d 3;have z:=cX 4 d rfl;have y4:=Ze d 4;have A:=cX 5 d rfl;have y5:=Ze d 5;clear d;have o0:=cX 0 b rfl;have o1:=cX 1 b rfl;have o2:=cX 2 b rfl;have X:=cX 3 b rfl;have o4:=cX 4 b rfl;have o5:=cX 5 b rfl;clear b;by_cases er0:er=0
  ·subst er0
   go_wp2;clear o0 o1 o2 X o4 o5 y y0 D y1 u y2 x y3 z y4 A y5;generalize J:qU (qU (qU (qU (qU (qU G _ _) _ _) _ _) _ _) _ _) _ _=Z;obtain⟨g,c,R,q⟩:=set6 HR.out rfl J;clear J;have s:G.grownBy Z (some (w.heap.size+1)):=⟨(c 0 (Nat.zero_le _)).os,(c 0 (Nat.zero_le _)).tape,(c 0 (Nat.zero_le _)).output,by omega,fun i _ hne=>q i (fun e=>hne (by rw [e]))⟩
   have y:=cX 0 g rfl;have D:=cX 1 g rfl;have u:=cX 2 g rfl;have x:=cX 3 g rfl;have z:=cX 4 g rfl;have A:=cX 5 g rfl;have t:Z8 Z.heap.size Z _ l:=HI.out.offG s (fun r e=>.inr fun N=>by cases e;have:=N1.out _ N;omega)
   exact bodyPost_ret (v:=.tuple #[qA #[qS h1 l.length (l.length+d1),O qL (k:Int),O qL 2,O qL ra,O qL rx,O qL ry],qB true,O qL 0]) (by simp [results,scZ,Tryz.f10,go_sem,y,D,u,x,z,A]) rfl ⟨_,_,0,F.out,t,Y.out.trans (c _ (by omega)),by rw [if_pos rfl]⟩
  ·have e1:(er != 0)=true:=by simpa using er0
   clear o0 o1 o2 X o4 o5;go_wp2;clear y y0 D y1 u y2 x y3 z y4 A y5;generalize J:qU (qU (qU (qU (qU (qU G _ _) _ _) _ _) _ _) _ _) _ _=Z;obtain⟨g,c,R,q⟩:=set6 HR.out rfl J;clear J;have s:G.grownBy Z (some (w.heap.size+1)):=⟨(c 0 (Nat.zero_le _)).os,(c 0 (Nat.zero_le _)).tape,(c 0 (Nat.zero_le _)).output,by omega,fun i _ hne=>q i (fun e=>hne (by rw [e]))⟩
   have y:=cX 0 g rfl;have D:=cX 1 g rfl;have u:=cX 2 g rfl;have x:=cX 3 g rfl;have z:=cX 4 g rfl;have A:=cX 5 g rfl;have t:Z8 Z.heap.size Z _ l:=HI.out.offG s (fun r e=>.inr fun N=>by cases e;have:=N1.out _ N;omega)
   exact bodyPost_ret (v:=.tuple #[qA scZ,qB false,O qL er]) (by simp [results,scZ,Tryz.f10,go_sem,y,D,u,x,z,A]) rfl ⟨_,_,er,F.out,t,Y.out.trans (c _ (by omega)),by rw [if_neg er0]⟩
 ·skip
  have o:=HA.out.2.2.2.1;have n:=HH.out.2.2.2.1;have M:(Lit.int .i64 3).wf=true:=rfl;have d:=(zCj RB f);have HR:=qH d;have b:=(zCj OB p);have HI:=qH ((P1.out.below a.out).mono a.out.size);have Y:=E;have F:=qH (HQ.out (.slice h1 l.length (l.length+d1)) (by omega))
  have y:=cX 0 d rfl;have y0:=Ze d 0;have D:=cX 1 d rfl;have y1:=Ze d 1;have u:=cX 2 d rfl;have y2:=Ze d 2;have x:=cX 3 d rfl;have y3:=Ze d 3;have z:=cX 4 d rfl;have y4:=Ze d 4;have A:=cX 5 d rfl;have y5:=Ze d 5;clear d;have o0:=cX 0 b rfl;have o1:=cX 1 b rfl;have o2:=cX 2 b rfl;have X:=cX 3 b rfl;have o4:=cX 4 b rfl;have o5:=cX 5 b rfl;clear b;go_wp2_with (at_lookup;refine wpList_lookup_own_ok (H:=Value) _ rfl _ _ 82 rfl 3 78 keyInt Tryz.underlying82 fnR (zeroF1 _) (.held .nilFunc) [] rfl X1.heap.size _ _ rfl U.out _ _ rfl (keyOf_int_mk Tryz.underlying3 M) ?_;intro v9 ps9 C;replace C:=ZX C o;subst C;rw [n]);clear o0 o1 o2 X o4 o5 y y0 D y1 u y2 x y3 z y4 A y5;generalize J:qU (qU (qU (qU (qU (qU X5 _ _) _ _) _ _) _ _) _ _) _ _=Z;obtain⟨g,c,R,q⟩:=set6 HR.out rfl J;clear J;have s:X5.grownBy Z (some (w.heap.size+1)):=⟨(c 0 (Nat.zero_le _)).os,(c 0 (Nat.zero_le _)).tape,(c 0 (Nat.zero_le _)).output,by omega,fun i _ hne=>q i (fun e=>hne (by rw [e]))⟩
  have y:=cX 0 g rfl;have D:=cX 1 g rfl;have u:=cX 2 g rfl;have x:=cX 3 g rfl;have z:=cX 4 g rfl;have A:=cX 5 g rfl;have t:Z8 Z.heap.size Z _ l:=HI.out.offG s (fun r e=>.inr fun N=>by cases e;have:=N1.out _ N;omega)
  exact bodyPost_ret (v:=.tuple #[qA #[qS h1 l.length (l.length+d1),O qL (k:Int),O qL 3,O qL 0,O qL 0,O qL 0],qB true,O qL 0]) (by simp [results,scZ,Tryz.f10,go_sem,y,D,u,x,z,A]) rfl ⟨_,_,0,F.out,t,Y.out.trans (c _ (by omega)),by rw [if_pos rfl]⟩
 ·skip
  have o:=HA.out.2.2.2.2;have n:=HH.out.2.2.2.2;have M:(Lit.int .i64 4).wf=true:=rfl;have d:=(zCj RB f);have HR:=qH d;have b:=(zCj OB p);have HI:=qH ((P1.out.below a.out).mono a.out.size);have Y:=E;have F:=qH (HQ.out (.slice h1 l.length (l.length+d1)) (by omega))
  have y:=cX 0 d rfl;have y0:=Ze d 0;have D:=cX 1 d rfl;have y1:=Ze d 1;have u:=cX 2 d rfl;have y2:=Ze d 2;have x:=cX 3 d rfl;have y3:=Ze d 3;have z:=cX 4 d rfl;have y4:=Ze d 4;have A:=cX 5 d rfl;have y5:=Ze d 5;clear d;have o0:=cX 0 b rfl;have o1:=cX 1 b rfl;have o2:=cX 2 b rfl;have X:=cX 3 b rfl;have o4:=cX 4 b rfl;have o5:=cX 5 b rfl;clear b;go_wp2_with (at_lookup;refine wpList_lookup_own_ok (H:=Value) _ rfl _ _ 82 rfl 3 78 keyInt Tryz.underlying82 fnR (zeroF1 _) (.held .nilFunc) [] rfl X1.heap.size _ _ rfl U.out _ _ rfl (keyOf_int_mk Tryz.underlying3 M) ?_;intro v9 ps9 C;replace C:=ZX C o;subst C;rw [n]);clear o0 o1 o2 X o4 o5 y y0 D y1 u y2 x y3 z y4 A y5;generalize J:qU (qU (qU (qU (qU (qU X5 _ _) _ _) _ _) _ _) _ _) _ _=Z;obtain⟨g,c,R,q⟩:=set6 HR.out rfl J;clear J;have s:X5.grownBy Z (some (w.heap.size+1)):=⟨(c 0 (Nat.zero_le _)).os,(c 0 (Nat.zero_le _)).tape,(c 0 (Nat.zero_le _)).output,by omega,fun i _ hne=>q i (fun e=>hne (by rw [e]))⟩
  have y:=cX 0 g rfl;have D:=cX 1 g rfl;have u:=cX 2 g rfl;have x:=cX 3 g rfl;have z:=cX 4 g rfl;have A:=cX 5 g rfl;have t:Z8 Z.heap.size Z _ l:=HI.out.offG s (fun r e=>.inr fun N=>by cases e;have:=N1.out _ N;omega)
  exact bodyPost_ret (v:=.tuple #[qA #[qS h1 l.length (l.length+d1),O qL (k:Int),O qL 4,O qL 0,O qL 0,O qL 0],qB true,O qL 0]) (by simp [results,scZ,Tryz.f10,go_sem,y,D,u,x,z,A]) rfl ⟨_,_,0,F.out,t,Y.out.trans (c _ (by omega)),by rw [if_pos rfl]⟩
end
end Go.Proofs.YthipcinibldgnaaGreat
