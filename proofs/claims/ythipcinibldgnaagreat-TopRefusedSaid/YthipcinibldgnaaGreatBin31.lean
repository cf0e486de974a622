/- package scene: inOwn, notHome, inBack. | package scene: what the kinds of a leg say; the shows. -/
import Derived.Test.YthipcinibldgnaaGreatBin30
open Go.Value renaming int->O,pointer->qP,slice->qS,bool->qB,agg->qA
open Go.IntKind renaming i64->qL
open Go.Lib renaming hid->qH
open Go.RowKit.Below renaming refl->qK
open Go.World renaming alloc->qV
open Nat renaming le_refl->qN
open Go.Act renaming put->qJ
set_option linter.unusedSimpArgs false
set_option linter.unusedVariables false
set_option maxRecDepth 8000
set_option maxHeartbeats 6400000
namespace Go.Proofs.YthipcinibldgnaaGreat
section
attribute [local irreducible] wpQuiet
open Go.RowKit
noncomputable def inO (m:Msn) (l:List Int) (k:Nat) (r:Int) (x:Pt):Bool:=onR m r x && hasB (ownC m l k) x
noncomputable def ntH (m:Msn) (l:List Int) (k:Nat) (r:Int) (x:Pt):Bool:=decide (r=0) && (hasB (hmP m l k) x && (!hasB m.home x && insB x))
noncomputable def bkAny (m:Msn) (l:List Int) (k:Nat) (x:Pt):Bool:=(List.range (dep m (k+1))).any fun j=>hasB (bkP m l k j) x
theorem Z82 (m:Msn) (l:List Int) (vw vh vr vb va:Value) (w:World) (T:StgAt w.heap.size w m l vw vh vr vb va) (V:VMsn m) (k:Nat) (hk:k+1<m.ways.length) (vs:Value) (q1 q2 q3:Int) (x:Pt) :
  Calls Tryz.prog 54 #[qA (stgC m vw vh vr vb va k),qA #[vs,O qL q1,O qL q2,O qL q3,O qL x.x,O qL x.y]] w fun e w'=>e=.returned (qB (inO m l k q3 x))/\Below w.heap.size w w':=by
 have n41:=V.n41;have fr:=fun (W:World) (B:Below w.heap.size w W)=>Z37 m l vw vh vr vb va W (T.up B) k vs q1 q2 q3 x
 have fo:=fun (W:World) (B:Below w.heap.size w W)=>Z78 m l vw vh vr vb va W (T.up B) k hk n41
 have fh:=fun (W:World) v h=>Z1t v (ownC m l k) x W h
 unfold inO;obtain⟨-,ab,cb,rfl,-⟩:=T.bef;obtain⟨-,aa,ca,rfl,-⟩:=T.aft;obtain⟨⟨-,a1,c1,rfl,hcw⟩,⟨-,a2,c2,rfl,-⟩,⟨-,a3,c3,rfl,hcr⟩⟩:=T.msn;clear T hcw hcr V;unfold stgC PtsQ at *;obtain⟨px,py⟩:=x;simp only at fr fh ⊢;generalize onR m q3 ⟨px,py⟩=b1 at *;generalize hasB (ownC m l k) ⟨px,py⟩=b2 at *;generalize ownC m l k=oo at *;replace fr:=qH fr;replace fo:=qH fo;replace fh:=qH fh;have BW:=qH (qK w.heap.size w);go_enter Tryz.func54,Tryz.ntmps54;go_upto_region 1 with fail
 generalize hXX0:qV (qV w _) _=X0;obtain⟨q0,q1,hA,hzX0⟩:=box2 hXX0;clear hXX0;have BW:=qH hA;clear hA;have SB:=qH q0;clear q0;have XB:=qH q1;clear q1 hzX0;cases b1
 ·skip
  refine (wpIn_wide (n:=9)).1 ?_;refine Zi (Zk _) 10 (fun X=>Below X0.heap.size X0 X) (by kernel_rfl) (by kernel_rfl) (by kernel_rfl) fun hH inv0=>?_
  have hD:=Below.drew (qK X0.heap.size X0);generalize hXX1:X0.drew=X1 at *;clear hXX1;replace BW:=zAf BW hD;have B_X0:=qH hD;clear hD;refine sk hH (i:=0) (v:=qA #[qS a1 m.ways.length (m.ways.length+c1),qS a2 m.home.length (m.home.length+c2),O qL m.start,qS a3 m.rocks.length (m.rocks.length+c3),O qL m.speed,O qL m.part,O qL m.flow,O qL m.idle,O qL m.drive,O qL m.battery,O qL m.deadline,qS ab (rdBU m l).length ((rdBU m l).length+cb),qS aa (rdAU m l).length ((rdAU m l).length+ca),O qL (k:Int)]) (Zd rfl) inv0 (fun X hX=>?_) fun inv1=>?_
  ·have hh:=SB.out.below hX SB.out.lt;obtain⟨s0,s1,s2,s3,s4,s5,s6,s7,s8,s9,s10,s11,s12,s13⟩:=ZJ (m:=m) (k:=k) hh;go_simp
  simp only [qJ,zq4,zr4,zs4];clear inv0;refine sk hH (i:=1) (v:=qA #[vs,O qL q1,O qL q2,O qL q3,O qL px,O qL py]) (Zd rfl) inv1 (fun X hX=>?_) fun inv2=>?_
  ·have hh:=XB.out.below hX XB.out.lt;have t0:=hh.cell (i:=0) rfl;have t1:=hh.cell (i:=1) rfl;have t2:=hh.cell (i:=2) rfl;have t3:=hh.cell (i:=3) rfl;have t4:=hh.cell (i:=4) rfl;have t5:=hh.cell (i:=5) rfl;go_simp
  simp only [qJ,zq4,zr4,zs4];clear inv1;have inv3:=HeadInv.put2 inv2 (j:=2) (by kernel_rfl) (by omega)
  clear inv2;refine sa1 (r:=2) B_X0.out ?_;refine Zr (Zd rfl) rfl (f:=107) (args:=#[qA #[qS a1 m.ways.length (m.ways.length+c1),qS a2 m.home.length (m.home.length+c2),O qL m.start,qS a3 m.rocks.length (m.rocks.length+c3),O qL m.speed,O qL m.part,O qL m.flow,O qL m.idle,O qL m.drive,O qL m.battery,O qL m.deadline,qS ab (rdBU m l).length ((rdBU m l).length+cb),qS aa (rdAU m l).length ((rdAU m l).length+ca),O qL (k:Int)],qA #[vs,O qL q1,O qL q2,O qL q3,O qL px,O qL py]]) (by go_simp) (fr.out X1 BW.out) ?_
  rintro e w1 ⟨rfl,b1⟩;refine⟨_,rfl,?_⟩;simp only [qJ,zq4,zr4,zs4];replace BW:=zAf BW b1;replace B_X0:=zAf B_X0 b1;clear b1;refine sk hH (i:=3) (v:=qB false) (Zd rfl) inv3 (fun X hX=>?_) fun inv4=>?_
  ·go_simp
  simp only [qJ,zq4,zr4,zs4];clear inv3;refine Zo hH (i:=4) (Zd rfl) (by omega) inv4 (by kernel_rfl) (by kernel_rfl) rfl fun inv5=>?_
  simp only [qJ,zq4,zr4,zs4];clear inv4;refine Zo hH (i:=5) (Zd rfl) (by omega) inv5 (by kernel_rfl) (by kernel_rfl) rfl fun inv6=>?_
  simp only [qJ,zq4,zr4,zs4];clear inv5;refine Zo hH (i:=6) (Zd rfl) (by omega) inv6 (by kernel_rfl) (by kernel_rfl) rfl fun inv7=>?_
  simp only [qJ,zq4,zr4,zs4];clear inv6;refine Zo hH (i:=7) (Zd rfl) (by omega) inv7 (by kernel_rfl) (by kernel_rfl) rfl fun inv8=>?_
  simp only [qJ,zq4,zr4,zs4];clear inv7;refine Zo hH (i:=8) (Zd rfl) (by omega) inv8 (by kernel_rfl) (by kernel_rfl) rfl fun inv9=>?_
  simp only [qJ,zq4,zr4,zs4];clear inv8;refine sk hH (i:=9) (v:=qB false) (Zd rfl) inv9 (fun X hX=>?_) fun inv10=>?_
  ·go_simp
  simp only [qJ,zq4,zr4,zs4];clear inv9 inv10 hH;refine Zm (by kernel_rfl) B_X0.out ?_
  simp only [List.drop_succ_cons,List.drop_zero];gi_wp2;go_wp2;go_ret;exact⟨by simp,BW.out⟩
 ·skip
  refine (wpIn_wide (n:=9)).1 ?_;refine Zi (Zk _) 10 (fun X=>Below X0.heap.size X0 X) (by kernel_rfl) (by kernel_rfl) (by kernel_rfl) fun hH inv0=>?_
  have hD:=Below.drew (qK X0.heap.size X0);generalize hXX1:X0.drew=X1 at *;clear hXX1;replace BW:=zAf BW hD;have B_X0:=qH hD;clear hD;refine sk hH (i:=0) (v:=qA #[qS a1 m.ways.length (m.ways.length+c1),qS a2 m.home.length (m.home.length+c2),O qL m.start,qS a3 m.rocks.length (m.rocks.length+c3),O qL m.speed,O qL m.part,O qL m.flow,O qL m.idle,O qL m.drive,O qL m.battery,O qL m.deadline,qS ab (rdBU m l).length ((rdBU m l).length+cb),qS aa (rdAU m l).length ((rdAU m l).length+ca),O qL (k:Int)]) (Zd rfl) inv0 (fun X hX=>?_) fun inv1=>?_
  ·have hh:=SB.out.below hX SB.out.lt;obtain⟨s0,s1,s2,s3,s4,s5,s6,s7,s8,s9,s10,s11,s12,s13⟩:=ZJ (m:=m) (k:=k) hh;go_simp
  simp only [qJ,zq4,zr4,zs4];clear inv0;refine sk hH (i:=1) (v:=qA #[vs,O qL q1,O qL q2,O qL q3,O qL px,O qL py]) (Zd rfl) inv1 (fun X hX=>?_) fun inv2=>?_
  ·have hh:=XB.out.below hX XB.out.lt;have t0:=hh.cell (i:=0) rfl;have t1:=hh.cell (i:=1) rfl;have t2:=hh.cell (i:=2) rfl;have t3:=hh.cell (i:=3) rfl;have t4:=hh.cell (i:=4) rfl;have t5:=hh.cell (i:=5) rfl;go_simp
  simp only [qJ,zq4,zr4,zs4];clear inv1;have inv3:=HeadInv.put2 inv2 (j:=2) (by kernel_rfl) (by omega)
  clear inv2;refine sa1 (r:=2) B_X0.out ?_;refine Zr (Zd rfl) rfl (f:=107) (args:=#[qA #[qS a1 m.ways.length (m.ways.length+c1),qS a2 m.home.length (m.home.length+c2),O qL m.start,qS a3 m.rocks.length (m.rocks.length+c3),O qL m.speed,O qL m.part,O qL m.flow,O qL m.idle,O qL m.drive,O qL m.battery,O qL m.deadline,qS ab (rdBU m l).length ((rdBU m l).length+cb),qS aa (rdAU m l).length ((rdAU m l).length+ca),O qL (k:Int)],qA #[vs,O qL q1,O qL q2,O qL q3,O qL px,O qL py]]) (by go_simp) (fr.out X1 BW.out) ?_
  rintro e w1 ⟨rfl,b1⟩;refine⟨_,rfl,?_⟩;simp only [qJ,zq4,zr4,zs4];replace BW:=zAf BW b1;replace B_X0:=zAf B_X0 b1;clear b1;refine sk hH (i:=3) (v:=qB true) (Zd rfl) inv3 (fun X hX=>?_) fun inv4=>?_
  ·go_simp
  simp only [qJ,zq4,zr4,zs4];clear inv3;refine sk hH (i:=4) (v:=qA #[qS a1 m.ways.length (m.ways.length+c1),qS a2 m.home.length (m.home.length+c2),O qL m.start,qS a3 m.rocks.length (m.rocks.length+c3),O qL m.speed,O qL m.part,O qL m.flow,O qL m.idle,O qL m.drive,O qL m.battery,O qL m.deadline,qS ab (rdBU m l).length ((rdBU m l).length+cb),qS aa (rdAU m l).length ((rdAU m l).length+ca),O qL (k:Int)]) (Zd rfl) inv4 (fun X hX=>?_) fun inv5=>?_
  ·have hh:=SB.out.below hX SB.out.lt;obtain⟨s0,s1,s2,s3,s4,s5,s6,s7,s8,s9,s10,s11,s12,s13⟩:=ZJ (m:=m) (k:=k) hh;go_simp
  simp only [qJ,zq4,zr4,zs4];clear inv4;refine sk hH (i:=6) (v:=qP (some ⟨w.heap.size+1,4,none⟩)) (Zd rfl) inv5 (fun X hX=>?_) fun inv6=>?_
  ·go_simp
  simp only [qJ,zq4,zr4,zs4];clear inv5;refine sk hH (i:=7) (v:=qA #[O qL px,O qL py]) (Zd rfl) inv6 (fun X hX=>?_) fun inv7=>?_
  ·have hh:=XB.out.below hX XB.out.lt;have t0:=hh.cell (i:=0) rfl;have t1:=hh.cell (i:=1) rfl;have t2:=hh.cell (i:=2) rfl;have t3:=hh.cell (i:=3) rfl;have t4:=hh.cell (i:=4) rfl;have t5:=hh.cell (i:=5) rfl;go_simp
  simp only [qJ,zq4,zr4,zs4];clear inv6;have inv8:=HeadInv.put2 inv7 (j:=5) (by kernel_rfl) (by omega)
  clear inv7;refine sa1 (r:=5) B_X0.out ?_;refine Zr (Zd rfl) rfl (f:=78) (args:=#[qA #[qS a1 m.ways.length (m.ways.length+c1),qS a2 m.home.length (m.home.length+c2),O qL m.start,qS a3 m.rocks.length (m.rocks.length+c3),O qL m.speed,O qL m.part,O qL m.flow,O qL m.idle,O qL m.drive,O qL m.battery,O qL m.deadline,qS ab (rdBU m l).length ((rdBU m l).length+cb),qS aa (rdAU m l).length ((rdAU m l).length+ca),O qL (k:Int)]]) (by go_simp) (fo.out w1 BW.out) ?_
  rintro e w2 ⟨v1,rfl,p1,b2⟩;refine⟨_,rfl,?_⟩;simp only [qJ,zq4,zr4,zs4];replace BW:=zAf BW b2;replace B_X0:=zAf B_X0 b2;clear b2;have P1:=qH p1;obtain⟨g1,d1,hv1⟩:=P1.out.len;subst hv1;clear p1;have inv9:=HeadInv.put2 inv8 (j:=8) (by kernel_rfl) (by omega)
  clear inv8;refine sa1 (r:=8) B_X0.out ?_;refine Zr (Zd rfl) rfl (f:=81) (args:=#[qS g1 oo.length (oo.length+d1),qA #[O qL px,O qL py]]) (by go_simp) (fh.out w2 _ P1.out) ?_
  rintro e w3 ⟨rfl,b3⟩;refine⟨_,rfl,?_⟩;simp only [qJ,zq4,zr4,zs4];replace BW:=zAf BW b3;replace B_X0:=zAf B_X0 b3;have B_w2:=qH b3;clear b3;refine sk hH (i:=9) (v:=qB b2) (Zd rfl) inv9 (fun X hX=>?_) fun inv10=>?_
  ·go_simp
  simp only [qJ,zq4,zr4,zs4];clear inv9 inv10 hH;refine Zm (by kernel_rfl) B_X0.out ?_
  simp only [List.drop_succ_cons,List.drop_zero];gi_wp2;go_wp2;go_ret;exact⟨by simp,BW.out⟩
theorem Z5h (m : Msn) (l : List Int) (vw vh vr vb va : Value) (w : World) (T : StgAt w.heap.size w m l vw vh vr vb va) (V : VMsn m) (k : Nat) (hk : k + 1 < m.ways.length) (vs : Value) (q1 q2 q3 : Int) (x : Pt) :
  Calls Tryz.prog 56 #[qA (stgC m vw vh vr vb va k),qA #[vs,O qL q1,O qL q2,O qL q3,O qL x.x,O qL x.y]] w fun e w'=>e=.returned (qB (ntH m l k q3 x))/\Below w.heap.size w w':=by
 have fd:=fun (W:World) (B:Below w.heap.size w W)=>Z5m m l vw vh vr vb va W (T.up B) V k hk
 have fh:=fun (W:World) v h=>Z1t v (hmP m l k) x W h
 have fk:=fun (W:World) (B:Below w.heap.size w W)=>Z1t vh m.home x W ((T.msn.2.1.below B).mono B.size)
 have fi:=fun (W:World)=>Z6k x W
 unfold ntH;obtain⟨-,ab,cb,rfl,-⟩:=T.bef;obtain⟨-,aa,ca,rfl,-⟩:=T.aft;obtain⟨⟨-,a1,c1,rfl,hcw⟩,⟨-,a2,c2,rfl,-⟩,⟨-,a3,c3,rfl,hcr⟩⟩:=T.msn;clear T hcw hcr V;unfold stgC PtsQ at *;obtain⟨px,py⟩:=x;simp only at fi fk fh ⊢;generalize insB ⟨px,py⟩=b4 at *;generalize hasB m.home ⟨px,py⟩=b3 at *;generalize hasB (hmP m l k) ⟨px,py⟩=b2 at *;generalize hmP m l k=oo at *;replace fd:=qH fd;replace fh:=qH fh;replace fk:=qH fk;replace fi:=qH fi;obtain⟨b1,hb1⟩:∃ b,decide (q3=0)=b:=⟨_,rfl⟩;rw [hb1];have BW:=qH (qK w.heap.size w);go_enter Tryz.func56,Tryz.ntmps56;go_upto_region 1 with fail
 generalize hXX0:qV (qV w _) _=X0;obtain⟨q0,q1,hA,hzX0⟩:=box2 hXX0;clear hXX0;have BW:=qH hA;clear hA;have SB:=qH q0;clear q0;have XB:=qH q1;clear q1 hzX0;cases b1
 ·skip
  have d0:¬ q3=0:=of_decide_eq_false hb1;have d1:(q3 == 0)=false:=by rw [beq_eq_false_iff_ne];exact d0
  clear hb1;refine (wpIn_wide (n:=9)).1 ?_;refine Zi (Zk _) 24 (fun X=>Below X0.heap.size X0 X) (by kernel_rfl) (by kernel_rfl) (by kernel_rfl) fun hH inv0=>?_
  have hD:=Below.drew (qK X0.heap.size X0);generalize hXX1:X0.drew=X1 at *;clear hXX1;replace BW:=zAf BW hD;have B_X0:=qH hD;clear hD;refine sk hH (i:=0) (v:=qP (some ⟨w.heap.size+1,3,none⟩)) (Zd rfl) inv0 (fun X hX=>?_) fun inv1=>?_
  ·go_simp
  simp only [qJ,zq4,zr4,zs4];clear inv0;refine sk hH (i:=1) (v:=O qL q3) (Zd rfl) inv1 (fun X hX=>?_) fun inv2=>?_
  ·have hh:=XB.out.below hX XB.out.lt;have t0:=hh.cell (i:=0) rfl;have t1:=hh.cell (i:=1) rfl;have t2:=hh.cell (i:=2) rfl;have t3:=hh.cell (i:=3) rfl;have t4:=hh.cell (i:=4) rfl;have t5:=hh.cell (i:=5) rfl;go_simp
  simp only [qJ,zq4,zr4,zs4];clear inv1;refine sk hH (i:=2) (v:=qB false) (Zd rfl) inv2 (fun X hX=>?_) fun inv3=>?_
  ·go_simp
  simp only [qJ,zq4,zr4,zs4];clear inv2;refine sk hH (i:=3) (v:=qB false) (Zd rfl) inv3 (fun X hX=>?_) fun inv4=>?_
  ·go_simp
  simp only [qJ,zq4,zr4,zs4];clear inv3;refine Zo hH (i:=4) (Zd rfl) (by omega) inv4 (by kernel_rfl) (by kernel_rfl) rfl fun inv5=>?_
  simp only [qJ,zq4,zr4,zs4];clear inv4;refine Zo hH (i:=5) (Zd rfl) (by omega) inv5 (by kernel_rfl) (by kernel_rfl) rfl fun inv6=>?_
  simp only [qJ,zq4,zr4,zs4];clear inv5;refine Zo hH (i:=6) (Zd rfl) (by omega) inv6 (by kernel_rfl) (by kernel_rfl) rfl fun inv7=>?_
  simp only [qJ,zq4,zr4,zs4];clear inv6;refine Zo hH (i:=7) (Zd rfl) (by omega) inv7 (by kernel_rfl) (by kernel_rfl) rfl fun inv8=>?_
  simp only [qJ,zq4,zr4,zs4];clear inv7;refine Zo hH (i:=8) (Zd rfl) (by omega) inv8 (by kernel_rfl) (by kernel_rfl) rfl fun inv9=>?_
  simp only [qJ,zq4,zr4,zs4];clear inv8;refine sk hH (i:=9) (v:=qB false) (Zd rfl) inv9 (fun X hX=>?_) fun inv10=>?_
  ·go_simp
  simp only [qJ,zq4,zr4,zs4];clear inv9;refine sk hH (i:=10) (v:=qB false) (Zd rfl) inv10 (fun X hX=>?_) fun inv11=>?_
  ·go_simp
  simp only [qJ,zq4,zr4,zs4];clear inv10;refine Zo hH (i:=11) (Zd rfl) (by omega) inv11 (by kernel_rfl) (by kernel_rfl) rfl fun inv12=>?_
  simp only [qJ,zq4,zr4,zs4];clear inv11;refine Zo hH (i:=12) (Zd rfl) (by omega) inv12 (by kernel_rfl) (by kernel_rfl) rfl fun inv13=>?_
  simp only [qJ,zq4,zr4,zs4];clear inv12;refine Zo hH (i:=13) (Zd rfl) (by omega) inv13 (by kernel_rfl) (by kernel_rfl) rfl fun inv14=>?_
  simp only [qJ,zq4,zr4,zs4];clear inv13;refine Zo hH (i:=14) (Zd rfl) (by omega) inv14 (by kernel_rfl) (by kernel_rfl) rfl fun inv15=>?_
  simp only [qJ,zq4,zr4,zs4];clear inv14;refine Zo hH (i:=15) (Zd rfl) (by omega) inv15 (by kernel_rfl) (by kernel_rfl) rfl fun inv16=>?_
  simp only [qJ,zq4,zr4,zs4];clear inv15;refine Zo hH (i:=16) (Zd rfl) (by omega) inv16 (by kernel_rfl) (by kernel_rfl) rfl fun inv17=>?_
  simp only [qJ,zq4,zr4,zs4];clear inv16;refine Zo hH (i:=17) (Zd rfl) (by omega) inv17 (by kernel_rfl) (by kernel_rfl) rfl fun inv18=>?_
  simp only [qJ,zq4,zr4,zs4];clear inv17;refine sk hH (i:=18) (v:=qB false) (Zd rfl) inv18 (fun X hX=>?_) fun inv19=>?_
  ·go_simp
  simp only [qJ,zq4,zr4,zs4];clear inv18;refine sk hH (i:=19) (v:=qB false) (Zd rfl) inv19 (fun X hX=>?_) fun inv20=>?_
  ·go_simp
  simp only [qJ,zq4,zr4,zs4];clear inv19;refine Zo hH (i:=20) (Zd rfl) (by omega) inv20 (by kernel_rfl) (by kernel_rfl) rfl fun inv21=>?_
  simp only [qJ,zq4,zr4,zs4];clear inv20;refine Zo hH (i:=21) (Zd rfl) (by omega) inv21 (by kernel_rfl) (by kernel_rfl) rfl fun inv22=>?_
  simp only [qJ,zq4,zr4,zs4];clear inv21;refine Zo hH (i:=22) (Zd rfl) (by omega) inv22 (by kernel_rfl) (by kernel_rfl) rfl fun inv23=>?_
  simp only [qJ,zq4,zr4,zs4];clear inv22;refine sk hH (i:=23) (v:=qB false) (Zd rfl) inv23 (fun X hX=>?_) fun inv24=>?_
  ·go_simp
  simp only [qJ,zq4,zr4,zs4];clear inv23 inv24 hH;refine Zm (by kernel_rfl) B_X0.out ?_
  simp only [List.drop_succ_cons,List.drop_zero];gi_wp2;go_wp2;go_ret;exact⟨by simp,BW.out⟩
 ·skip
  cases b2
  ·skip
   have d0:q3=0:=of_decide_eq_true hb1;have d1:(q3 == 0)=true:=by rw [d0];rfl
   clear hb1;refine (wpIn_wide (n:=9)).1 ?_;refine Zi (Zk _) 24 (fun X=>Below X0.heap.size X0 X) (by kernel_rfl) (by kernel_rfl) (by kernel_rfl) fun hH inv0=>?_
   have hD:=Below.drew (qK X0.heap.size X0);generalize hXX1:X0.drew=X1 at *;clear hXX1;replace BW:=zAf BW hD;have B_X0:=qH hD;clear hD;refine sk hH (i:=0) (v:=qP (some ⟨w.heap.size+1,3,none⟩)) (Zd rfl) inv0 (fun X hX=>?_) fun inv1=>?_
   ·go_simp
   simp only [qJ,zq4,zr4,zs4];clear inv0;refine sk hH (i:=1) (v:=O qL q3) (Zd rfl) inv1 (fun X hX=>?_) fun inv2=>?_
   ·have hh:=XB.out.below hX XB.out.lt;have t0:=hh.cell (i:=0) rfl;have t1:=hh.cell (i:=1) rfl;have t2:=hh.cell (i:=2) rfl;have t3:=hh.cell (i:=3) rfl;have t4:=hh.cell (i:=4) rfl;have t5:=hh.cell (i:=5) rfl;go_simp
   simp only [qJ,zq4,zr4,zs4];clear inv1;refine sk hH (i:=2) (v:=qB true) (Zd rfl) inv2 (fun X hX=>?_) fun inv3=>?_
   ·go_simp
   simp only [qJ,zq4,zr4,zs4];clear inv2;refine sk hH (i:=3) (v:=qB true) (Zd rfl) inv3 (fun X hX=>?_) fun inv4=>?_
   ·go_simp
   simp only [qJ,zq4,zr4,zs4];clear inv3;refine sk hH (i:=4) (v:=qA #[qS a1 m.ways.length (m.ways.length+c1),qS a2 m.home.length (m.home.length+c2),O qL m.start,qS a3 m.rocks.length (m.rocks.length+c3),O qL m.speed,O qL m.part,O qL m.flow,O qL m.idle,O qL m.drive,O qL m.battery,O qL m.deadline,qS ab (rdBU m l).length ((rdBU m l).length+cb),qS aa (rdAU m l).length ((rdAU m l).length+ca),O qL (k:Int)]) (Zd rfl) inv4 (fun X hX=>?_) fun inv5=>?_
   ·have hh:=SB.out.below hX SB.out.lt;obtain⟨s0,s1,s2,s3,s4,s5,s6,s7,s8,s9,s10,s11,s12,s13⟩:=ZJ (m:=m) (k:=k) hh;go_simp
   simp only [qJ,zq4,zr4,zs4];clear inv4;refine sk hH (i:=6) (v:=qP (some ⟨w.heap.size+1,4,none⟩)) (Zd rfl) inv5 (fun X hX=>?_) fun inv6=>?_
   ·go_simp
   simp only [qJ,zq4,zr4,zs4];clear inv5;refine sk hH (i:=7) (v:=qA #[O qL px,O qL py]) (Zd rfl) inv6 (fun X hX=>?_) fun inv7=>?_
   ·have hh:=XB.out.below hX XB.out.lt;have t0:=hh.cell (i:=0) rfl;have t1:=hh.cell (i:=1) rfl;have t2:=hh.cell (i:=2) rfl;have t3:=hh.cell (i:=3) rfl;have t4:=hh.cell (i:=4) rfl;have t5:=hh.cell (i:=5) rfl;go_simp
   simp only [qJ,zq4,zr4,zs4];clear inv6;have inv8:=HeadInv.put2 inv7 (j:=5) (by kernel_rfl) (by omega)
   clear inv7;refine sa1 (r:=5) B_X0.out ?_;refine Zr (Zd rfl) rfl (f:=80) (args:=#[qA #[qS a1 m.ways.length (m.ways.length+c1),qS a2 m.home.length (m.home.length+c2),O qL m.start,qS a3 m.rocks.length (m.rocks.length+c3),O qL m.speed,O qL m.part,O qL m.flow,O qL m.idle,O qL m.drive,O qL m.battery,O qL m.deadline,qS ab (rdBU m l).length ((rdBU m l).length+cb),qS aa (rdAU m l).length ((rdAU m l).length+ca),O qL (k:Int)]]) (by go_simp) (fd.out X1 BW.out) ?_
   rintro e w1 ⟨v1,rfl,p1,b1⟩;refine⟨_,rfl,?_⟩;simp only [qJ,zq4,zr4,zs4];replace BW:=zAf BW b1;replace B_X0:=zAf B_X0 b1;clear b1;have P1:=qH p1;obtain⟨g1,d1,hv1⟩:=P1.out.len;subst hv1;clear p1;have inv9:=HeadInv.put2 inv8 (j:=8) (by kernel_rfl) (by omega)
   clear inv8;refine sa1 (r:=8) B_X0.out ?_;refine Zr (Zd rfl) rfl (f:=81) (args:=#[qS g1 oo.length (oo.length+d1),qA #[O qL px,O qL py]]) (by go_simp) (fh.out w1 _ P1.out) ?_
   rintro e w2 ⟨rfl,b2⟩;refine⟨_,rfl,?_⟩;simp only [qJ,zq4,zr4,zs4];replace BW:=zAf BW b2;replace B_X0:=zAf B_X0 b2;have B_w1:=qH b2;clear b2;refine sk hH (i:=9) (v:=qB false) (Zd rfl) inv9 (fun X hX=>?_) fun inv10=>?_
   ·go_simp
   simp only [qJ,zq4,zr4,zs4];clear inv9;refine sk hH (i:=10) (v:=qB false) (Zd rfl) inv10 (fun X hX=>?_) fun inv11=>?_
   ·go_simp
   simp only [qJ,zq4,zr4,zs4];clear inv10;refine Zo hH (i:=11) (Zd rfl) (by omega) inv11 (by kernel_rfl) (by kernel_rfl) rfl fun inv12=>?_
   simp only [qJ,zq4,zr4,zs4];clear inv11;refine Zo hH (i:=12) (Zd rfl) (by omega) inv12 (by kernel_rfl) (by kernel_rfl) rfl fun inv13=>?_
   simp only [qJ,zq4,zr4,zs4];clear inv12;refine Zo hH (i:=13) (Zd rfl) (by omega) inv13 (by kernel_rfl) (by kernel_rfl) rfl fun inv14=>?_
   simp only [qJ,zq4,zr4,zs4];clear inv13;refine Zo hH (i:=14) (Zd rfl) (by omega) inv14 (by kernel_rfl) (by kernel_rfl) rfl fun inv15=>?_
   simp only [qJ,zq4,zr4,zs4];clear inv14;refine Zo hH (i:=15) (Zd rfl) (by omega) inv15 (by kernel_rfl) (by kernel_rfl) rfl fun inv16=>?_
   simp only [qJ,zq4,zr4,zs4];clear inv15;refine Zo hH (i:=16) (Zd rfl) (by omega) inv16 (by kernel_rfl) (by kernel_rfl) rfl fun inv17=>?_
   simp only [qJ,zq4,zr4,zs4];clear inv16;refine Zo hH (i:=17) (Zd rfl) (by omega) inv17 (by kernel_rfl) (by kernel_rfl) rfl fun inv18=>?_
   simp only [qJ,zq4,zr4,zs4];clear inv17;refine sk hH (i:=18) (v:=qB false) (Zd rfl) inv18 (fun X hX=>?_) fun inv19=>?_
   ·go_simp
   simp only [qJ,zq4,zr4,zs4];clear inv18;refine sk hH (i:=19) (v:=qB false) (Zd rfl) inv19 (fun X hX=>?_) fun inv20=>?_
   ·go_simp
   simp only [qJ,zq4,zr4,zs4];clear inv19;refine Zo hH (i:=20) (Zd rfl) (by omega) inv20 (by kernel_rfl) (by kernel_rfl) rfl fun inv21=>?_
   simp only [qJ,zq4,zr4,zs4];clear inv20;refine Zo hH (i:=21) (Zd rfl) (by omega) inv21 (by kernel_rfl) (by kernel_rfl) rfl fun inv22=>?_
   simp only [qJ,zq4,zr4,zs4];clear inv21;refine Zo hH (i:=22) (Zd rfl) (by omega) inv22 (by kernel_rfl) (by kernel_rfl) rfl fun inv23=>?_
   simp only [qJ,zq4,zr4,zs4];clear inv22;refine sk hH (i:=23) (v:=qB false) (Zd rfl) inv23 (fun X hX=>?_) fun inv24=>?_
   ·go_simp
   simp only [qJ,zq4,zr4,zs4];clear inv23 inv24 hH;refine Zm (by kernel_rfl) B_X0.out ?_
   simp only [List.drop_succ_cons,List.drop_zero];gi_wp2;go_wp2;go_ret;exact⟨by simp,BW.out⟩
  ·skip
   cases b3
   ·skip
    have d0:q3=0:=of_decide_eq_true hb1;have d1:(q3 == 0)=true:=by rw [d0];rfl
    clear hb1;refine (wpIn_wide (n:=9)).1 ?_;refine Zi (Zk _) 24 (fun X=>Below X0.heap.size X0 X) (by kernel_rfl) (by kernel_rfl) (by kernel_rfl) fun hH inv0=>?_
    have hD:=Below.drew (qK X0.heap.size X0);generalize hXX1:X0.drew=X1 at *;clear hXX1;replace BW:=zAf BW hD;have B_X0:=qH hD;clear hD;refine sk hH (i:=0) (v:=qP (some ⟨w.heap.size+1,3,none⟩)) (Zd rfl) inv0 (fun X hX=>?_) fun inv1=>?_
    ·go_simp
    simp only [qJ,zq4,zr4,zs4];clear inv0;refine sk hH (i:=1) (v:=O qL q3) (Zd rfl) inv1 (fun X hX=>?_) fun inv2=>?_
    ·have hh:=XB.out.below hX XB.out.lt;have t0:=hh.cell (i:=0) rfl;have t1:=hh.cell (i:=1) rfl;have t2:=hh.cell (i:=2) rfl;have t3:=hh.cell (i:=3) rfl;have t4:=hh.cell (i:=4) rfl;have t5:=hh.cell (i:=5) rfl;go_simp
    simp only [qJ,zq4,zr4,zs4];clear inv1;refine sk hH (i:=2) (v:=qB true) (Zd rfl) inv2 (fun X hX=>?_) fun inv3=>?_
    ·go_simp
    simp only [qJ,zq4,zr4,zs4];clear inv2;refine sk hH (i:=3) (v:=qB true) (Zd rfl) inv3 (fun X hX=>?_) fun inv4=>?_
    ·go_simp
    simp only [qJ,zq4,zr4,zs4];clear inv3;refine sk hH (i:=4) (v:=qA #[qS a1 m.ways.length (m.ways.length+c1),qS a2 m.home.length (m.home.length+c2),O qL m.start,qS a3 m.rocks.length (m.rocks.length+c3),O qL m.speed,O qL m.part,O qL m.flow,O qL m.idle,O qL m.drive,O qL m.battery,O qL m.deadline,qS ab (rdBU m l).length ((rdBU m l).length+cb),qS aa (rdAU m l).length ((rdAU m l).length+ca),O qL (k:Int)]) (Zd rfl) inv4 (fun X hX=>?_) fun inv5=>?_
    ·have hh:=SB.out.below hX SB.out.lt;obtain⟨s0,s1,s2,s3,s4,s5,s6,s7,s8,s9,s10,s11,s12,s13⟩:=ZJ (m:=m) (k:=k) hh;go_simp
    simp only [qJ,zq4,zr4,zs4];clear inv4;refine sk hH (i:=6) (v:=qP (some ⟨w.heap.size+1,4,none⟩)) (Zd rfl) inv5 (fun X hX=>?_) fun inv6=>?_
    ·go_simp
    simp only [qJ,zq4,zr4,zs4];clear inv5;refine sk hH (i:=7) (v:=qA #[O qL px,O qL py]) (Zd rfl) inv6 (fun X hX=>?_) fun inv7=>?_
    ·have hh:=XB.out.below hX XB.out.lt;have t0:=hh.cell (i:=0) rfl;have t1:=hh.cell (i:=1) rfl;have t2:=hh.cell (i:=2) rfl;have t3:=hh.cell (i:=3) rfl;have t4:=hh.cell (i:=4) rfl;have t5:=hh.cell (i:=5) rfl;go_simp
    simp only [qJ,zq4,zr4,zs4];clear inv6;have inv8:=HeadInv.put2 inv7 (j:=5) (by kernel_rfl) (by omega)
    clear inv7;refine sa1 (r:=5) B_X0.out ?_;refine Zr (Zd rfl) rfl (f:=80) (args:=#[qA #[qS a1 m.ways.length (m.ways.length+c1),qS a2 m.home.length (m.home.length+c2),O qL m.start,qS a3 m.rocks.length (m.rocks.length+c3),O qL m.speed,O qL m.part,O qL m.flow,O qL m.idle,O qL m.drive,O qL m.battery,O qL m.deadline,qS ab (rdBU m l).length ((rdBU m l).length+cb),qS aa (rdAU m l).length ((rdAU m l).length+ca),O qL (k:Int)]]) (by go_simp) (fd.out X1 BW.out) ?_
    rintro e w1 ⟨v1,rfl,p1,b1⟩;refine⟨_,rfl,?_⟩;simp only [qJ,zq4,zr4,zs4];replace BW:=zAf BW b1;replace B_X0:=zAf B_X0 b1;clear b1;have P1:=qH p1;obtain⟨g1,d1,hv1⟩:=P1.out.len;subst hv1;clear p1;have inv9:=HeadInv.put2 inv8 (j:=8) (by kernel_rfl) (by omega)
    clear inv8;refine sa1 (r:=8) B_X0.out ?_;refine Zr (Zd rfl) rfl (f:=81) (args:=#[qS g1 oo.length (oo.length+d1),qA #[O qL px,O qL py]]) (by go_simp) (fh.out w1 _ P1.out) ?_
    rintro e w2 ⟨rfl,b2⟩;refine⟨_,rfl,?_⟩;simp only [qJ,zq4,zr4,zs4];replace BW:=zAf BW b2;replace B_X0:=zAf B_X0 b2;have B_w1:=qH b2;clear b2;refine sk hH (i:=9) (v:=qB true) (Zd rfl) inv9 (fun X hX=>?_) fun inv10=>?_
    ·go_simp
    simp only [qJ,zq4,zr4,zs4];clear inv9;refine sk hH (i:=10) (v:=qB true) (Zd rfl) inv10 (fun X hX=>?_) fun inv11=>?_
    ·go_simp
    simp only [qJ,zq4,zr4,zs4];clear inv10;refine sk hH (i:=11) (v:=qP (some ⟨w.heap.size,0,none⟩)) (Zd rfl) inv11 (fun X hX=>?_) fun inv12=>?_
    ·go_simp
    simp only [qJ,zq4,zr4,zs4];clear inv11;refine sk hH (i:=12) (v:=qP (some ⟨w.heap.size,1,none⟩)) (Zd rfl) inv12 (fun X hX=>?_) fun inv13=>?_
    ·go_simp
    simp only [qJ,zq4,zr4,zs4];clear inv12;refine sk hH (i:=13) (v:=qS a2 m.home.length (m.home.length+c2)) (Zd rfl) inv13 (fun X hX=>?_) fun inv14=>?_
    ·have hh:=SB.out.below hX SB.out.lt;obtain⟨s0,s1,s2,s3,s4,s5,s6,s7,s8,s9,s10,s11,s12,s13⟩:=ZJ (m:=m) (k:=k) hh;go_simp
    simp only [qJ,zq4,zr4,zs4];clear inv13;refine sk hH (i:=14) (v:=qP (some ⟨w.heap.size+1,4,none⟩)) (Zd rfl) inv14 (fun X hX=>?_) fun inv15=>?_
    ·go_simp
    simp only [qJ,zq4,zr4,zs4];clear inv14;refine sk hH (i:=15) (v:=qA #[O qL px,O qL py]) (Zd rfl) inv15 (fun X hX=>?_) fun inv16=>?_
    ·have hh:=XB.out.below hX XB.out.lt;have t0:=hh.cell (i:=0) rfl;have t1:=hh.cell (i:=1) rfl;have t2:=hh.cell (i:=2) rfl;have t3:=hh.cell (i:=3) rfl;have t4:=hh.cell (i:=4) rfl;have t5:=hh.cell (i:=5) rfl;go_simp
    simp only [qJ,zq4,zr4,zs4];clear inv15;have inv17:=HeadInv.put2 inv16 (j:=16) (by kernel_rfl) (by omega)
    clear inv16;refine sa1 (r:=16) B_X0.out ?_;refine Zr (Zd rfl) rfl (f:=81) (args:=#[qS a2 m.home.length (m.home.length+c2),qA #[O qL px,O qL py]]) (by go_simp) (fk.out w2 BW.out) ?_
    rintro e w3 ⟨rfl,b3⟩;refine⟨_,rfl,?_⟩;simp only [qJ,zq4,zr4,zs4];replace BW:=zAf BW b3;replace B_X0:=zAf B_X0 b3;replace B_w1:=zAf B_w1 b3;clear b3;refine sk hH (i:=17) (v:=qB true) (Zd rfl) inv17 (fun X hX=>?_) fun inv18=>?_
    ·go_simp
    simp only [qJ,zq4,zr4,zs4];clear inv17;refine sk hH (i:=18) (v:=qB true) (Zd rfl) inv18 (fun X hX=>?_) fun inv19=>?_
    ·go_simp
    simp only [qJ,zq4,zr4,zs4];clear inv18;refine sk hH (i:=19) (v:=qB true) (Zd rfl) inv19 (fun X hX=>?_) fun inv20=>?_
    ·go_simp
    simp only [qJ,zq4,zr4,zs4];clear inv19;refine sk hH (i:=20) (v:=qP (some ⟨w.heap.size+1,4,none⟩)) (Zd rfl) inv20 (fun X hX=>?_) fun inv21=>?_
    ·go_simp
    simp only [qJ,zq4,zr4,zs4];clear inv20;refine sk hH (i:=21) (v:=qA #[O qL px,O qL py]) (Zd rfl) inv21 (fun X hX=>?_) fun inv22=>?_
    ·have hh:=XB.out.below hX XB.out.lt;have t0:=hh.cell (i:=0) rfl;have t1:=hh.cell (i:=1) rfl;have t2:=hh.cell (i:=2) rfl;have t3:=hh.cell (i:=3) rfl;have t4:=hh.cell (i:=4) rfl;have t5:=hh.cell (i:=5) rfl;go_simp
    simp only [qJ,zq4,zr4,zs4];clear inv21;have inv23:=HeadInv.put2 inv22 (j:=22) (by kernel_rfl) (by omega)
    clear inv22;refine sa1 (r:=22) B_X0.out ?_;refine Zr (Zd rfl) rfl (f:=108) (args:=#[qA #[O qL px,O qL py]]) (by go_simp) (fi.out w3) ?_
    rintro e w4 ⟨rfl,b4⟩;refine⟨_,rfl,?_⟩;simp only [qJ,zq4,zr4,zs4];replace BW:=zAf BW b4;replace B_X0:=zAf B_X0 b4;replace B_w1:=zAf B_w1 b4;clear b4;refine sk hH (i:=23) (v:=qB b4) (Zd rfl) inv23 (fun X hX=>?_) fun inv24=>?_
    ·go_simp
    simp only [qJ,zq4,zr4,zs4];clear inv23 inv24 hH;refine Zm (by kernel_rfl) B_X0.out ?_
    simp only [List.drop_succ_cons,List.drop_zero];gi_wp2;go_wp2;go_ret;exact⟨by simp,BW.out⟩
   ·skip
    have d0:q3=0:=of_decide_eq_true hb1;have d1:(q3 == 0)=true:=by rw [d0];rfl
    clear hb1;refine (wpIn_wide (n:=9)).1 ?_;refine Zi (Zk _) 24 (fun X=>Below X0.heap.size X0 X) (by kernel_rfl) (by kernel_rfl) (by kernel_rfl) fun hH inv0=>?_
    have hD:=Below.drew (qK X0.heap.size X0);generalize hXX1:X0.drew=X1 at *;clear hXX1;replace BW:=zAf BW hD;have B_X0:=qH hD;clear hD;refine sk hH (i:=0) (v:=qP (some ⟨w.heap.size+1,3,none⟩)) (Zd rfl) inv0 (fun X hX=>?_) fun inv1=>?_
    ·go_simp
    simp only [qJ,zq4,zr4,zs4];clear inv0;refine sk hH (i:=1) (v:=O qL q3) (Zd rfl) inv1 (fun X hX=>?_) fun inv2=>?_
    ·have hh:=XB.out.below hX XB.out.lt;have t0:=hh.cell (i:=0) rfl;have t1:=hh.cell (i:=1) rfl;have t2:=hh.cell (i:=2) rfl;have t3:=hh.cell (i:=3) rfl;have t4:=hh.cell (i:=4) rfl;have t5:=hh.cell (i:=5) rfl;go_simp
    simp only [qJ,zq4,zr4,zs4];clear inv1;refine sk hH (i:=2) (v:=qB true) (Zd rfl) inv2 (fun X hX=>?_) fun inv3=>?_
    ·go_simp
    simp only [qJ,zq4,zr4,zs4];clear inv2;refine sk hH (i:=3) (v:=qB true) (Zd rfl) inv3 (fun X hX=>?_) fun inv4=>?_
    ·go_simp
    simp only [qJ,zq4,zr4,zs4];clear inv3;refine sk hH (i:=4) (v:=qA #[qS a1 m.ways.length (m.ways.length+c1),qS a2 m.home.length (m.home.length+c2),O qL m.start,qS a3 m.rocks.length (m.rocks.length+c3),O qL m.speed,O qL m.part,O qL m.flow,O qL m.idle,O qL m.drive,O qL m.battery,O qL m.deadline,qS ab (rdBU m l).length ((rdBU m l).length+cb),qS aa (rdAU m l).length ((rdAU m l).length+ca),O qL (k:Int)]) (Zd rfl) inv4 (fun X hX=>?_) fun inv5=>?_
    ·have hh:=SB.out.below hX SB.out.lt;obtain⟨s0,s1,s2,s3,s4,s5,s6,s7,s8,s9,s10,s11,s12,s13⟩:=ZJ (m:=m) (k:=k) hh;go_simp
    simp only [qJ,zq4,zr4,zs4];clear inv4;refine sk hH (i:=6) (v:=qP (some ⟨w.heap.size+1,4,none⟩)) (Zd rfl) inv5 (fun X hX=>?_) fun inv6=>?_
    ·go_simp
    simp only [qJ,zq4,zr4,zs4];clear inv5;refine sk hH (i:=7) (v:=qA #[O qL px,O qL py]) (Zd rfl) inv6 (fun X hX=>?_) fun inv7=>?_
    ·have hh:=XB.out.below hX XB.out.lt;have t0:=hh.cell (i:=0) rfl;have t1:=hh.cell (i:=1) rfl;have t2:=hh.cell (i:=2) rfl;have t3:=hh.cell (i:=3) rfl;have t4:=hh.cell (i:=4) rfl;have t5:=hh.cell (i:=5) rfl;go_simp
    simp only [qJ,zq4,zr4,zs4];clear inv6;have inv8:=HeadInv.put2 inv7 (j:=5) (by kernel_rfl) (by omega)
    clear inv7;refine sa1 (r:=5) B_X0.out ?_;refine Zr (Zd rfl) rfl (f:=80) (args:=#[qA #[qS a1 m.ways.length (m.ways.length+c1),qS a2 m.home.length (m.home.length+c2),O qL m.start,qS a3 m.rocks.length (m.rocks.length+c3),O qL m.speed,O qL m.part,O qL m.flow,O qL m.idle,O qL m.drive,O qL m.battery,O qL m.deadline,qS ab (rdBU m l).length ((rdBU m l).length+cb),qS aa (rdAU m l).length ((rdAU m l).length+ca),O qL (k:Int)]]) (by go_simp) (fd.out X1 BW.out) ?_
    rintro e w1 ⟨v1,rfl,p1,b1⟩;refine⟨_,rfl,?_⟩;simp only [qJ,zq4,zr4,zs4];replace BW:=zAf BW b1;replace B_X0:=zAf B_X0 b1;clear b1;have P1:=qH p1;obtain⟨g1,d1,hv1⟩:=P1.out.len;subst hv1;clear p1;have inv9:=HeadInv.put2 inv8 (j:=8) (by kernel_rfl) (by omega)
    clear inv8;refine sa1 (r:=8) B_X0.out ?_;refine Zr (Zd rfl) rfl (f:=81) (args:=#[qS g1 oo.length (oo.length+d1),qA #[O qL px,O qL py]]) (by go_simp) (fh.out w1 _ P1.out) ?_
    rintro e w2 ⟨rfl,b2⟩;refine⟨_,rfl,?_⟩;simp only [qJ,zq4,zr4,zs4];replace BW:=zAf BW b2;replace B_X0:=zAf B_X0 b2;have B_w1:=qH b2;clear b2;refine sk hH (i:=9) (v:=qB true) (Zd rfl) inv9 (fun X hX=>?_) fun inv10=>?_
    ·go_simp
    simp only [qJ,zq4,zr4,zs4];clear inv9;refine sk hH (i:=10) (v:=qB true) (Zd rfl) inv10 (fun X hX=>?_) fun inv11=>?_
    ·go_simp
    simp only [qJ,zq4,zr4,zs4];clear inv10;refine sk hH (i:=11) (v:=qP (some ⟨w.heap.size,0,none⟩)) (Zd rfl) inv11 (fun X hX=>?_) fun inv12=>?_
    ·go_simp
    simp only [qJ,zq4,zr4,zs4];clear inv11;refine sk hH (i:=12) (v:=qP (some ⟨w.heap.size,1,none⟩)) (Zd rfl) inv12 (fun X hX=>?_) fun inv13=>?_
    ·go_simp
    simp only [qJ,zq4,zr4,zs4];clear inv12;refine sk hH (i:=13) (v:=qS a2 m.home.length (m.home.length+c2)) (Zd rfl) inv13 (fun X hX=>?_) fun inv14=>?_
    ·have hh:=SB.out.below hX SB.out.lt;obtain⟨s0,s1,s2,s3,s4,s5,s6,s7,s8,s9,s10,s11,s12,s13⟩:=ZJ (m:=m) (k:=k) hh;go_simp
    simp only [qJ,zq4,zr4,zs4];clear inv13;refine sk hH (i:=14) (v:=qP (some ⟨w.heap.size+1,4,none⟩)) (Zd rfl) inv14 (fun X hX=>?_) fun inv15=>?_
    ·go_simp
    simp only [qJ,zq4,zr4,zs4];clear inv14;refine sk hH (i:=15) (v:=qA #[O qL px,O qL py]) (Zd rfl) inv15 (fun X hX=>?_) fun inv16=>?_
    ·have hh:=XB.out.below hX XB.out.lt;have t0:=hh.cell (i:=0) rfl;have t1:=hh.cell (i:=1) rfl;have t2:=hh.cell (i:=2) rfl;have t3:=hh.cell (i:=3) rfl;have t4:=hh.cell (i:=4) rfl;have t5:=hh.cell (i:=5) rfl;go_simp
    simp only [qJ,zq4,zr4,zs4];clear inv15;have inv17:=HeadInv.put2 inv16 (j:=16) (by kernel_rfl) (by omega)
    clear inv16;refine sa1 (r:=16) B_X0.out ?_;refine Zr (Zd rfl) rfl (f:=81) (args:=#[qS a2 m.home.length (m.home.length+c2),qA #[O qL px,O qL py]]) (by go_simp) (fk.out w2 BW.out) ?_
    rintro e w3 ⟨rfl,b3⟩;refine⟨_,rfl,?_⟩;simp only [qJ,zq4,zr4,zs4];replace BW:=zAf BW b3;replace B_X0:=zAf B_X0 b3;replace B_w1:=zAf B_w1 b3;clear b3;refine sk hH (i:=17) (v:=qB false) (Zd rfl) inv17 (fun X hX=>?_) fun inv18=>?_
    ·go_simp
    simp only [qJ,zq4,zr4,zs4];clear inv17;refine sk hH (i:=18) (v:=qB false) (Zd rfl) inv18 (fun X hX=>?_) fun inv19=>?_
    ·go_simp
    simp only [qJ,zq4,zr4,zs4];clear inv18;refine sk hH (i:=19) (v:=qB false) (Zd rfl) inv19 (fun X hX=>?_) fun inv20=>?_
    ·go_simp
    simp only [qJ,zq4,zr4,zs4];clear inv19;refine Zo hH (i:=20) (Zd rfl) (by omega) inv20 (by kernel_rfl) (by kernel_rfl) rfl fun inv21=>?_
    simp only [qJ,zq4,zr4,zs4];clear inv20;refine Zo hH (i:=21) (Zd rfl) (by omega) inv21 (by kernel_rfl) (by kernel_rfl) rfl fun inv22=>?_
    simp only [qJ,zq4,zr4,zs4];clear inv21;refine Zo hH (i:=22) (Zd rfl) (by omega) inv22 (by kernel_rfl) (by kernel_rfl) rfl fun inv23=>?_
    simp only [qJ,zq4,zr4,zs4];clear inv22;refine sk hH (i:=23) (v:=qB false) (Zd rfl) inv23 (fun X hX=>?_) fun inv24=>?_
    ·go_simp
    simp only [qJ,zq4,zr4,zs4];clear inv23 inv24 hH;refine Zm (by kernel_rfl) B_X0.out ?_
    simp only [List.drop_succ_cons,List.drop_zero];gi_wp2;go_wp2;go_ret;exact⟨by simp,BW.out⟩
attribute [local go_sem] Oper.semAt_some
theorem Z7S {m:Msn} {l:List Int} {k:Nat} {x:Pt} {j:Nat} (hj:j<dep m (k+1)) (h:hasB (bkP m l k j) x=true):bkAny m l k x=true:=List.any_eq_true.2 ⟨j,List.mem_range.2 hj,h⟩
theorem ZbF {m:Msn} {l:List Int} {k:Nat} {x:Pt} (h:∀ j,j<dep m (k+1)->hasB (bkP m l k j) x=false):bkAny m l k x=false:=by
 unfold bkAny;rw [List.any_eq_false];intro j hj;rw [h j (List.mem_range.1 hj)];simp
theorem Z6l (m:Msn) (l:List Int) (vw vh vr vb va:Value) (w:World) (T:StgAt w.heap.size w m l vw vh vr vb va) (V:VMsn m) (k:Nat) (hk:k+1<m.ways.length) (vs:Value) (q1 q2 q3:Int) (x:Pt) :
  Calls Tryz.prog 55 #[qA (stgC m vw vh vr vb va k),qA #[vs,O qL q1,O qL q2,O qL q3,O qL x.x,O qL x.y]] w fun e w'=>e=.returned (qB (bkAny m l k x && onR m q3 x))/\Below w.heap.size w w':=by
 have fs:=fun (W0:World) (Bs:Nat) (q:Nat->Prop) (B:Below w.heap.size w W0) (HB:Has W0 Bs (stgC m vw vh vr vb va k) 81) (hq:∀ b,q b->b<W0.heap.size/\b≠Bs)=>Z5a m l vw vh vr vb va k w.heap.size q Bs W0 (T.low B) V hk B.size HB hq
 have fr:=fun (W:World) (B:Below w.heap.size w W)=>Z37 m l vw vh vr vb va W (T.up B) k vs q1 q2 q3 x
 have fh:=fun (W:World) v j h=>Z1t v (bkP m l k j) x W h
 have hbX:∀ v j,bkX m l k (v,j)=#[v,O qL (bkR m (k+1) (rdB m l (k+1)) (j+1))]:=fun _ _=>rfl
 have hy:∀ j,j<dep m (k+1)->hasB (bkP m l k j) x=true->bkAny m l k x=true:=fun j h1 h2=>Z7S h1 h2
 have hno:(∀ j,j<dep m (k+1)->hasB (bkP m l k j) x=false)->bkAny m l k x=false:=ZbF;obtain⟨-,ab,cb,rfl,-⟩:=T.bef;obtain⟨-,aa,ca,rfl,-⟩:=T.aft;obtain⟨⟨-,a1,c1,rfl,hcw⟩,⟨-,a2,c2,rfl,-⟩,⟨-,a3,c3,rfl,hcr⟩⟩:=T.msn;clear T hcw hcr V;unfold stgC at *;obtain⟨px,py⟩:=x;simp only at fr fh ⊢;obtain⟨f,hf⟩:∃ f:Nat->Bool,(fun j=>hasB (bkP m l k j) ⟨px,py⟩)=f:=⟨_,rfl⟩
 have hff:∀ j,hasB (bkP m l k j) ⟨px,py⟩=f j:=fun j=>by rw [<- hf]
 simp only [hff] at hy hno fh;clear hf hff;generalize bkAny m l k ⟨px,py⟩=ba at *;generalize onR m q3 ⟨px,py⟩=br at *;replace fr:=qH fr;replace fh:=qH fh;replace fs:=qH fs;replace hbX:=qH hbX;replace hy:=qH hy;replace hno:=qH hno;have BW:=qH (qK w.heap.size w);refine (callsIn_wide (n:=9)).1 ?_;refine callsIn_of_wp_marks Tryz.func55 rfl trivial ?_ rfl;simp only [Tryz.ntmps55,List.size_toArray,List.length_cons,List.length_nil,Nat.reduceAdd,Nat.reduceSub,Array.replicate_succ,Array.replicate_zero,List.push_toArray,List.append_toArray,List.nil_append,List.cons_append];refine wpIn_wide.2 ?_;go_upto_region 1 with fail
 generalize hXX0:qV (qV (qV w _) _) _=X0;obtain⟨q0,q1,q2,hA,hzX0⟩:=box3 hXX0;clear hXX0;have BW:=qH hA;clear hA;have SB:=qH q0;clear q0;have XB:=qH q1;clear q1;have RB:=qH q2;clear q2;have hS1:=SB.out;obtain⟨s0,s1,s2,s3,s4,s5,s6,s7,s8,s9,s10,s11,s12,s13⟩:=ZJ (m:=m) (k:=k) hS1;clear hS1;have HZ0:=qH hzX0;clear hzX0;go_wp2_with fail;refine (Z3a m _ _ _ _ _ k X0).mono ?_;rintro e W0 ⟨rfl,hW0⟩;obtain⟨BB,hA0,hz0⟩:=box1 hW0.symm;clear hW0 s0 s1 s2 s3 s4 s5 s6 s7 s8 s9 s10 s11 s12 s13;have zz0:w.heap.size+3=X0.heap.size:=HZ0.out.symm;have zz2:X0.heap.size<W0.heap.size:=by omega
 have zz3:w.heap.size+3<=X0.heap.size:=by omega
 clear hz0;have BW0:=zAf BW hA0;have SB0:=qH (SB.out.below hA0 (by omega))
 have XB0:=qH (XB.out.below hA0 (by omega))
 have RB0:=qH (RB.out.below hA0 (by omega))
 clear zz0;have hseq:=fs.out W0 X0.heap.size (fun _=>False) BW0.out BB (fun b hb=>hb.elim)
 clear hA0 BB;go_wp2;refine (wpIn_wide (n:=9)).1 ?_;refine Z1J (by omega) (gf:=141) (lb:=#[qP (some ⟨X0.heap.size,0,none⟩)]) rfl (enters_of Tryz.func141 (by kernel_rfl) rfl) hseq bkH.put (fun h k=>bkK.trans h k) (fun W o o' h1 h2=>bkK.put W o o' (by omega) h1 h2) (qK _ _) (fun _=>rfl)
  (fun pre W=>(∀ y:Value × Nat,y ∈ pre->f y.2=false)/\Below W0.heap.size W0 W)
  (fun c s W=>(c=.ret/\∃ (s0:List (Value × Nat)) (x:Value × Nat),s=s0++[x]/\(∀ y:Value × Nat,y ∈ s0->f y.2=false)/\f x.2=true)/\Has W (w.heap.size+1+1) #[qB br] 4/\Below w.heap.size w W)
  (OwnD.and (OwnD.pure (fun pre=>∀ y:Value × Nat,y ∈ pre->f y.2=false)) (OwnD.below W0 (qN _) (qN _) (fun _ _ h=>h.elim))) (fun c=>OwnD.and (OwnD.pure (fun s=>c=.ret/\∃ (s0:List (Value × Nat)) (x:Value × Nat),s=s0++[x]/\(∀ y:Value × Nat,y ∈ s0->f y.2=false)/\f x.2=true)) (OwnD.and (OwnD.has (w.heap.size+1+1) (fun _ h=>h) (fun _=>#[qB br]) 4) (OwnD.below w (qN _) (by omega) (fun _ _ h=>h.elim)))) ⟨(fun y hy=>by cases hy),qK _ _⟩ ?round ?done ?stop
 case round =>
  rintro ll rm pre ⟨v,j⟩ W hll hI0 hx hsz;obtain⟨a9,c9,hv9⟩:=hx.1.len;simp only at hv9;subst hv9;rw [hbX.out];clear hseq;gi_wp2;refine⟨trivial,?_⟩;rintro V9 ⟨r9,hr9'⟩ ⟨hI1,hI2⟩ hx9 hz9;have HP:=qH hx9.1;have HI:=qH (And.intro hI1 hI2);have hz8:=hI2.size;have BV:=zAf BW0 hI2;have hO9:=XB0.out.below hI2 (by omega)
  have o4:=hO9.cell (i:=4) rfl;have o5:=hO9.cell (i:=5) rfl;clear hI0 hx hI1 hI2 hx9 hr9' hO9;have HL:=qH hll;clear hll;have g4:=qH (fh.out V9 _ j HP.out);cases hfj:f j
  ·rw [hfj] at g4
   have HJ:=qH hfj;clear hfj
   gi_wp2_with fail
   refine⟨trivial,(fun h=>by cases h),(CallsIn.inRound ll (callsIn_wide.2 g4.out)).mono ?_⟩
   rintro e W4 ⟨rfl,b4⟩;have B4:=qH b4;clear b4 o4 o5 g4;gi_wp2;refine⟨Z3u B4.out,bkK.low B4.out (by omega),?_,HI.out.2.trans (B4.out.mono HI.out.2.size)⟩
   intro y hy;rcases List.mem_append.1 hy with h | h
   ·exact HI.out.1 y h
   ·rw [List.mem_singleton.1 h];exact HJ.out
  ·rw [hfj] at g4
   have HJ:=qH hfj;clear hfj
   gi_wp2_with fail
   refine⟨trivial,(fun h=>by cases h),(CallsIn.inRound ll (callsIn_wide.2 g4.out)).mono ?_⟩
   rintro e W4 ⟨rfl,b4⟩;have B4:=qH b4;clear b4 o4 o5 g4;have I4:=qH (HI.out.2.trans (B4.out.mono HI.out.2.size));have BV4:=qH (BW0.out.trans (I4.out.mono BW0.out.size));have hS9:=SB0.out.below I4.out (by omega)
   have hO9:=XB0.out.below I4.out (by omega)
   obtain⟨s0,s1,s2,s3,s4,s5,s6,s7,s8,s9,s10,s11,s12,s13⟩:=ZJ (m:=m) (k:=k) hS9;have t0:=hO9.cell (i:=0) rfl;have t1:=hO9.cell (i:=1) rfl;have t2:=hO9.cell (i:=2) rfl;have t3:=hO9.cell (i:=3) rfl;have t4:=hO9.cell (i:=4) rfl;have t5:=hO9.cell (i:=5) rfl;clear hS9 hO9;have g5:=qH (fr.out W4 BV4.out)
   gi_wp2_with fail
   refine⟨trivial,(fun h=>by cases h),(CallsIn.inRound ll (callsIn_wide.2 g5.out)).mono ?_⟩
   rintro e W6 ⟨rfl,b6⟩;have B6:=qH b6;clear b6 s0 s1 s2 s3 s4 s5 s6 s7 s8 s9 s10 s11 s12 s13 t0 t1 t2 t3 t4 t5 g5;have I6:=qH (I4.out.trans (B6.out.mono I4.out.size));have hR6:=RB0.out.below I6.out (by omega)
   have r0:=hR6.cell (i:=0) rfl;have r1:=Ze hR6 0;have H6:=qH hR6;clear hR6;have z4:=B4.out.size;have z6:=B6.out.size;gi_wp2;have hO1:=H6.out.set 0 (qB br);simp only [zq4,zr4,zs4] at hO1;refine⟨(Z3u (B4.out.trans (B6.out.mono z4))).trans (KeepsFrom.of_grownBy (ZQ W6 (w.heap.size+1+1) 0 _) (fun j e=>by cases e;omega)),⟨rfl,pre,_,rfl,HI.out.1,HJ.out⟩,hO1,?_⟩
   exact grown_low' (BW0.out.trans (I6.out.mono BW0.out.size)) (ZQ W6 (w.heap.size+1+1) 0 _) (by omega) (qN _)
 case stop =>
  rintro D c s W5 hD ⟨j,hj,hs⟩ ⟨⟨rfl,s0,x,hs0,ha,hx⟩,hI1,hI2⟩ hK;obtain⟨p1,p2,p3⟩:=Z43 hs hj hs0 ha hx;have y1:=(hI1.putO (.deferred none) hK rfl).cell (i:=0) rfl;have HF:=qH (And.intro (hy.out _ p1 p2) (Z1p hI2 (.deferred none) (show w.heap.size<=D by omega) (qN _)))
  have HK:=qH hK;have HY:=qH y1;clear hI1 hI2 hK hseq hs hs0 ha hx p1 p2 p3 y1;refine wpIn_wide.2 ?_;go_wp2;refine⟨by simp,.inl ⟨_,_,rfl,run_takeDeferred HK.out,?_⟩⟩
  exact⟨qB br,by simp [results,Tryz.f55,go_sem,HY.out],by rw [HF.out.1];simp,HF.out.2⟩
 case done =>
  rintro D xs W5 hD hxs ⟨hI1,hI2⟩ hK;have AL:=qH (hno.out (Z7C hxs hI1));have hR:=RB0.out.below hI2 (by omega)
  have y0:=hR.cell (i:=0) rfl;have y1:=Ze hR 0;have hz5:=hI2.size;have HI:=qH (And.intro hI2 (And.intro hR hK));clear hI1 hI2 hK hseq hxs hR;go_wp2;have hO1:=HI.out.2.1.set 0 (qB false);simp only [zq4,zr4,zs4] at hO1;have hK2:(W5.setCell ⟨(w.heap.size+1+1),0,none⟩ (qB false)).heap[D]?=some (.deferred (some [])):=(Below.heap_setCell W5 ⟨(w.heap.size+1+1),0,none⟩ _ D (by show D≠(w.heap.size+1+1);omega)).trans HI.out.2.2
  have y2:=(hO1.putO (.deferred none) hK2 rfl).cell (i:=0) rfl;refine⟨by simp,.inl ⟨_,_,rfl,run_takeDeferred hK2,?_⟩⟩
  exact⟨qB false,by simp [results,Tryz.f55,go_sem,y2],by rw [AL.out];simp,Z1p (BW0.out.trans (grown_low' (HI.out.1.mono BW0.out.size) (ZQ W5 (w.heap.size+1+1) 0 _) (by omega) BW0.out.size)) (.deferred none) (by omega) (qN _)⟩
end
section
attribute [local irreducible] wpQuiet
open Go.RowKit
theorem ZbX {m:Msn} {a:Nat} {r:Int}:∀ n,bkC m a r n=false->∃ j,j<n/\clrB m (itB m a j) (bkR m a r j) (itB m a (j+1)) (bkR m a r (j+1))=false
 | 0,h=>by simp [bkC] at h
 | n + 1, h => by
  simp only [bkC,Bool.and_eq_false_iff] at h;rcases h with h | h
  ·obtain⟨j,h1,h2⟩:=ZbX n h
   exact⟨j,by omega,h2⟩
  ·exact⟨n,by omega,h⟩
theorem Z5H {m:Msn} {l:List Int} {k:Nat} (h:kindV m l k=1):firB (ownC m l k) m.rocks=true:=by
 by_cases h1:clrB m k (rdA m l k) (k+1) (rdB m l (k+1))=false
 ·simpa [clrB,ownC] using h1
 ·unfold kindV at h
  rw [if_neg h1] at h
  repeat' (split at h)
  all_goals omega
theorem Z9x {m:Msn} {l:List Int} {k:Nat} (h:kindV m l k=5):∃ j,j<dep m (k+1)/\firB (bkP m l k j) m.rocks=true:=by
 unfold kindV at h
 split at h
 ·omega
 split at h
 ·rename_i h2
  obtain⟨j,h3,h4⟩:=ZbX _ h2;exact⟨j,h3,by simpa [clrB,bkP] using h4⟩
 ·repeat' (split at h)
  all_goals omega
theorem Z61 {l m:List Pt}:∀ k,(∀ j,j<k->hasB m (nth l j)=true)->(cornersTo l m k).length=k
 | 0,_=>rfl
 | k + 1, h => by
  have ih:=Z61 k (fun j hj=>h j (by omega))
  simp only [cornersTo,if_pos (h k (by omega)),List.length_append,List.length_singleton,ih]
theorem hm_eq {m:Msn} (V:VMsn m) {r:Int} (h:0<=r/\r<=100000):shL (dskL r) (atW m 0)=mvL (atW m 0) (Z4 r.toNat)/\Zb (mvL (atW m 0) (Z4 r.toNat))=true:=by
 have hr:radOk r=true:=by simp [radOk,h]
 have hd:dskL r=Z4 r.toNat:=by simp [dskL,hr]
 have c:=Z4r V (a:=0) (b:=0) (by have:=V.n2;omega) (by have:=V.n2;omega) h h
 obtain⟨⟨hp,-⟩,ha,-⟩:=Z1m c;have G:=Z1C (n:=r.toNat) (by omega)
 have hv:Zb (Z4 r.toNat)=true:=by simpa [Zb] using G
 have e2:shE (dskL r) (atW m 0)=0:=by rw [hd];simp [shE,hv,hp,ha]
 exact⟨by simp only [shL,e2,if_true];rw [hd],by rw [Z1B _ G];exact ha⟩
theorem ZbL {m:Msn} (V:VMsn m) {l:List Int} {k:Nat} (hk:k+1<m.ways.length):hmP m l k=mvL (atW m 0) (Z4 (hmR m l k).toNat):=(hm_eq V (bk_bd V l hk (qN _))).1
theorem Z9w {m:Msn} (V:VMsn m) {l:List Int} {k:Nat} (hk:k+1<m.ways.length) (h:kindV m l k=2):¬ ∀ x ∈ hmP m l k,hasB m.home x=true:=by
 intro ha;unfold kindV at h
 split at h
 ·omega
 split at h
 ·omega
 split at h
 ·rename_i h2
  rw [ZbL V hk] at ha;unfold lieB at h2;rw [decide_eq_false_iff_not] at h2;refine h2 (Z61 _ fun j hj=>ha _ ?_)
  rw [Z4P hj];exact List.getElem_mem _
 ·repeat' (split at h)
  all_goals omega
def ShowQ (m:Msn) (l:List Int) (k:Nat) (K:Int) (v:Value) (cs:Array Value) (er:Int):Prop :=
 (K=1/\cs=outC m v k 1 (ownC m l k)/\er=outE m (ownC m l k)/\firB (ownC m l k) m.rocks=true) \/
 (K=5/\∃ j,j<dep m (k+1)/\firB (bkP m l k j) m.rocks=true/\cs=outC m v k 5 (bkP m l k j)/\er=outE m (bkP m l k j)) \/
 (K=2/\er=0/\∃ x ∈ hmP m l k,hasB m.home x=false/\cs=#[v,O qL (k:Int),O qL 2,O qL 0,O qL x.x,O qL x.y]) \/
 ((K=3\/K=4)/\er=0/\cs=#[v,O qL (k:Int),O qL K,O qL 0,O qL 0,O qL 0])
theorem ShowQ.shape {m:Msn} {l:List Int} {k:Nat} {K:Int} {v:Value} {cs:Array Value} {er:Int} (h:ShowQ m l k K v cs er):∃ a b c,cs=#[v,O qL (k:Int),O qL K,O qL a,O qL b,O qL c]:=by
 rcases h with⟨rfl,rfl,-,-⟩ | ⟨rfl,j,-,-,rfl,-⟩ | ⟨rfl,-,x,-,-,rfl⟩ | ⟨-,-,rfl⟩
 ·exact⟨_,_,_,rfl⟩
 ·exact⟨_,_,_,rfl⟩
 ·exact⟨_,_,_,rfl⟩
 ·exact⟨_,_,_,rfl⟩
def ShowR (m:Msn) (l:List Int) (k:Nat) (K:Int) (v:Value) (Bo:Nat) (w:World) (e:Ending) (w':World):Prop :=
 ∃ cs er,e=.returned (O qL er)/\ShowQ m l k K v cs er/\Has w' Bo cs 38/\w.grownBy w' (some Bo)
theorem Z5j (m:Msn) (l:List Int) (vw vh vr vb va:Value) (w:World) (T:StgAt w.heap.size w m l vw vh vr vb va) (V:VMsn m) (k:Nat) (hk:k+1<m.ways.length) (Bo:Nat) (v:Value) (HO:Has w Bo #[v,O qL (k:Int),O qL 1,O qL 0,O qL 0,O qL 0] 38) (hK:kindV m l k=1):Calls Tryz.prog 34 #[qA (stgC m vw vh vr vb va k),qP (some ⟨Bo,0,none⟩)] w (ShowR m l k 1 v Bo w) :=
 (Z4B m l vw vh vr vb va w T V k hk Bo v k 1 0 0 0 HO (Z5H hK)).mono fun _ _ ⟨h1,h2,h3⟩=>⟨_,_,h1,.inl ⟨rfl,rfl,rfl,Z5H hK⟩,h2,h3⟩
theorem Z5l (m:Msn) (l:List Int) (vw vh vr vb va:Value) (w:World) (T:StgAt w.heap.size w m l vw vh vr vb va) (V:VMsn m) (k:Nat) (hk:k+1<m.ways.length) (Bo:Nat) (v:Value) (HO:Has w Bo #[v,O qL (k:Int),O qL 5,O qL 0,O qL 0,O qL 0] 38) (hK:kindV m l k=5):Calls Tryz.prog 35 #[qA (stgC m vw vh vr vb va k),qP (some ⟨Bo,0,none⟩)] w (ShowR m l k 5 v Bo w) :=
 (Z4D m l vw vh vr vb va w T V k hk Bo v k 5 0 0 0 HO).mono fun e w' h=>by
  rcases h with⟨h,-,-⟩ | ⟨j,h1,-,h3,h4,h5,h6⟩
  ·obtain⟨j,h1,h2⟩:=Z9x hK
   rw [h j h1] at h2;cases h2
  ·exact⟨_,_,h4,.inr (.inl ⟨rfl,j,h1,h3,rfl,rfl⟩),h5,h6⟩
theorem Z5k (m:Msn) (l:List Int) (vw vh vr vb va:Value) (w:World) (T:StgAt w.heap.size w m l vw vh vr vb va) (V:VMsn m) (k:Nat) (hk:k+1<m.ways.length) (Bo:Nat) (v:Value) (HO:Has w Bo #[v,O qL (k:Int),O qL 2,O qL 0,O qL 0,O qL 0] 38) (hK:kindV m l k=2):Calls Tryz.prog 36 #[qA (stgC m vw vh vr vb va k),qP (some ⟨Bo,0,none⟩)] w (ShowR m l k 2 v Bo w) :=
 (Z4C m l vw vh vr vb va w T V k hk Bo v k 2 0 0 0 HO).mono fun e w' h=>by
  obtain⟨h0,⟨h,-⟩ | ⟨x,h1,h2,h3,h4⟩⟩:=h
  ·exact (Z9w V hk hK h).elim
  ·exact⟨_,_,h0,.inr (.inr (.inl ⟨rfl,rfl,x,h1,h2,rfl⟩)),h3,h4⟩
def fnR (v:Value):Option (DataW Value × List MemPlace):=some (.held v,[])
theorem Z3M {n:Nat} {A B:World} (h:Below n A B):∃ C,C=B/\Below n A C:=⟨B,rfl,h⟩
theorem ZT {v f:Value} {d:DataW Value} {ps:List MemPlace} (h:fnR v=some (d,ps)) (hd:d=.held f):v=f:=by
 subst hd;simp only [fnR,Option.some.injEq,Prod.mk.injEq,DataW.held.injEq] at h;exact h.1
end
end Go.Proofs.YthipcinibldgnaaGreat
