/- package scene: inOwn, notHome, inBack. | The best stops: plain laws. No program here. -/
import Derived.Test.YtdolkgihppgpcaaGreatBin31
set_option linter.unusedSimpArgs false
set_option linter.unusedVariables false
set_option maxRecDepth 8000
set_option maxHeartbeats 6400000
namespace Go.Proofs.YtdolkgihppgpcaaGreat
section
attribute [local irreducible] wpQuiet
open Go.RowKit
noncomputable def inO (m:Msn) (l:List Int) (k:Nat) (r:Int) (x:Pt):Bool:=onR m r x && hasB (ownC m l k) x
noncomputable def ntH (m:Msn) (l:List Int) (k:Nat) (r:Int) (x:Pt):Bool:=decide (r=0) && (hasB (hmP m l k) x && (!hasB m.home x && insB x))
noncomputable def bkAny (m:Msn) (l:List Int) (k:Nat) (x:Pt):Bool:=(List.range (dep m (k+1))).any fun j=>hasB (bkP m l k j) x
theorem Z6m (m:Msn) (l:List Int) (vw vh vr vb va:Value) (w:World) (T:StgAt w.heap.size w m l vw vh vr vb va) (V:VMsn m) (k:Nat) (hk:k+1<m.ways.length) (vs:Value) (q1 q2 q3:Int) (x:Pt) :
  Calls Tryz.prog 31 #[.agg (stgC m vw vh vr vb va k),.agg #[vs,.int .i64 q1,.int .i64 q2,.int .i64 q3,.int .i64 x.x,.int .i64 x.y]] w fun e w'=>e=.returned (.bool (inO m l k q3 x))∧Below w.heap.size w w':=by
 have n41:=V.n41;have fr:=fun (W:World) (B:Below w.heap.size w W)=>Z2l m l vw vh vr vb va W (T.up B) k vs q1 q2 q3 x
 have fo:=fun (W:World) (B:Below w.heap.size w W)=>Z5J m l vw vh vr vb va W (T.up B) k hk n41
 have fh:=fun (W:World) v h=>Z0Z v (ownC m l k) x W h
 unfold inO;obtain⟨-,ab,cb,rfl,-⟩:=T.bef;obtain⟨-,aa,ca,rfl,-⟩:=T.aft;obtain⟨⟨-,a1,c1,rfl,hcw⟩,⟨-,a2,c2,rfl,-⟩,⟨-,a3,c3,rfl,hcr⟩⟩:=T.msn;clear T hcw hcr V;unfold stgC PtsQ at *;obtain⟨px,py⟩:=x;simp only at fr fh ⊢;generalize onR m q3 ⟨px,py⟩=b1 at *;generalize hasB (ownC m l k) ⟨px,py⟩=b2 at *;generalize ownC m l k=oo at *;replace fr:=Lib.hid fr;replace fo:=Lib.hid fo;replace fh:=Lib.hid fh;have BW:=Lib.hid (Below.refl w.heap.size w);go_enter Tryz.func31,Tryz.ntmps31;go_upto_region 1 with fail
 generalize hXX0:World.alloc (World.alloc w _) _=X0;obtain⟨q0,q1,hA,hzX0⟩:=box2 hXX0;clear hXX0;have BW:=Lib.hid hA;clear hA;have SB:=Lib.hid q0;clear q0;have XB:=Lib.hid q1;clear q1 hzX0;cases b1
 ·skip
  refine (wpIn_wide (n:=9)).1 ?_;refine Zg (Zj _) 10 (fun X=>Below X0.heap.size X0 X) (by kernel_rfl) (by kernel_rfl) (by kernel_rfl) fun hH inv0=>?_
  have hD:=Below.drew (Below.refl X0.heap.size X0);generalize hXX1:X0.drew=X1 at *;clear hXX1;replace BW:=zAg BW hD;have B_X0:=Lib.hid hD;clear hD;refine sk hH (i:=0) (v:=.agg #[.slice a1 m.ways.length (m.ways.length+c1),.slice a2 m.home.length (m.home.length+c2),.int .i64 m.start,.slice a3 m.rocks.length (m.rocks.length+c3),.int .i64 m.speed,.int .i64 m.part,.int .i64 m.flow,.int .i64 m.idle,.int .i64 m.drive,.int .i64 m.battery,.int .i64 m.deadline,.slice ab (rdBU m l).length ((rdBU m l).length+cb),.slice aa (rdAU m l).length ((rdAU m l).length+ca),.int .i64 (k:Int)]) (Zd rfl) inv0 (fun X hX=>?_) fun inv1=>?_
  ·have hh:=SB.out.below hX SB.out.lt;obtain⟨s0,s1,s2,s3,s4,s5,s6,s7,s8,s9,s10,s11,s12,s13⟩:=ZF (m:=m) (k:=k) hh;go_simp
  simp only [Act.put,zq4,zr4,zs4];clear inv0;refine sk hH (i:=1) (v:=.agg #[vs,.int .i64 q1,.int .i64 q2,.int .i64 q3,.int .i64 px,.int .i64 py]) (Zd rfl) inv1 (fun X hX=>?_) fun inv2=>?_
  ·have hh:=XB.out.below hX XB.out.lt;have t0:=hh.cell (i:=0) rfl;have t1:=hh.cell (i:=1) rfl;have t2:=hh.cell (i:=2) rfl;have t3:=hh.cell (i:=3) rfl;have t4:=hh.cell (i:=4) rfl;have t5:=hh.cell (i:=5) rfl;go_simp
  simp only [Act.put,zq4,zr4,zs4];clear inv1;have inv3:=HeadInv.put2 inv2 (j:=2) (by kernel_rfl) (by omega)
  clear inv2;refine sa1 (r:=2) B_X0.out ?_;refine Zp (Zd rfl) rfl (f:=63) (args:=#[.agg #[.slice a1 m.ways.length (m.ways.length+c1),.slice a2 m.home.length (m.home.length+c2),.int .i64 m.start,.slice a3 m.rocks.length (m.rocks.length+c3),.int .i64 m.speed,.int .i64 m.part,.int .i64 m.flow,.int .i64 m.idle,.int .i64 m.drive,.int .i64 m.battery,.int .i64 m.deadline,.slice ab (rdBU m l).length ((rdBU m l).length+cb),.slice aa (rdAU m l).length ((rdAU m l).length+ca),.int .i64 (k:Int)],.agg #[vs,.int .i64 q1,.int .i64 q2,.int .i64 q3,.int .i64 px,.int .i64 py]]) (by go_simp) (fr.out X1 BW.out) ?_
  rintro e w1 ⟨rfl,b1⟩;refine⟨_,rfl,?_⟩;simp only [Act.put,zq4,zr4,zs4];replace BW:=zAg BW b1;replace B_X0:=zAg B_X0 b1;clear b1;refine sk hH (i:=3) (v:=.bool false) (Zd rfl) inv3 (fun X hX=>?_) fun inv4=>?_
  ·go_simp
  simp only [Act.put,zq4,zr4,zs4];clear inv3;refine Zn hH (i:=4) (Zd rfl) (by omega) inv4 (by kernel_rfl) (by kernel_rfl) rfl fun inv5=>?_
  simp only [Act.put,zq4,zr4,zs4];clear inv4;refine Zn hH (i:=5) (Zd rfl) (by omega) inv5 (by kernel_rfl) (by kernel_rfl) rfl fun inv6=>?_
  simp only [Act.put,zq4,zr4,zs4];clear inv5;refine Zn hH (i:=6) (Zd rfl) (by omega) inv6 (by kernel_rfl) (by kernel_rfl) rfl fun inv7=>?_
  simp only [Act.put,zq4,zr4,zs4];clear inv6;refine Zn hH (i:=7) (Zd rfl) (by omega) inv7 (by kernel_rfl) (by kernel_rfl) rfl fun inv8=>?_
  simp only [Act.put,zq4,zr4,zs4];clear inv7;refine Zn hH (i:=8) (Zd rfl) (by omega) inv8 (by kernel_rfl) (by kernel_rfl) rfl fun inv9=>?_
  simp only [Act.put,zq4,zr4,zs4];clear inv8;refine sk hH (i:=9) (v:=.bool false) (Zd rfl) inv9 (fun X hX=>?_) fun inv10=>?_
  ·go_simp
  simp only [Act.put,zq4,zr4,zs4];clear inv9 inv10 hH;refine Zm (by kernel_rfl) B_X0.out ?_
  simp only [List.drop_succ_cons,List.drop_zero];gi_wp2;go_wp2;go_ret;exact⟨by simp,BW.out⟩
 ·skip
  refine (wpIn_wide (n:=9)).1 ?_;refine Zg (Zj _) 10 (fun X=>Below X0.heap.size X0 X) (by kernel_rfl) (by kernel_rfl) (by kernel_rfl) fun hH inv0=>?_
  have hD:=Below.drew (Below.refl X0.heap.size X0);generalize hXX1:X0.drew=X1 at *;clear hXX1;replace BW:=zAg BW hD;have B_X0:=Lib.hid hD;clear hD;refine sk hH (i:=0) (v:=.agg #[.slice a1 m.ways.length (m.ways.length+c1),.slice a2 m.home.length (m.home.length+c2),.int .i64 m.start,.slice a3 m.rocks.length (m.rocks.length+c3),.int .i64 m.speed,.int .i64 m.part,.int .i64 m.flow,.int .i64 m.idle,.int .i64 m.drive,.int .i64 m.battery,.int .i64 m.deadline,.slice ab (rdBU m l).length ((rdBU m l).length+cb),.slice aa (rdAU m l).length ((rdAU m l).length+ca),.int .i64 (k:Int)]) (Zd rfl) inv0 (fun X hX=>?_) fun inv1=>?_
  ·have hh:=SB.out.below hX SB.out.lt;obtain⟨s0,s1,s2,s3,s4,s5,s6,s7,s8,s9,s10,s11,s12,s13⟩:=ZF (m:=m) (k:=k) hh;go_simp
  simp only [Act.put,zq4,zr4,zs4];clear inv0;refine sk hH (i:=1) (v:=.agg #[vs,.int .i64 q1,.int .i64 q2,.int .i64 q3,.int .i64 px,.int .i64 py]) (Zd rfl) inv1 (fun X hX=>?_) fun inv2=>?_
  ·have hh:=XB.out.below hX XB.out.lt;have t0:=hh.cell (i:=0) rfl;have t1:=hh.cell (i:=1) rfl;have t2:=hh.cell (i:=2) rfl;have t3:=hh.cell (i:=3) rfl;have t4:=hh.cell (i:=4) rfl;have t5:=hh.cell (i:=5) rfl;go_simp
  simp only [Act.put,zq4,zr4,zs4];clear inv1;have inv3:=HeadInv.put2 inv2 (j:=2) (by kernel_rfl) (by omega)
  clear inv2;refine sa1 (r:=2) B_X0.out ?_;refine Zp (Zd rfl) rfl (f:=63) (args:=#[.agg #[.slice a1 m.ways.length (m.ways.length+c1),.slice a2 m.home.length (m.home.length+c2),.int .i64 m.start,.slice a3 m.rocks.length (m.rocks.length+c3),.int .i64 m.speed,.int .i64 m.part,.int .i64 m.flow,.int .i64 m.idle,.int .i64 m.drive,.int .i64 m.battery,.int .i64 m.deadline,.slice ab (rdBU m l).length ((rdBU m l).length+cb),.slice aa (rdAU m l).length ((rdAU m l).length+ca),.int .i64 (k:Int)],.agg #[vs,.int .i64 q1,.int .i64 q2,.int .i64 q3,.int .i64 px,.int .i64 py]]) (by go_simp) (fr.out X1 BW.out) ?_
  rintro e w1 ⟨rfl,b1⟩;refine⟨_,rfl,?_⟩;simp only [Act.put,zq4,zr4,zs4];replace BW:=zAg BW b1;replace B_X0:=zAg B_X0 b1;clear b1;refine sk hH (i:=3) (v:=.bool true) (Zd rfl) inv3 (fun X hX=>?_) fun inv4=>?_
  ·go_simp
  simp only [Act.put,zq4,zr4,zs4];clear inv3;refine sk hH (i:=4) (v:=.agg #[.slice a1 m.ways.length (m.ways.length+c1),.slice a2 m.home.length (m.home.length+c2),.int .i64 m.start,.slice a3 m.rocks.length (m.rocks.length+c3),.int .i64 m.speed,.int .i64 m.part,.int .i64 m.flow,.int .i64 m.idle,.int .i64 m.drive,.int .i64 m.battery,.int .i64 m.deadline,.slice ab (rdBU m l).length ((rdBU m l).length+cb),.slice aa (rdAU m l).length ((rdAU m l).length+ca),.int .i64 (k:Int)]) (Zd rfl) inv4 (fun X hX=>?_) fun inv5=>?_
  ·have hh:=SB.out.below hX SB.out.lt;obtain⟨s0,s1,s2,s3,s4,s5,s6,s7,s8,s9,s10,s11,s12,s13⟩:=ZF (m:=m) (k:=k) hh;go_simp
  simp only [Act.put,zq4,zr4,zs4];clear inv4;refine sk hH (i:=6) (v:=.pointer (some ⟨w.heap.size+1,4,none⟩)) (Zd rfl) inv5 (fun X hX=>?_) fun inv6=>?_
  ·go_simp
  simp only [Act.put,zq4,zr4,zs4];clear inv5;refine sk hH (i:=7) (v:=.agg #[.int .i64 px,.int .i64 py]) (Zd rfl) inv6 (fun X hX=>?_) fun inv7=>?_
  ·have hh:=XB.out.below hX XB.out.lt;have t0:=hh.cell (i:=0) rfl;have t1:=hh.cell (i:=1) rfl;have t2:=hh.cell (i:=2) rfl;have t3:=hh.cell (i:=3) rfl;have t4:=hh.cell (i:=4) rfl;have t5:=hh.cell (i:=5) rfl;go_simp
  simp only [Act.put,zq4,zr4,zs4];clear inv6;have inv8:=HeadInv.put2 inv7 (j:=5) (by kernel_rfl) (by omega)
  clear inv7;refine sa1 (r:=5) B_X0.out ?_;refine Zp (Zd rfl) rfl (f:=59) (args:=#[.agg #[.slice a1 m.ways.length (m.ways.length+c1),.slice a2 m.home.length (m.home.length+c2),.int .i64 m.start,.slice a3 m.rocks.length (m.rocks.length+c3),.int .i64 m.speed,.int .i64 m.part,.int .i64 m.flow,.int .i64 m.idle,.int .i64 m.drive,.int .i64 m.battery,.int .i64 m.deadline,.slice ab (rdBU m l).length ((rdBU m l).length+cb),.slice aa (rdAU m l).length ((rdAU m l).length+ca),.int .i64 (k:Int)]]) (by go_simp) (fo.out w1 BW.out) ?_
  rintro e w2 ⟨v1,rfl,p1,b2⟩;refine⟨_,rfl,?_⟩;simp only [Act.put,zq4,zr4,zs4];replace BW:=zAg BW b2;replace B_X0:=zAg B_X0 b2;clear b2;have P1:=Lib.hid p1;obtain⟨g1,d1,hv1⟩:=P1.out.len;subst hv1;clear p1;have inv9:=HeadInv.put2 inv8 (j:=8) (by kernel_rfl) (by omega)
  clear inv8;refine sa1 (r:=8) B_X0.out ?_;refine Zp (Zd rfl) rfl (f:=62) (args:=#[.slice g1 oo.length (oo.length+d1),.agg #[.int .i64 px,.int .i64 py]]) (by go_simp) (fh.out w2 _ P1.out) ?_
  rintro e w3 ⟨rfl,b3⟩;refine⟨_,rfl,?_⟩;simp only [Act.put,zq4,zr4,zs4];replace BW:=zAg BW b3;replace B_X0:=zAg B_X0 b3;have B_w2:=Lib.hid b3;clear b3;refine sk hH (i:=9) (v:=.bool b2) (Zd rfl) inv9 (fun X hX=>?_) fun inv10=>?_
  ·go_simp
  simp only [Act.put,zq4,zr4,zs4];clear inv9 inv10 hH;refine Zm (by kernel_rfl) B_X0.out ?_
  simp only [List.drop_succ_cons,List.drop_zero];gi_wp2;go_wp2;go_ret;exact⟨by simp,BW.out⟩
theorem Z40 (m : Msn) (l : List Int) (vw vh vr vb va : Value) (w : World) (T : StgAt w.heap.size w m l vw vh vr vb va) (V : VMsn m) (k : Nat) (hk : k + 1 < m.ways.length) (vs : Value) (q1 q2 q3 : Int) (x : Pt) :
  Calls Tryz.prog 33 #[.agg (stgC m vw vh vr vb va k),.agg #[vs,.int .i64 q1,.int .i64 q2,.int .i64 q3,.int .i64 x.x,.int .i64 x.y]] w fun e w'=>e=.returned (.bool (ntH m l k q3 x))∧Below w.heap.size w w':=by
 have fd:=fun (W:World) (B:Below w.heap.size w W)=>Z45 m l vw vh vr vb va W (T.up B) V k hk
 have fh:=fun (W:World) v h=>Z0Z v (hmP m l k) x W h
 have fk:=fun (W:World) (B:Below w.heap.size w W)=>Z0Z vh m.home x W ((T.msn.2.1.below B).mono B.size)
 have fi:=fun (W:World)=>Z4V x W
 unfold ntH;obtain⟨-,ab,cb,rfl,-⟩:=T.bef;obtain⟨-,aa,ca,rfl,-⟩:=T.aft;obtain⟨⟨-,a1,c1,rfl,hcw⟩,⟨-,a2,c2,rfl,-⟩,⟨-,a3,c3,rfl,hcr⟩⟩:=T.msn;clear T hcw hcr V;unfold stgC PtsQ at *;obtain⟨px,py⟩:=x;simp only at fi fk fh ⊢;generalize insB ⟨px,py⟩=b4 at *;generalize hasB m.home ⟨px,py⟩=b3 at *;generalize hasB (hmP m l k) ⟨px,py⟩=b2 at *;generalize hmP m l k=oo at *;replace fd:=Lib.hid fd;replace fh:=Lib.hid fh;replace fk:=Lib.hid fk;replace fi:=Lib.hid fi;obtain⟨b1,hb1⟩:∃ b,decide (q3=0)=b:=⟨_,rfl⟩;rw [hb1];have BW:=Lib.hid (Below.refl w.heap.size w);go_enter Tryz.func33,Tryz.ntmps33;go_upto_region 1 with fail
 generalize hXX0:World.alloc (World.alloc w _) _=X0;obtain⟨q0,q1,hA,hzX0⟩:=box2 hXX0;clear hXX0;have BW:=Lib.hid hA;clear hA;have SB:=Lib.hid q0;clear q0;have XB:=Lib.hid q1;clear q1 hzX0;cases b1
 ·skip
  have d0:¬ q3=0:=of_decide_eq_false hb1;have d1:(q3 == 0)=false:=by rw [beq_eq_false_iff_ne];exact d0
  clear hb1;refine (wpIn_wide (n:=9)).1 ?_;refine Zg (Zj _) 24 (fun X=>Below X0.heap.size X0 X) (by kernel_rfl) (by kernel_rfl) (by kernel_rfl) fun hH inv0=>?_
  have hD:=Below.drew (Below.refl X0.heap.size X0);generalize hXX1:X0.drew=X1 at *;clear hXX1;replace BW:=zAg BW hD;have B_X0:=Lib.hid hD;clear hD;refine sk hH (i:=0) (v:=.pointer (some ⟨w.heap.size+1,3,none⟩)) (Zd rfl) inv0 (fun X hX=>?_) fun inv1=>?_
  ·go_simp
  simp only [Act.put,zq4,zr4,zs4];clear inv0;refine sk hH (i:=1) (v:=.int .i64 q3) (Zd rfl) inv1 (fun X hX=>?_) fun inv2=>?_
  ·have hh:=XB.out.below hX XB.out.lt;have t0:=hh.cell (i:=0) rfl;have t1:=hh.cell (i:=1) rfl;have t2:=hh.cell (i:=2) rfl;have t3:=hh.cell (i:=3) rfl;have t4:=hh.cell (i:=4) rfl;have t5:=hh.cell (i:=5) rfl;go_simp
  simp only [Act.put,zq4,zr4,zs4];clear inv1;refine sk hH (i:=2) (v:=.bool false) (Zd rfl) inv2 (fun X hX=>?_) fun inv3=>?_
  ·go_simp
  simp only [Act.put,zq4,zr4,zs4];clear inv2;refine sk hH (i:=3) (v:=.bool false) (Zd rfl) inv3 (fun X hX=>?_) fun inv4=>?_
  ·go_simp
  simp only [Act.put,zq4,zr4,zs4];clear inv3;refine Zn hH (i:=4) (Zd rfl) (by omega) inv4 (by kernel_rfl) (by kernel_rfl) rfl fun inv5=>?_
  simp only [Act.put,zq4,zr4,zs4];clear inv4;refine Zn hH (i:=5) (Zd rfl) (by omega) inv5 (by kernel_rfl) (by kernel_rfl) rfl fun inv6=>?_
  simp only [Act.put,zq4,zr4,zs4];clear inv5;refine Zn hH (i:=6) (Zd rfl) (by omega) inv6 (by kernel_rfl) (by kernel_rfl) rfl fun inv7=>?_
  simp only [Act.put,zq4,zr4,zs4];clear inv6;refine Zn hH (i:=7) (Zd rfl) (by omega) inv7 (by kernel_rfl) (by kernel_rfl) rfl fun inv8=>?_
  simp only [Act.put,zq4,zr4,zs4];clear inv7;refine Zn hH (i:=8) (Zd rfl) (by omega) inv8 (by kernel_rfl) (by kernel_rfl) rfl fun inv9=>?_
  simp only [Act.put,zq4,zr4,zs4];clear inv8;refine sk hH (i:=9) (v:=.bool false) (Zd rfl) inv9 (fun X hX=>?_) fun inv10=>?_
  ·go_simp
  simp only [Act.put,zq4,zr4,zs4];clear inv9;refine sk hH (i:=10) (v:=.bool false) (Zd rfl) inv10 (fun X hX=>?_) fun inv11=>?_
  ·go_simp
  simp only [Act.put,zq4,zr4,zs4];clear inv10;refine Zn hH (i:=11) (Zd rfl) (by omega) inv11 (by kernel_rfl) (by kernel_rfl) rfl fun inv12=>?_
  simp only [Act.put,zq4,zr4,zs4];clear inv11;refine Zn hH (i:=12) (Zd rfl) (by omega) inv12 (by kernel_rfl) (by kernel_rfl) rfl fun inv13=>?_
  simp only [Act.put,zq4,zr4,zs4];clear inv12;refine Zn hH (i:=13) (Zd rfl) (by omega) inv13 (by kernel_rfl) (by kernel_rfl) rfl fun inv14=>?_
  simp only [Act.put,zq4,zr4,zs4];clear inv13;refine Zn hH (i:=14) (Zd rfl) (by omega) inv14 (by kernel_rfl) (by kernel_rfl) rfl fun inv15=>?_
  simp only [Act.put,zq4,zr4,zs4];clear inv14;refine Zn hH (i:=15) (Zd rfl) (by omega) inv15 (by kernel_rfl) (by kernel_rfl) rfl fun inv16=>?_
  simp only [Act.put,zq4,zr4,zs4];clear inv15;refine Zn hH (i:=16) (Zd rfl) (by omega) inv16 (by kernel_rfl) (by kernel_rfl) rfl fun inv17=>?_
  simp only [Act.put,zq4,zr4,zs4];clear inv16;refine Zn hH (i:=17) (Zd rfl) (by omega) inv17 (by kernel_rfl) (by kernel_rfl) rfl fun inv18=>?_
  simp only [Act.put,zq4,zr4,zs4];clear inv17;refine sk hH (i:=18) (v:=.bool false) (Zd rfl) inv18 (fun X hX=>?_) fun inv19=>?_
  ·go_simp
  simp only [Act.put,zq4,zr4,zs4];clear inv18;refine sk hH (i:=19) (v:=.bool false) (Zd rfl) inv19 (fun X hX=>?_) fun inv20=>?_
  ·go_simp
  simp only [Act.put,zq4,zr4,zs4];clear inv19;refine Zn hH (i:=20) (Zd rfl) (by omega) inv20 (by kernel_rfl) (by kernel_rfl) rfl fun inv21=>?_
  simp only [Act.put,zq4,zr4,zs4];clear inv20;refine Zn hH (i:=21) (Zd rfl) (by omega) inv21 (by kernel_rfl) (by kernel_rfl) rfl fun inv22=>?_
  simp only [Act.put,zq4,zr4,zs4];clear inv21;refine Zn hH (i:=22) (Zd rfl) (by omega) inv22 (by kernel_rfl) (by kernel_rfl) rfl fun inv23=>?_
  simp only [Act.put,zq4,zr4,zs4];clear inv22;refine sk hH (i:=23) (v:=.bool false) (Zd rfl) inv23 (fun X hX=>?_) fun inv24=>?_
  ·go_simp
  simp only [Act.put,zq4,zr4,zs4];clear inv23 inv24 hH;refine Zm (by kernel_rfl) B_X0.out ?_
  simp only [List.drop_succ_cons,List.drop_zero];gi_wp2;go_wp2;go_ret;exact⟨by simp,BW.out⟩
 ·skip
  cases b2
  ·skip
   have d0:q3=0:=of_decide_eq_true hb1;have d1:(q3 == 0)=true:=by rw [d0];rfl
   clear hb1;refine (wpIn_wide (n:=9)).1 ?_;refine Zg (Zj _) 24 (fun X=>Below X0.heap.size X0 X) (by kernel_rfl) (by kernel_rfl) (by kernel_rfl) fun hH inv0=>?_
   have hD:=Below.drew (Below.refl X0.heap.size X0);generalize hXX1:X0.drew=X1 at *;clear hXX1;replace BW:=zAg BW hD;have B_X0:=Lib.hid hD;clear hD;refine sk hH (i:=0) (v:=.pointer (some ⟨w.heap.size+1,3,none⟩)) (Zd rfl) inv0 (fun X hX=>?_) fun inv1=>?_
   ·go_simp
   simp only [Act.put,zq4,zr4,zs4];clear inv0;refine sk hH (i:=1) (v:=.int .i64 q3) (Zd rfl) inv1 (fun X hX=>?_) fun inv2=>?_
   ·have hh:=XB.out.below hX XB.out.lt;have t0:=hh.cell (i:=0) rfl;have t1:=hh.cell (i:=1) rfl;have t2:=hh.cell (i:=2) rfl;have t3:=hh.cell (i:=3) rfl;have t4:=hh.cell (i:=4) rfl;have t5:=hh.cell (i:=5) rfl;go_simp
   simp only [Act.put,zq4,zr4,zs4];clear inv1;refine sk hH (i:=2) (v:=.bool true) (Zd rfl) inv2 (fun X hX=>?_) fun inv3=>?_
   ·go_simp
   simp only [Act.put,zq4,zr4,zs4];clear inv2;refine sk hH (i:=3) (v:=.bool true) (Zd rfl) inv3 (fun X hX=>?_) fun inv4=>?_
   ·go_simp
   simp only [Act.put,zq4,zr4,zs4];clear inv3;refine sk hH (i:=4) (v:=.agg #[.slice a1 m.ways.length (m.ways.length+c1),.slice a2 m.home.length (m.home.length+c2),.int .i64 m.start,.slice a3 m.rocks.length (m.rocks.length+c3),.int .i64 m.speed,.int .i64 m.part,.int .i64 m.flow,.int .i64 m.idle,.int .i64 m.drive,.int .i64 m.battery,.int .i64 m.deadline,.slice ab (rdBU m l).length ((rdBU m l).length+cb),.slice aa (rdAU m l).length ((rdAU m l).length+ca),.int .i64 (k:Int)]) (Zd rfl) inv4 (fun X hX=>?_) fun inv5=>?_
   ·have hh:=SB.out.below hX SB.out.lt;obtain⟨s0,s1,s2,s3,s4,s5,s6,s7,s8,s9,s10,s11,s12,s13⟩:=ZF (m:=m) (k:=k) hh;go_simp
   simp only [Act.put,zq4,zr4,zs4];clear inv4;refine sk hH (i:=6) (v:=.pointer (some ⟨w.heap.size+1,4,none⟩)) (Zd rfl) inv5 (fun X hX=>?_) fun inv6=>?_
   ·go_simp
   simp only [Act.put,zq4,zr4,zs4];clear inv5;refine sk hH (i:=7) (v:=.agg #[.int .i64 px,.int .i64 py]) (Zd rfl) inv6 (fun X hX=>?_) fun inv7=>?_
   ·have hh:=XB.out.below hX XB.out.lt;have t0:=hh.cell (i:=0) rfl;have t1:=hh.cell (i:=1) rfl;have t2:=hh.cell (i:=2) rfl;have t3:=hh.cell (i:=3) rfl;have t4:=hh.cell (i:=4) rfl;have t5:=hh.cell (i:=5) rfl;go_simp
   simp only [Act.put,zq4,zr4,zs4];clear inv6;have inv8:=HeadInv.put2 inv7 (j:=5) (by kernel_rfl) (by omega)
   clear inv7;refine sa1 (r:=5) B_X0.out ?_;refine Zp (Zd rfl) rfl (f:=61) (args:=#[.agg #[.slice a1 m.ways.length (m.ways.length+c1),.slice a2 m.home.length (m.home.length+c2),.int .i64 m.start,.slice a3 m.rocks.length (m.rocks.length+c3),.int .i64 m.speed,.int .i64 m.part,.int .i64 m.flow,.int .i64 m.idle,.int .i64 m.drive,.int .i64 m.battery,.int .i64 m.deadline,.slice ab (rdBU m l).length ((rdBU m l).length+cb),.slice aa (rdAU m l).length ((rdAU m l).length+ca),.int .i64 (k:Int)]]) (by go_simp) (fd.out X1 BW.out) ?_
   rintro e w1 ⟨v1,rfl,p1,b1⟩;refine⟨_,rfl,?_⟩;simp only [Act.put,zq4,zr4,zs4];replace BW:=zAg BW b1;replace B_X0:=zAg B_X0 b1;clear b1;have P1:=Lib.hid p1;obtain⟨g1,d1,hv1⟩:=P1.out.len;subst hv1;clear p1;have inv9:=HeadInv.put2 inv8 (j:=8) (by kernel_rfl) (by omega)
   clear inv8;refine sa1 (r:=8) B_X0.out ?_;refine Zp (Zd rfl) rfl (f:=62) (args:=#[.slice g1 oo.length (oo.length+d1),.agg #[.int .i64 px,.int .i64 py]]) (by go_simp) (fh.out w1 _ P1.out) ?_
   rintro e w2 ⟨rfl,b2⟩;refine⟨_,rfl,?_⟩;simp only [Act.put,zq4,zr4,zs4];replace BW:=zAg BW b2;replace B_X0:=zAg B_X0 b2;have B_w1:=Lib.hid b2;clear b2;refine sk hH (i:=9) (v:=.bool false) (Zd rfl) inv9 (fun X hX=>?_) fun inv10=>?_
   ·go_simp
   simp only [Act.put,zq4,zr4,zs4];clear inv9;refine sk hH (i:=10) (v:=.bool false) (Zd rfl) inv10 (fun X hX=>?_) fun inv11=>?_
   ·go_simp
   simp only [Act.put,zq4,zr4,zs4];clear inv10;refine Zn hH (i:=11) (Zd rfl) (by omega) inv11 (by kernel_rfl) (by kernel_rfl) rfl fun inv12=>?_
   simp only [Act.put,zq4,zr4,zs4];clear inv11;refine Zn hH (i:=12) (Zd rfl) (by omega) inv12 (by kernel_rfl) (by kernel_rfl) rfl fun inv13=>?_
   simp only [Act.put,zq4,zr4,zs4];clear inv12;refine Zn hH (i:=13) (Zd rfl) (by omega) inv13 (by kernel_rfl) (by kernel_rfl) rfl fun inv14=>?_
   simp only [Act.put,zq4,zr4,zs4];clear inv13;refine Zn hH (i:=14) (Zd rfl) (by omega) inv14 (by kernel_rfl) (by kernel_rfl) rfl fun inv15=>?_
   simp only [Act.put,zq4,zr4,zs4];clear inv14;refine Zn hH (i:=15) (Zd rfl) (by omega) inv15 (by kernel_rfl) (by kernel_rfl) rfl fun inv16=>?_
   simp only [Act.put,zq4,zr4,zs4];clear inv15;refine Zn hH (i:=16) (Zd rfl) (by omega) inv16 (by kernel_rfl) (by kernel_rfl) rfl fun inv17=>?_
   simp only [Act.put,zq4,zr4,zs4];clear inv16;refine Zn hH (i:=17) (Zd rfl) (by omega) inv17 (by kernel_rfl) (by kernel_rfl) rfl fun inv18=>?_
   simp only [Act.put,zq4,zr4,zs4];clear inv17;refine sk hH (i:=18) (v:=.bool false) (Zd rfl) inv18 (fun X hX=>?_) fun inv19=>?_
   ·go_simp
   simp only [Act.put,zq4,zr4,zs4];clear inv18;refine sk hH (i:=19) (v:=.bool false) (Zd rfl) inv19 (fun X hX=>?_) fun inv20=>?_
   ·go_simp
   simp only [Act.put,zq4,zr4,zs4];clear inv19;refine Zn hH (i:=20) (Zd rfl) (by omega) inv20 (by kernel_rfl) (by kernel_rfl) rfl fun inv21=>?_
   simp only [Act.put,zq4,zr4,zs4];clear inv20;refine Zn hH (i:=21) (Zd rfl) (by omega) inv21 (by kernel_rfl) (by kernel_rfl) rfl fun inv22=>?_
   simp only [Act.put,zq4,zr4,zs4];clear inv21;refine Zn hH (i:=22) (Zd rfl) (by omega) inv22 (by kernel_rfl) (by kernel_rfl) rfl fun inv23=>?_
   simp only [Act.put,zq4,zr4,zs4];clear inv22;refine sk hH (i:=23) (v:=.bool false) (Zd rfl) inv23 (fun X hX=>?_) fun inv24=>?_
   ·go_simp
   simp only [Act.put,zq4,zr4,zs4];clear inv23 inv24 hH;refine Zm (by kernel_rfl) B_X0.out ?_
   simp only [List.drop_succ_cons,List.drop_zero];gi_wp2;go_wp2;go_ret;exact⟨by simp,BW.out⟩
  ·skip
   cases b3
   ·skip
    have d0:q3=0:=of_decide_eq_true hb1;have d1:(q3 == 0)=true:=by rw [d0];rfl
    clear hb1;refine (wpIn_wide (n:=9)).1 ?_;refine Zg (Zj _) 24 (fun X=>Below X0.heap.size X0 X) (by kernel_rfl) (by kernel_rfl) (by kernel_rfl) fun hH inv0=>?_
    have hD:=Below.drew (Below.refl X0.heap.size X0);generalize hXX1:X0.drew=X1 at *;clear hXX1;replace BW:=zAg BW hD;have B_X0:=Lib.hid hD;clear hD;refine sk hH (i:=0) (v:=.pointer (some ⟨w.heap.size+1,3,none⟩)) (Zd rfl) inv0 (fun X hX=>?_) fun inv1=>?_
    ·go_simp
    simp only [Act.put,zq4,zr4,zs4];clear inv0;refine sk hH (i:=1) (v:=.int .i64 q3) (Zd rfl) inv1 (fun X hX=>?_) fun inv2=>?_
    ·have hh:=XB.out.below hX XB.out.lt;have t0:=hh.cell (i:=0) rfl;have t1:=hh.cell (i:=1) rfl;have t2:=hh.cell (i:=2) rfl;have t3:=hh.cell (i:=3) rfl;have t4:=hh.cell (i:=4) rfl;have t5:=hh.cell (i:=5) rfl;go_simp
    simp only [Act.put,zq4,zr4,zs4];clear inv1;refine sk hH (i:=2) (v:=.bool true) (Zd rfl) inv2 (fun X hX=>?_) fun inv3=>?_
    ·go_simp
    simp only [Act.put,zq4,zr4,zs4];clear inv2;refine sk hH (i:=3) (v:=.bool true) (Zd rfl) inv3 (fun X hX=>?_) fun inv4=>?_
    ·go_simp
    simp only [Act.put,zq4,zr4,zs4];clear inv3;refine sk hH (i:=4) (v:=.agg #[.slice a1 m.ways.length (m.ways.length+c1),.slice a2 m.home.length (m.home.length+c2),.int .i64 m.start,.slice a3 m.rocks.length (m.rocks.length+c3),.int .i64 m.speed,.int .i64 m.part,.int .i64 m.flow,.int .i64 m.idle,.int .i64 m.drive,.int .i64 m.battery,.int .i64 m.deadline,.slice ab (rdBU m l).length ((rdBU m l).length+cb),.slice aa (rdAU m l).length ((rdAU m l).length+ca),.int .i64 (k:Int)]) (Zd rfl) inv4 (fun X hX=>?_) fun inv5=>?_
    ·have hh:=SB.out.below hX SB.out.lt;obtain⟨s0,s1,s2,s3,s4,s5,s6,s7,s8,s9,s10,s11,s12,s13⟩:=ZF (m:=m) (k:=k) hh;go_simp
    simp only [Act.put,zq4,zr4,zs4];clear inv4;refine sk hH (i:=6) (v:=.pointer (some ⟨w.heap.size+1,4,none⟩)) (Zd rfl) inv5 (fun X hX=>?_) fun inv6=>?_
    ·go_simp
    simp only [Act.put,zq4,zr4,zs4];clear inv5;refine sk hH (i:=7) (v:=.agg #[.int .i64 px,.int .i64 py]) (Zd rfl) inv6 (fun X hX=>?_) fun inv7=>?_
    ·have hh:=XB.out.below hX XB.out.lt;have t0:=hh.cell (i:=0) rfl;have t1:=hh.cell (i:=1) rfl;have t2:=hh.cell (i:=2) rfl;have t3:=hh.cell (i:=3) rfl;have t4:=hh.cell (i:=4) rfl;have t5:=hh.cell (i:=5) rfl;go_simp
    simp only [Act.put,zq4,zr4,zs4];clear inv6;have inv8:=HeadInv.put2 inv7 (j:=5) (by kernel_rfl) (by omega)
    clear inv7;refine sa1 (r:=5) B_X0.out ?_;refine Zp (Zd rfl) rfl (f:=61) (args:=#[.agg #[.slice a1 m.ways.length (m.ways.length+c1),.slice a2 m.home.length (m.home.length+c2),.int .i64 m.start,.slice a3 m.rocks.length (m.rocks.length+c3),.int .i64 m.speed,.int .i64 m.part,.int .i64 m.flow,.int .i64 m.idle,.int .i64 m.drive,.int .i64 m.battery,.int .i64 m.deadline,.slice ab (rdBU m l).length ((rdBU m l).length+cb),.slice aa (rdAU m l).length ((rdAU m l).length+ca),.int .i64 (k:Int)]]) (by go_simp) (fd.out X1 BW.out) ?_
    rintro e w1 ⟨v1,rfl,p1,b1⟩;refine⟨_,rfl,?_⟩;simp only [Act.put,zq4,zr4,zs4];replace BW:=zAg BW b1;replace B_X0:=zAg B_X0 b1;clear b1;have P1:=Lib.hid p1;obtain⟨g1,d1,hv1⟩:=P1.out.len;subst hv1;clear p1;have inv9:=HeadInv.put2 inv8 (j:=8) (by kernel_rfl) (by omega)
    clear inv8;refine sa1 (r:=8) B_X0.out ?_;refine Zp (Zd rfl) rfl (f:=62) (args:=#[.slice g1 oo.length (oo.length+d1),.agg #[.int .i64 px,.int .i64 py]]) (by go_simp) (fh.out w1 _ P1.out) ?_
    rintro e w2 ⟨rfl,b2⟩;refine⟨_,rfl,?_⟩;simp only [Act.put,zq4,zr4,zs4];replace BW:=zAg BW b2;replace B_X0:=zAg B_X0 b2;have B_w1:=Lib.hid b2;clear b2;refine sk hH (i:=9) (v:=.bool true) (Zd rfl) inv9 (fun X hX=>?_) fun inv10=>?_
    ·go_simp
    simp only [Act.put,zq4,zr4,zs4];clear inv9;refine sk hH (i:=10) (v:=.bool true) (Zd rfl) inv10 (fun X hX=>?_) fun inv11=>?_
    ·go_simp
    simp only [Act.put,zq4,zr4,zs4];clear inv10;refine sk hH (i:=11) (v:=.pointer (some ⟨w.heap.size,0,none⟩)) (Zd rfl) inv11 (fun X hX=>?_) fun inv12=>?_
    ·go_simp
    simp only [Act.put,zq4,zr4,zs4];clear inv11;refine sk hH (i:=12) (v:=.pointer (some ⟨w.heap.size,1,none⟩)) (Zd rfl) inv12 (fun X hX=>?_) fun inv13=>?_
    ·go_simp
    simp only [Act.put,zq4,zr4,zs4];clear inv12;refine sk hH (i:=13) (v:=.slice a2 m.home.length (m.home.length+c2)) (Zd rfl) inv13 (fun X hX=>?_) fun inv14=>?_
    ·have hh:=SB.out.below hX SB.out.lt;obtain⟨s0,s1,s2,s3,s4,s5,s6,s7,s8,s9,s10,s11,s12,s13⟩:=ZF (m:=m) (k:=k) hh;go_simp
    simp only [Act.put,zq4,zr4,zs4];clear inv13;refine sk hH (i:=14) (v:=.pointer (some ⟨w.heap.size+1,4,none⟩)) (Zd rfl) inv14 (fun X hX=>?_) fun inv15=>?_
    ·go_simp
    simp only [Act.put,zq4,zr4,zs4];clear inv14;refine sk hH (i:=15) (v:=.agg #[.int .i64 px,.int .i64 py]) (Zd rfl) inv15 (fun X hX=>?_) fun inv16=>?_
    ·have hh:=XB.out.below hX XB.out.lt;have t0:=hh.cell (i:=0) rfl;have t1:=hh.cell (i:=1) rfl;have t2:=hh.cell (i:=2) rfl;have t3:=hh.cell (i:=3) rfl;have t4:=hh.cell (i:=4) rfl;have t5:=hh.cell (i:=5) rfl;go_simp
    simp only [Act.put,zq4,zr4,zs4];clear inv15;have inv17:=HeadInv.put2 inv16 (j:=16) (by kernel_rfl) (by omega)
    clear inv16;refine sa1 (r:=16) B_X0.out ?_;refine Zp (Zd rfl) rfl (f:=62) (args:=#[.slice a2 m.home.length (m.home.length+c2),.agg #[.int .i64 px,.int .i64 py]]) (by go_simp) (fk.out w2 BW.out) ?_
    rintro e w3 ⟨rfl,b3⟩;refine⟨_,rfl,?_⟩;simp only [Act.put,zq4,zr4,zs4];replace BW:=zAg BW b3;replace B_X0:=zAg B_X0 b3;replace B_w1:=zAg B_w1 b3;clear b3;refine sk hH (i:=17) (v:=.bool true) (Zd rfl) inv17 (fun X hX=>?_) fun inv18=>?_
    ·go_simp
    simp only [Act.put,zq4,zr4,zs4];clear inv17;refine sk hH (i:=18) (v:=.bool true) (Zd rfl) inv18 (fun X hX=>?_) fun inv19=>?_
    ·go_simp
    simp only [Act.put,zq4,zr4,zs4];clear inv18;refine sk hH (i:=19) (v:=.bool true) (Zd rfl) inv19 (fun X hX=>?_) fun inv20=>?_
    ·go_simp
    simp only [Act.put,zq4,zr4,zs4];clear inv19;refine sk hH (i:=20) (v:=.pointer (some ⟨w.heap.size+1,4,none⟩)) (Zd rfl) inv20 (fun X hX=>?_) fun inv21=>?_
    ·go_simp
    simp only [Act.put,zq4,zr4,zs4];clear inv20;refine sk hH (i:=21) (v:=.agg #[.int .i64 px,.int .i64 py]) (Zd rfl) inv21 (fun X hX=>?_) fun inv22=>?_
    ·have hh:=XB.out.below hX XB.out.lt;have t0:=hh.cell (i:=0) rfl;have t1:=hh.cell (i:=1) rfl;have t2:=hh.cell (i:=2) rfl;have t3:=hh.cell (i:=3) rfl;have t4:=hh.cell (i:=4) rfl;have t5:=hh.cell (i:=5) rfl;go_simp
    simp only [Act.put,zq4,zr4,zs4];clear inv21;have inv23:=HeadInv.put2 inv22 (j:=22) (by kernel_rfl) (by omega)
    clear inv22;refine sa1 (r:=22) B_X0.out ?_;refine Zp (Zd rfl) rfl (f:=64) (args:=#[.agg #[.int .i64 px,.int .i64 py]]) (by go_simp) (fi.out w3) ?_
    rintro e w4 ⟨rfl,b4⟩;refine⟨_,rfl,?_⟩;simp only [Act.put,zq4,zr4,zs4];replace BW:=zAg BW b4;replace B_X0:=zAg B_X0 b4;replace B_w1:=zAg B_w1 b4;clear b4;refine sk hH (i:=23) (v:=.bool b4) (Zd rfl) inv23 (fun X hX=>?_) fun inv24=>?_
    ·go_simp
    simp only [Act.put,zq4,zr4,zs4];clear inv23 inv24 hH;refine Zm (by kernel_rfl) B_X0.out ?_
    simp only [List.drop_succ_cons,List.drop_zero];gi_wp2;go_wp2;go_ret;exact⟨by simp,BW.out⟩
   ·skip
    have d0:q3=0:=of_decide_eq_true hb1;have d1:(q3 == 0)=true:=by rw [d0];rfl
    clear hb1;refine (wpIn_wide (n:=9)).1 ?_;refine Zg (Zj _) 24 (fun X=>Below X0.heap.size X0 X) (by kernel_rfl) (by kernel_rfl) (by kernel_rfl) fun hH inv0=>?_
    have hD:=Below.drew (Below.refl X0.heap.size X0);generalize hXX1:X0.drew=X1 at *;clear hXX1;replace BW:=zAg BW hD;have B_X0:=Lib.hid hD;clear hD;refine sk hH (i:=0) (v:=.pointer (some ⟨w.heap.size+1,3,none⟩)) (Zd rfl) inv0 (fun X hX=>?_) fun inv1=>?_
    ·go_simp
    simp only [Act.put,zq4,zr4,zs4];clear inv0;refine sk hH (i:=1) (v:=.int .i64 q3) (Zd rfl) inv1 (fun X hX=>?_) fun inv2=>?_
    ·have hh:=XB.out.below hX XB.out.lt;have t0:=hh.cell (i:=0) rfl;have t1:=hh.cell (i:=1) rfl;have t2:=hh.cell (i:=2) rfl;have t3:=hh.cell (i:=3) rfl;have t4:=hh.cell (i:=4) rfl;have t5:=hh.cell (i:=5) rfl;go_simp
    simp only [Act.put,zq4,zr4,zs4];clear inv1;refine sk hH (i:=2) (v:=.bool true) (Zd rfl) inv2 (fun X hX=>?_) fun inv3=>?_
    ·go_simp
    simp only [Act.put,zq4,zr4,zs4];clear inv2;refine sk hH (i:=3) (v:=.bool true) (Zd rfl) inv3 (fun X hX=>?_) fun inv4=>?_
    ·go_simp
    simp only [Act.put,zq4,zr4,zs4];clear inv3;refine sk hH (i:=4) (v:=.agg #[.slice a1 m.ways.length (m.ways.length+c1),.slice a2 m.home.length (m.home.length+c2),.int .i64 m.start,.slice a3 m.rocks.length (m.rocks.length+c3),.int .i64 m.speed,.int .i64 m.part,.int .i64 m.flow,.int .i64 m.idle,.int .i64 m.drive,.int .i64 m.battery,.int .i64 m.deadline,.slice ab (rdBU m l).length ((rdBU m l).length+cb),.slice aa (rdAU m l).length ((rdAU m l).length+ca),.int .i64 (k:Int)]) (Zd rfl) inv4 (fun X hX=>?_) fun inv5=>?_
    ·have hh:=SB.out.below hX SB.out.lt;obtain⟨s0,s1,s2,s3,s4,s5,s6,s7,s8,s9,s10,s11,s12,s13⟩:=ZF (m:=m) (k:=k) hh;go_simp
    simp only [Act.put,zq4,zr4,zs4];clear inv4;refine sk hH (i:=6) (v:=.pointer (some ⟨w.heap.size+1,4,none⟩)) (Zd rfl) inv5 (fun X hX=>?_) fun inv6=>?_
    ·go_simp
    simp only [Act.put,zq4,zr4,zs4];clear inv5;refine sk hH (i:=7) (v:=.agg #[.int .i64 px,.int .i64 py]) (Zd rfl) inv6 (fun X hX=>?_) fun inv7=>?_
    ·have hh:=XB.out.below hX XB.out.lt;have t0:=hh.cell (i:=0) rfl;have t1:=hh.cell (i:=1) rfl;have t2:=hh.cell (i:=2) rfl;have t3:=hh.cell (i:=3) rfl;have t4:=hh.cell (i:=4) rfl;have t5:=hh.cell (i:=5) rfl;go_simp
    simp only [Act.put,zq4,zr4,zs4];clear inv6;have inv8:=HeadInv.put2 inv7 (j:=5) (by kernel_rfl) (by omega)
    clear inv7;refine sa1 (r:=5) B_X0.out ?_;refine Zp (Zd rfl) rfl (f:=61) (args:=#[.agg #[.slice a1 m.ways.length (m.ways.length+c1),.slice a2 m.home.length (m.home.length+c2),.int .i64 m.start,.slice a3 m.rocks.length (m.rocks.length+c3),.int .i64 m.speed,.int .i64 m.part,.int .i64 m.flow,.int .i64 m.idle,.int .i64 m.drive,.int .i64 m.battery,.int .i64 m.deadline,.slice ab (rdBU m l).length ((rdBU m l).length+cb),.slice aa (rdAU m l).length ((rdAU m l).length+ca),.int .i64 (k:Int)]]) (by go_simp) (fd.out X1 BW.out) ?_
    rintro e w1 ⟨v1,rfl,p1,b1⟩;refine⟨_,rfl,?_⟩;simp only [Act.put,zq4,zr4,zs4];replace BW:=zAg BW b1;replace B_X0:=zAg B_X0 b1;clear b1;have P1:=Lib.hid p1;obtain⟨g1,d1,hv1⟩:=P1.out.len;subst hv1;clear p1;have inv9:=HeadInv.put2 inv8 (j:=8) (by kernel_rfl) (by omega)
    clear inv8;refine sa1 (r:=8) B_X0.out ?_;refine Zp (Zd rfl) rfl (f:=62) (args:=#[.slice g1 oo.length (oo.length+d1),.agg #[.int .i64 px,.int .i64 py]]) (by go_simp) (fh.out w1 _ P1.out) ?_
    rintro e w2 ⟨rfl,b2⟩;refine⟨_,rfl,?_⟩;simp only [Act.put,zq4,zr4,zs4];replace BW:=zAg BW b2;replace B_X0:=zAg B_X0 b2;have B_w1:=Lib.hid b2;clear b2;refine sk hH (i:=9) (v:=.bool true) (Zd rfl) inv9 (fun X hX=>?_) fun inv10=>?_
    ·go_simp
    simp only [Act.put,zq4,zr4,zs4];clear inv9;refine sk hH (i:=10) (v:=.bool true) (Zd rfl) inv10 (fun X hX=>?_) fun inv11=>?_
    ·go_simp
    simp only [Act.put,zq4,zr4,zs4];clear inv10;refine sk hH (i:=11) (v:=.pointer (some ⟨w.heap.size,0,none⟩)) (Zd rfl) inv11 (fun X hX=>?_) fun inv12=>?_
    ·go_simp
    simp only [Act.put,zq4,zr4,zs4];clear inv11;refine sk hH (i:=12) (v:=.pointer (some ⟨w.heap.size,1,none⟩)) (Zd rfl) inv12 (fun X hX=>?_) fun inv13=>?_
    ·go_simp
    simp only [Act.put,zq4,zr4,zs4];clear inv12;refine sk hH (i:=13) (v:=.slice a2 m.home.length (m.home.length+c2)) (Zd rfl) inv13 (fun X hX=>?_) fun inv14=>?_
    ·have hh:=SB.out.below hX SB.out.lt;obtain⟨s0,s1,s2,s3,s4,s5,s6,s7,s8,s9,s10,s11,s12,s13⟩:=ZF (m:=m) (k:=k) hh;go_simp
    simp only [Act.put,zq4,zr4,zs4];clear inv13;refine sk hH (i:=14) (v:=.pointer (some ⟨w.heap.size+1,4,none⟩)) (Zd rfl) inv14 (fun X hX=>?_) fun inv15=>?_
    ·go_simp
    simp only [Act.put,zq4,zr4,zs4];clear inv14;refine sk hH (i:=15) (v:=.agg #[.int .i64 px,.int .i64 py]) (Zd rfl) inv15 (fun X hX=>?_) fun inv16=>?_
    ·have hh:=XB.out.below hX XB.out.lt;have t0:=hh.cell (i:=0) rfl;have t1:=hh.cell (i:=1) rfl;have t2:=hh.cell (i:=2) rfl;have t3:=hh.cell (i:=3) rfl;have t4:=hh.cell (i:=4) rfl;have t5:=hh.cell (i:=5) rfl;go_simp
    simp only [Act.put,zq4,zr4,zs4];clear inv15;have inv17:=HeadInv.put2 inv16 (j:=16) (by kernel_rfl) (by omega)
    clear inv16;refine sa1 (r:=16) B_X0.out ?_;refine Zp (Zd rfl) rfl (f:=62) (args:=#[.slice a2 m.home.length (m.home.length+c2),.agg #[.int .i64 px,.int .i64 py]]) (by go_simp) (fk.out w2 BW.out) ?_
    rintro e w3 ⟨rfl,b3⟩;refine⟨_,rfl,?_⟩;simp only [Act.put,zq4,zr4,zs4];replace BW:=zAg BW b3;replace B_X0:=zAg B_X0 b3;replace B_w1:=zAg B_w1 b3;clear b3;refine sk hH (i:=17) (v:=.bool false) (Zd rfl) inv17 (fun X hX=>?_) fun inv18=>?_
    ·go_simp
    simp only [Act.put,zq4,zr4,zs4];clear inv17;refine sk hH (i:=18) (v:=.bool false) (Zd rfl) inv18 (fun X hX=>?_) fun inv19=>?_
    ·go_simp
    simp only [Act.put,zq4,zr4,zs4];clear inv18;refine sk hH (i:=19) (v:=.bool false) (Zd rfl) inv19 (fun X hX=>?_) fun inv20=>?_
    ·go_simp
    simp only [Act.put,zq4,zr4,zs4];clear inv19;refine Zn hH (i:=20) (Zd rfl) (by omega) inv20 (by kernel_rfl) (by kernel_rfl) rfl fun inv21=>?_
    simp only [Act.put,zq4,zr4,zs4];clear inv20;refine Zn hH (i:=21) (Zd rfl) (by omega) inv21 (by kernel_rfl) (by kernel_rfl) rfl fun inv22=>?_
    simp only [Act.put,zq4,zr4,zs4];clear inv21;refine Zn hH (i:=22) (Zd rfl) (by omega) inv22 (by kernel_rfl) (by kernel_rfl) rfl fun inv23=>?_
    simp only [Act.put,zq4,zr4,zs4];clear inv22;refine sk hH (i:=23) (v:=.bool false) (Zd rfl) inv23 (fun X hX=>?_) fun inv24=>?_
    ·go_simp
    simp only [Act.put,zq4,zr4,zs4];clear inv23 inv24 hH;refine Zm (by kernel_rfl) B_X0.out ?_
    simp only [List.drop_succ_cons,List.drop_zero];gi_wp2;go_wp2;go_ret;exact⟨by simp,BW.out⟩
attribute [local go_sem] Oper.semAt_some
theorem Z9s {m:Msn} {l:List Int} {k:Nat} {x:Pt} {j:Nat} (hj:j<dep m (k+1)) (h:hasB (bkP m l k j) x=true):bkAny m l k x=true:=List.any_eq_true.2 ⟨j,List.mem_range.2 hj,h⟩
theorem Z9t {m:Msn} {l:List Int} {k:Nat} {x:Pt} (h:∀ j,j<dep m (k+1)→hasB (bkP m l k j) x=false):bkAny m l k x=false:=by
 unfold bkAny;rw [List.any_eq_false];intro j hj;rw [h j (List.mem_range.1 hj)];simp
theorem Z4W (m:Msn) (l:List Int) (vw vh vr vb va:Value) (w:World) (T:StgAt w.heap.size w m l vw vh vr vb va) (V:VMsn m) (k:Nat) (hk:k+1<m.ways.length) (vs:Value) (q1 q2 q3:Int) (x:Pt) :
  Calls Tryz.prog 32 #[.agg (stgC m vw vh vr vb va k),.agg #[vs,.int .i64 q1,.int .i64 q2,.int .i64 q3,.int .i64 x.x,.int .i64 x.y]] w fun e w'=>e=.returned (.bool (bkAny m l k x && onR m q3 x))∧Below w.heap.size w w':=by
 have fs:=fun (W0:World) (Bs:Nat) (q:Nat→Prop) (B:Below w.heap.size w W0) (HB:Has W0 Bs (stgC m vw vh vr vb va k) 67) (hq:∀ b,q b→b<W0.heap.size∧b≠Bs)=>Z3V m l vw vh vr vb va k w.heap.size q Bs W0 (T.low B) V hk B.size HB hq
 have fr:=fun (W:World) (B:Below w.heap.size w W)=>Z2l m l vw vh vr vb va W (T.up B) k vs q1 q2 q3 x
 have fh:=fun (W:World) v j h=>Z0Z v (bkP m l k j) x W h
 have hbX:∀ v j,bkX m l k (v,j)=#[v,.int .i64 (bkR m (k+1) (rdB m l (k+1)) (j+1))]:=fun _ _=>rfl
 have hy:∀ j,j<dep m (k+1)→hasB (bkP m l k j) x=true→bkAny m l k x=true:=fun j h1 h2=>Z9s h1 h2
 have hno:(∀ j,j<dep m (k+1)→hasB (bkP m l k j) x=false)→bkAny m l k x=false:=Z9t;obtain⟨-,ab,cb,rfl,-⟩:=T.bef;obtain⟨-,aa,ca,rfl,-⟩:=T.aft;obtain⟨⟨-,a1,c1,rfl,hcw⟩,⟨-,a2,c2,rfl,-⟩,⟨-,a3,c3,rfl,hcr⟩⟩:=T.msn;clear T hcw hcr V;unfold stgC at *;obtain⟨px,py⟩:=x;simp only at fr fh ⊢;obtain⟨f,hf⟩:∃ f:Nat→Bool,(fun j=>hasB (bkP m l k j) ⟨px,py⟩)=f:=⟨_,rfl⟩
 have hff:∀ j,hasB (bkP m l k j) ⟨px,py⟩=f j:=fun j=>by rw [← hf]
 simp only [hff] at hy hno fh;clear hf hff;generalize bkAny m l k ⟨px,py⟩=ba at *;generalize onR m q3 ⟨px,py⟩=br at *;replace fr:=Lib.hid fr;replace fh:=Lib.hid fh;replace fs:=Lib.hid fs;replace hbX:=Lib.hid hbX;replace hy:=Lib.hid hy;replace hno:=Lib.hid hno;have BW:=Lib.hid (Below.refl w.heap.size w);refine (callsIn_wide (n:=9)).1 ?_;refine callsIn_of_wp_marks Tryz.func32 rfl trivial ?_ rfl;simp only [Tryz.ntmps32,List.size_toArray,List.length_cons,List.length_nil,Nat.reduceAdd,Nat.reduceSub,Array.replicate_succ,Array.replicate_zero,List.push_toArray,List.append_toArray,List.nil_append,List.cons_append];refine wpIn_wide.2 ?_;go_upto_region 1 with fail
 generalize hXX0:World.alloc (World.alloc (World.alloc w _) _) _=X0;obtain⟨q0,q1,q2,hA,hzX0⟩:=box3 hXX0;clear hXX0;have BW:=Lib.hid hA;clear hA;have SB:=Lib.hid q0;clear q0;have XB:=Lib.hid q1;clear q1;have RB:=Lib.hid q2;clear q2;have hS1:=SB.out;obtain⟨s0,s1,s2,s3,s4,s5,s6,s7,s8,s9,s10,s11,s12,s13⟩:=ZF (m:=m) (k:=k) hS1;clear hS1;have HZ0:=Lib.hid hzX0;clear hzX0;go_wp2_with fail;refine (Z2o m _ _ _ _ _ k X0).mono ?_;rintro e W0 ⟨rfl,hW0⟩;obtain⟨BB,hA0,hz0⟩:=box1 hW0.symm;clear hW0 s0 s1 s2 s3 s4 s5 s6 s7 s8 s9 s10 s11 s12 s13;have zz0:w.heap.size+3=X0.heap.size:=HZ0.out.symm;have zz2:X0.heap.size<W0.heap.size:=by omega
 have zz3:w.heap.size+3≤X0.heap.size:=by omega
 clear hz0;have BW0:=zAg BW hA0;have SB0:=Lib.hid (SB.out.below hA0 (by omega))
 have XB0:=Lib.hid (XB.out.below hA0 (by omega))
 have RB0:=Lib.hid (RB.out.below hA0 (by omega))
 clear zz0;have hseq:=fs.out W0 X0.heap.size (fun _=>False) BW0.out BB (fun b hb=>hb.elim)
 clear hA0 BB;go_wp2;refine (wpIn_wide (n:=9)).1 ?_;refine Z1b (by omega) (gf:=109) (lb:=#[.pointer (some ⟨X0.heap.size,0,none⟩)]) rfl (enters_of Tryz.func109 (by kernel_rfl) rfl) hseq bkH.put (fun h k=>bkK.trans h k) (fun W o o' h1 h2=>bkK.put W o o' (by omega) h1 h2) (Below.refl _ _) (fun _=>rfl)
  (fun pre W=>(∀ y:Value × Nat,y ∈ pre→f y.2=false)∧Below W0.heap.size W0 W)
  (fun c s W=>(c=.ret∧∃ (s0:List (Value × Nat)) (x:Value × Nat),s=s0++[x]∧(∀ y:Value × Nat,y ∈ s0→f y.2=false)∧f x.2=true)∧Has W (w.heap.size+1+1) #[.bool br] 4∧Below w.heap.size w W)
  (OwnD.and (OwnD.pure (fun pre=>∀ y:Value × Nat,y ∈ pre→f y.2=false)) (OwnD.below W0 (Nat.le_refl _) (Nat.le_refl _) (fun _ _ h=>h.elim))) (fun c=>OwnD.and (OwnD.pure (fun s=>c=.ret∧∃ (s0:List (Value × Nat)) (x:Value × Nat),s=s0++[x]∧(∀ y:Value × Nat,y ∈ s0→f y.2=false)∧f x.2=true)) (OwnD.and (OwnD.has (w.heap.size+1+1) (fun _ h=>h) (fun _=>#[.bool br]) 4) (OwnD.below w (Nat.le_refl _) (by omega) (fun _ _ h=>h.elim)))) ⟨(fun y hy=>by cases hy),Below.refl _ _⟩ ?round ?done ?stop
 case round =>
  rintro ll rm pre ⟨v,j⟩ W hll hI0 hx hsz;obtain⟨a9,c9,hv9⟩:=hx.1.len;simp only at hv9;subst hv9;rw [hbX.out];clear hseq;gi_wp2;refine⟨trivial,?_⟩;rintro V9 ⟨r9,hr9'⟩ ⟨hI1,hI2⟩ hx9 hz9;have HP:=Lib.hid hx9.1;have HI:=Lib.hid (And.intro hI1 hI2);have hz8:=hI2.size;have BV:=zAg BW0 hI2;have hO9:=XB0.out.below hI2 (by omega)
  have o4:=hO9.cell (i:=4) rfl;have o5:=hO9.cell (i:=5) rfl;clear hI0 hx hI1 hI2 hx9 hr9' hO9;have HL:=Lib.hid hll;clear hll;have g4:=Lib.hid (fh.out V9 _ j HP.out);cases hfj:f j
  ·rw [hfj] at g4
   have HJ:=Lib.hid hfj;clear hfj
   gi_wp2_with fail
   refine⟨trivial,(fun h=>by cases h),(CallsIn.inRound ll (callsIn_wide.2 g4.out)).mono ?_⟩
   rintro e W4 ⟨rfl,b4⟩;have B4:=Lib.hid b4;clear b4 o4 o5 g4;gi_wp2;refine⟨Z2z B4.out,bkK.low B4.out (by omega),?_,HI.out.2.trans (B4.out.mono HI.out.2.size)⟩
   intro y hy;rcases List.mem_append.1 hy with h | h
   ·exact HI.out.1 y h
   ·rw [List.mem_singleton.1 h];exact HJ.out
  ·rw [hfj] at g4
   have HJ:=Lib.hid hfj;clear hfj
   gi_wp2_with fail
   refine⟨trivial,(fun h=>by cases h),(CallsIn.inRound ll (callsIn_wide.2 g4.out)).mono ?_⟩
   rintro e W4 ⟨rfl,b4⟩;have B4:=Lib.hid b4;clear b4 o4 o5 g4;have I4:=Lib.hid (HI.out.2.trans (B4.out.mono HI.out.2.size));have BV4:=Lib.hid (BW0.out.trans (I4.out.mono BW0.out.size));have hS9:=SB0.out.below I4.out (by omega)
   have hO9:=XB0.out.below I4.out (by omega)
   obtain⟨s0,s1,s2,s3,s4,s5,s6,s7,s8,s9,s10,s11,s12,s13⟩:=ZF (m:=m) (k:=k) hS9;have t0:=hO9.cell (i:=0) rfl;have t1:=hO9.cell (i:=1) rfl;have t2:=hO9.cell (i:=2) rfl;have t3:=hO9.cell (i:=3) rfl;have t4:=hO9.cell (i:=4) rfl;have t5:=hO9.cell (i:=5) rfl;clear hS9 hO9;have g5:=Lib.hid (fr.out W4 BV4.out)
   gi_wp2_with fail
   refine⟨trivial,(fun h=>by cases h),(CallsIn.inRound ll (callsIn_wide.2 g5.out)).mono ?_⟩
   rintro e W6 ⟨rfl,b6⟩;have B6:=Lib.hid b6;clear b6 s0 s1 s2 s3 s4 s5 s6 s7 s8 s9 s10 s11 s12 s13 t0 t1 t2 t3 t4 t5 g5;have I6:=Lib.hid (I4.out.trans (B6.out.mono I4.out.size));have hR6:=RB0.out.below I6.out (by omega)
   have r0:=hR6.cell (i:=0) rfl;have r1:=Ze hR6 0;have H6:=Lib.hid hR6;clear hR6;have z4:=B4.out.size;have z6:=B6.out.size;gi_wp2;have hO1:=H6.out.set 0 (.bool br);simp only [zq4,zr4,zs4] at hO1;refine⟨(Z2z (B4.out.trans (B6.out.mono z4))).trans (KeepsFrom.of_grownBy (ZJ W6 (w.heap.size+1+1) 0 _) (fun j e=>by cases e;omega)),⟨rfl,pre,_,rfl,HI.out.1,HJ.out⟩,hO1,?_⟩
   exact grown_low' (BW0.out.trans (I6.out.mono BW0.out.size)) (ZJ W6 (w.heap.size+1+1) 0 _) (by omega) (Nat.le_refl _)
 case stop =>
  rintro D c s W5 hD ⟨j,hj,hs⟩ ⟨⟨rfl,s0,x,hs0,ha,hx⟩,hI1,hI2⟩ hK;obtain⟨p1,p2,p3⟩:=Z31 hs hj hs0 ha hx;have y1:=(hI1.putO (.deferred none) hK rfl).cell (i:=0) rfl;have HF:=Lib.hid (And.intro (hy.out _ p1 p2) (Z0U hI2 (.deferred none) (show w.heap.size≤D by omega) (Nat.le_refl _)))
  have HK:=Lib.hid hK;have HY:=Lib.hid y1;clear hI1 hI2 hK hseq hs hs0 ha hx p1 p2 p3 y1;refine wpIn_wide.2 ?_;go_wp2;refine⟨by simp,.inl ⟨_,_,rfl,run_takeDeferred HK.out,?_⟩⟩
  exact⟨.bool br,by simp [results,Tryz.f32,go_sem,HY.out],by rw [HF.out.1];simp,HF.out.2⟩
 case done =>
  rintro D xs W5 hD hxs ⟨hI1,hI2⟩ hK;have AL:=Lib.hid (hno.out (Z69 hxs hI1));have hR:=RB0.out.below hI2 (by omega)
  have y0:=hR.cell (i:=0) rfl;have y1:=Ze hR 0;have hz5:=hI2.size;have HI:=Lib.hid (And.intro hI2 (And.intro hR hK));clear hI1 hI2 hK hseq hxs hR;go_wp2;have hO1:=HI.out.2.1.set 0 (.bool false);simp only [zq4,zr4,zs4] at hO1;have hK2:(W5.setCell ⟨(w.heap.size+1+1),0,none⟩ (.bool false)).heap[D]?=some (.deferred (some [])):=(Below.heap_setCell W5 ⟨(w.heap.size+1+1),0,none⟩ _ D (by show D≠(w.heap.size+1+1);omega)).trans HI.out.2.2
  have y2:=(hO1.putO (.deferred none) hK2 rfl).cell (i:=0) rfl;refine⟨by simp,.inl ⟨_,_,rfl,run_takeDeferred hK2,?_⟩⟩
  exact⟨.bool false,by simp [results,Tryz.f32,go_sem,y2],by rw [AL.out];simp,Z0U (BW0.out.trans (grown_low' (HI.out.1.mono BW0.out.size) (ZJ W5 (w.heap.size+1+1) 0 _) (by omega) BW0.out.size)) (.deferred none) (by omega) (Nat.le_refl _)⟩
end
theorem Z9d {m:Msn} (h:fewB m=true):m.ways.length≤8:=by
 simp only [fewB,Bool.and_eq_true,decide_eq_true_eq] at h;omega
theorem fix_in {m:Msn} {x:Int} (h:x ∈ fixL m):0<x∧x<m.ways.length∧(wy m.ways x.toNat).fix≠0:=by
 obtain⟨j,rfl,h1,h2,h3⟩:=(Z0P m _ _).1 h;exact⟨by omega,by omega,by rw [Int.toNat_natCast];omega⟩
theorem sub_ok {m:Msn} (hV:validB m=true) {s:List Int} (h:s.Sublist (fixL m)):radOkB m s=true:=by
 unfold radOkB;rw [hV,Bool.true_and];exact Z7j (List.Pairwise.sublist h (Z1z m _)) fun x hx=>fix_in (h.subset hx)
theorem kp_of {m:Msn} {s:List Int} (h:radOkB m s=true):kpL m s=leadV m s∧kpK m s=leadK m s∧kpE m s=0:=by
 simp [kpL,kpK,kpE,h]
theorem kpL_nn (m:Msn) (s:List Int):0≤kpL m s:=by
 unfold kpL leadV
 split <;> omega
theorem Z8v (m:Msn):IsBest (kpL m) (allTo (fixL m) ((fixL m).length+1)) (bestP m):=by
 have h:=Z64 (kpL m) (kpL_nn m) (allTo (fixL m) ((fixL m).length+1)) [] (-1,[]) (by rw [List.nil_append];exact Z26 (Z1z m m.ways.length) _) (.inl ⟨rfl,rfl⟩) (.inl (fun h=>by
  have:([]:List Int) ∈ allTo (fixL m) ((fixL m).length+1):=Z2v.2 ⟨List.nil_sublist _,by simp⟩
  rw [h] at this;cases this))
 simpa [bestP,farL] using h
theorem Z6g (m:Msn):(bestP m).2.Sublist (fixL m):=(Z2v.1 (Z8v m).1).1
theorem Z4K (m:Msn):kpL m (bestP m).2=(bestP m).1:=(Z8v m).2.1.symm
end Go.Proofs.YtdolkgihppgpcaaGreat
