/- package scene: Breaks. | scenes: plain laws; what Worst returns. | The head of the laws of layer 32. (Printed by tools/mkhead32.py.) | the example .. -/
import Derived.Maps.OwnSet
import Derived.Test.YtdolkgihppgpcaaGreatBin34
set_option linter.unusedSimpArgs false
set_option linter.unusedVariables false
namespace Go.Proofs.YtdolkgihppgpcaaGreat
section
attribute [local irreducible] wpQuiet
open Go.RowKit Go.Maps
theorem zeroF0 (w:World):(zeroValue 72).run Tryz.prog w=.ok .nilFunc w:=by kernel_rfl
def askD:DataW Value:=(((((DataW.map []).put (.int .i64 1) (.held (.func (.func 31) #[] #[]))).put (.int .i64 5) (.held (.func (.func 32) #[] #[]))).put (.int .i64 2) (.held (.func (.func 33) #[] #[]))).put (.int .i64 3) (.held (.func (.func 34) #[] #[]))).put (.int .i64 4) (.held (.func (.func 34) #[] #[]))
theorem ZaD:askD.atKey (.int .i64 0) (.held .nilFunc)=.held .nilFunc∧askD.atKey (.int .i64 1) (.held .nilFunc)=.held (.func (.func 31) #[] #[])∧askD.atKey (.int .i64 5) (.held .nilFunc)=.held (.func (.func 32) #[] #[])∧askD.atKey (.int .i64 2) (.held .nilFunc)=.held (.func (.func 33) #[] #[])∧askD.atKey (.int .i64 3) (.held .nilFunc)=.held (.func (.func 34) #[] #[])∧askD.atKey (.int .i64 4) (.held .nilFunc)=.held (.func (.func 34) #[] #[]):=⟨rfl,rfl,rfl,rfl,rfl,rfl⟩
theorem Z9P:Maps.has askD (.int .i64 0)=false∧Maps.has askD (.int .i64 1)=true∧Maps.has askD (.int .i64 5)=true∧Maps.has askD (.int .i64 2)=true∧Maps.has askD (.int .i64 3)=true∧Maps.has askD (.int .i64 4)=true:=⟨rfl,rfl,rfl,rfl,rfl,rfl⟩
noncomputable def askB (m:Msn) (l:List Int) (k:Nat) (K q3:Int) (x:Pt):Bool:=if K=1 then inO m l k q3 x else if K=5 then (bkAny m l k x && onR m q3 x) else if K=2 then ntH m l k q3 x else if K=3∨K=4 then notB q3 x else false
noncomputable def brB (m:Msn) (l:List Int) (q1 q2 q3:Int) (x:Pt):Bool:=radOkB m l && (decide (kpL m l=q1) && (decide (kpK m l=q2) && askB m l (leadN m l) (kpK m l) q3 x))
set_option maxRecDepth 8000 in
set_option maxHeartbeats 1600000 in
theorem Z8N (m:Msn) (vw vh vr vs:Value) (l:List Int) (q1 q2 q3:Int) (x:Pt) (w:World) (hm:MsnAt w.heap.size w m vw vh vr) (hl:Z8 w.heap.size w vs l) (hok:radOkB m l=false) :
  Calls Tryz.prog 12 #[.agg (Zb m vw vh vr),.agg #[vs,.int .i64 q1,.int .i64 q2,.int .i64 q3,.int .i64 x.x,.int .i64 x.y]] w fun e w'=>e=.returned (.tuple #[.bool false,.int .i64 1])∧Below w.heap.size w w':=by
 have f2:=fun w1 (B:Below w.heap.size w w1)=>Z0o m vw vh vr vs l w1 ((hm.below B).mono B.size) ((hl.below B).mono B.size)
 simp only [kpE,hok,Bool.false_eq_true,if_false] at f2;obtain⟨-,al,cl,rfl,-⟩:=hl;obtain⟨⟨-,a1,c1,rfl,-⟩,⟨-,a2,c2,rfl,-⟩,⟨-,a3,c3,rfl,-⟩⟩:=hm;unfold Zb at *;generalize kpL m l=kl at *;generalize kpK m l=kk at *;obtain⟨px,py⟩:=x;clear hok;replace f2:=Lib.hid f2;have BW:=Lib.hid (Below.refl w.heap.size w);go_enter Tryz.func12,Tryz.ntmps12;go_upto_region 1 with fail
 generalize hXX0:World.alloc (World.alloc w _) _=X0;obtain⟨q0,q1,hA,hzX0⟩:=box2 hXX0;clear hXX0;have BW:=Lib.hid hA;clear hA;have MB:=Lib.hid q0;clear q0;have XB:=Lib.hid q1;clear q1 hzX0;obtain⟨c0,c1,c2,c3,c4,c5,c6,c7,c8,c9,c10⟩:=Zf (m:=m) MB.out;have y0:=XB.out.cell (i:=0) rfl;go_wp2_with fail;refine (f2.out _ BW.out).mono ?_;rintro e w1 ⟨rfl,b1⟩;replace BW:=zAg BW b1;have B_X0:=Lib.hid b1;clear b1 y0 c0 c1 c2 c3 c4 c5 c6 c7 c8 c9 c10;go_wp2;go_ret2;exact⟨rfl,BW.out⟩
set_option maxRecDepth 8000 in
set_option maxHeartbeats 6400000 in
theorem Z73 (m:Msn) (vw vh vr vs:Value) (l:List Int) (q1 q2 q3:Int) (x:Pt) (w:World) (hm:MsnAt w.heap.size w m vw vh vr) (hl:Z8 w.heap.size w vs l) (hok:radOkB m l=true) :
  Calls Tryz.prog 12 #[.agg (Zb m vw vh vr),.agg #[vs,.int .i64 q1,.int .i64 q2,.int .i64 q3,.int .i64 x.x,.int .i64 x.y]] w fun e w'=>e=.returned (.tuple #[.bool (decide ((leadN m l:Int)=q1) && (decide (leadK m l=q2) && askB m l (leadN m l) (leadK m l) q3 x)),.int .i64 0])∧Below w.heap.size w w':=by
 have hvs:validB m=true∧stopsB m l=true:=by simpa [radOkB] using hok
 have V:=(Zo m).1 hvs.1;have n41:=V.n41;have f2:=fun w1 (B:Below w.heap.size w w1)=>Z0o m vw vh vr vs l w1 ((hm.below B).mono B.size) ((hl.below B).mono B.size)
 have hkk:(leadK m l=0∨leadK m l=1∨leadK m l=5∨leadK m l=2∨leadK m l=3∨leadK m l=4)∧(leadK m l≠0→leadN m l+1<m.ways.length):=by
  have hb:=Z3T m l (leadN m l);unfold leadK
  split
  ·exact⟨by omega,fun _=>by omega⟩
  ·exact⟨.inl rfl,fun h=>(h rfl).elim⟩
 obtain⟨k1,k2,k3⟩:=kp_of hok;rw [k1,k2,k3,show leadV m l=(leadN m l:Int) from rfl] at f2
 have hln:=(Z0U m l).1;generalize leadN m l=k at *;have f3:=fun w1 (B:Below w.heap.size w w1)=>Z46 m l vw vh vr vs k w1 ((hm.below B).mono B.size) ((hl.below B).mono B.size) hok
 obtain⟨K,hK⟩:∃ K,leadK m l=K:=⟨_,rfl⟩;simp only [hK] at *;clear hK hok hvs k1 k2 k3;obtain⟨hK6,hkw⟩:=hkk;have g1:=fun vb va W T hk=>Z6A m l vw vh vr vb va W T V k hk vs q1 q2 q3 x
 have g5:=fun vb va W T hk=>Z55 m l vw vh vr vb va W T V k hk vs q1 q2 q3 x
 have g2:=fun vb va W T hk=>Z48 m l vw vh vr vb va W T V k hk vs q1 q2 q3 x
 have g3:=fun vb va W=>Z47 (stgC m vw vh vr vb va k) _ _ _ _ _ _ _ _ _ _ _ _ _ _ rfl vs q1 q2 q3 x W
 obtain⟨-,al,cl,rfl,-⟩:=hl;obtain⟨⟨-,a1,c1,rfl,-⟩,⟨-,a2,c2,rfl,-⟩,⟨-,a3,c3,rfl,-⟩⟩:=hm;unfold Zb at *;obtain⟨px,py⟩:=x;simp only at g1 g5 g2 g3;replace f2:=Lib.hid f2;replace f3:=Lib.hid f3;replace g1:=Lib.hid g1;replace g2:=Lib.hid g2;replace g3:=Lib.hid g3;replace g5:=Lib.hid g5;have HA:=ZaD;have HH:=Z9P;unfold askD at HA HH;replace HA:=Lib.hid HA;replace HH:=Lib.hid HH;have hmm:=@run_makeMap Tryz.prog;clear V;have BW:=Lib.hid (Below.refl w.heap.size w);go_enter Tryz.func12,Tryz.ntmps12;go_upto_region 1 with fail
 generalize hXX0:World.alloc (World.alloc w _) _=X0;obtain⟨q0,q1,hA,hzX0⟩:=box2 hXX0;clear hXX0;have BW:=Lib.hid hA;clear hA;have MB:=Lib.hid q0;clear q0;have XB:=Lib.hid q1;clear q1 hzX0;obtain⟨c0,c1,c2,c3,c4,c5,c6,c7,c8,c9,c10⟩:=Zf (m:=m) MB.out;have y0:=XB.out.cell (i:=0) rfl;go_wp2_with fail;refine (f2.out _ BW.out).mono ?_;rintro e w1 ⟨rfl,b1⟩;replace BW:=zAg BW b1;have B_X0:=Lib.hid b1;clear b1 y0 c0 c1 c2 c3 c4 c5 c6 c7 c8 c9 c10;have M0:=Lib.hid (World.ownsMap_made w1 Tryz.prog 3 fnR);have BM:=Lib.hid ((Below.refl w1.heap.size w1).alloc (Nat.le_refl _) (.map #[] 0));go_upto_region 5 with (first | (refine ZA (H:=Value) _ rfl _ _ _ 74 rfl 3 72 keyInt Tryz.underlying74 fnR w1.heap.size _ _ rfl M0.out (by unfold maxLen;omega) (.int .i64 1) (.func (.func 31) #[] #[]) (.int .i64 1) rfl rfl (keyOf_int_mk Tryz.underlying3 rfl) (.held (.func (.func 31) #[] #[])) [] rfl ?_;intro w9 h9 g9;have M0':=Lib.hid h9;replace BM:=Lib.hid (BM.out.grown g9 BM.out.size (fun j hj=>by cases hj;exact Nat.le_refl _));clear M0 h9 g9;have M0:=M0';clear M0') | (refine ZA (H:=Value) _ rfl _ _ _ 74 rfl 3 72 keyInt Tryz.underlying74 fnR w1.heap.size _ _ rfl M0.out (by unfold maxLen;omega) (.int .i64 5) (.func (.func 32) #[] #[]) (.int .i64 5) rfl rfl (keyOf_int_mk Tryz.underlying3 rfl) (.held (.func (.func 32) #[] #[])) [] rfl ?_;intro w9 h9 g9;have M0':=Lib.hid h9;replace BM:=Lib.hid (BM.out.grown g9 BM.out.size (fun j hj=>by cases hj;exact Nat.le_refl _));clear M0 h9 g9;have M0:=M0';clear M0') | (refine ZA (H:=Value) _ rfl _ _ _ 74 rfl 3 72 keyInt Tryz.underlying74 fnR w1.heap.size _ _ rfl M0.out (by unfold maxLen;omega) (.int .i64 2) (.func (.func 33) #[] #[]) (.int .i64 2) rfl rfl (keyOf_int_mk Tryz.underlying3 rfl) (.held (.func (.func 33) #[] #[])) [] rfl ?_;intro w9 h9 g9;have M0':=Lib.hid h9;replace BM:=Lib.hid (BM.out.grown g9 BM.out.size (fun j hj=>by cases hj;exact Nat.le_refl _));clear M0 h9 g9;have M0:=M0';clear M0') | (refine ZA (H:=Value) _ rfl _ _ _ 74 rfl 3 72 keyInt Tryz.underlying74 fnR w1.heap.size _ _ rfl M0.out (by unfold maxLen;omega) (.int .i64 3) (.func (.func 34) #[] #[]) (.int .i64 3) rfl rfl (keyOf_int_mk Tryz.underlying3 rfl) (.held (.func (.func 34) #[] #[])) [] rfl ?_;intro w9 h9 g9;have M0':=Lib.hid h9;replace BM:=Lib.hid (BM.out.grown g9 BM.out.size (fun j hj=>by cases hj;exact Nat.le_refl _));clear M0 h9 g9;have M0:=M0';clear M0') | (refine ZA (H:=Value) _ rfl _ _ _ 74 rfl 3 72 keyInt Tryz.underlying74 fnR w1.heap.size _ _ rfl M0.out (by unfold maxLen;omega) (.int .i64 4) (.func (.func 34) #[] #[]) (.int .i64 4) rfl rfl (keyOf_int_mk Tryz.underlying3 rfl) (.held (.func (.func 34) #[] #[])) [] rfl ?_;intro w9 h9 g9;have M0':=Lib.hid h9;replace BM:=Lib.hid (BM.out.grown g9 BM.out.size (fun j hj=>by cases hj;exact Nat.le_refl _));clear M0 h9 g9;have M0:=M0';clear M0') | go_in)
 obtain⟨X5,hX5,-⟩:=Z35 BM.out;subst hX5;have b5:=BM.out;clear BM;replace BW:=zAg BW b5;replace B_X0:=zAg B_X0 b5;clear b5;have MB5:=Lib.hid (zCn MB B_X0);have XB5:=Lib.hid (zCn XB B_X0);have y1:=XB5.out.cell (i:=1) rfl;have y2:=XB5.out.cell (i:=2) rfl;rcases hK6 with rfl | rfl | rfl | rfl | rfl | rfl
 ·skip
  have hat9:=HA.out.1;have has9:=HH.out.1;have hwf:(Lit.int .i64 0).wf=true:=rfl;go_wp2_with (at_lookup;refine wpList_lookup_own_ok (H:=Value) _ rfl _ _ 74 rfl 3 72 keyInt Tryz.underlying74 fnR (zeroF0 _) (.held .nilFunc) [] rfl w1.heap.size _ _ rfl M0.out _ _ rfl (keyOf_int_mk Tryz.underlying3 hwf) ?_;intro v9 ps9 h9;replace h9:=ZL h9 hat9;subst h9;rw [has9]);go_ret2;exact⟨by simp [askB],BW.out⟩
 ·skip
  have hat9:=HA.out.2.1;have has9:=HH.out.2.1;have hwf:(Lit.int .i64 1).wf=true:=rfl;have hk:=hkw (by decide)
  by_cases h1:(k:Int)=q1;rotate_left
  ·have d1:((k:Int) != q1)=true:=by simpa using h1
   go_wp2_with (at_lookup;refine wpList_lookup_own_ok (H:=Value) _ rfl _ _ 74 rfl 3 72 keyInt Tryz.underlying74 fnR (zeroF0 _) (.held .nilFunc) [] rfl w1.heap.size _ _ rfl M0.out _ _ rfl (keyOf_int_mk Tryz.underlying3 hwf) ?_;intro v9 ps9 h9;replace h9:=ZL h9 hat9;subst h9;rw [has9]);go_ret2;exact⟨by simp [h1],BW.out⟩
  by_cases h2:(1:Int)=q2;rotate_left
  ·have d2:((1:Int) != q2)=true:=by simpa using h2
   subst h1;go_wp2_with (at_lookup;refine wpList_lookup_own_ok (H:=Value) _ rfl _ _ 74 rfl 3 72 keyInt Tryz.underlying74 fnR (zeroF0 _) (.held .nilFunc) [] rfl w1.heap.size _ _ rfl M0.out _ _ rfl (keyOf_int_mk Tryz.underlying3 hwf) ?_;intro v9 ps9 h9;replace h9:=ZL h9 hat9;subst h9;rw [has9]);go_ret2;exact⟨by simp [h2],BW.out⟩
  subst h1 h2;have d1:((k:Int) != (k:Int))=false:=by simp
  go_upto_region 8 with (at_lookup;refine wpList_lookup_own_ok (H:=Value) _ rfl _ _ 74 rfl 3 72 keyInt Tryz.underlying74 fnR (zeroF0 _) (.held .nilFunc) [] rfl w1.heap.size _ _ rfl M0.out _ _ rfl (keyOf_int_mk Tryz.underlying3 hwf) ?_;intro v9 ps9 h9;replace h9:=ZL h9 hat9;subst h9;rw [has9])
  clear y1 y2 hat9 has9;refine (wpIn_wide (n:=9)).1 ?_;refine Zg (Zl _) 9 (fun X=>Below X5.heap.size X5 X) (by kernel_rfl) (by kernel_rfl) (by kernel_rfl) fun hH inv0=>?_
  have hD:=Below.drew (Below.refl X5.heap.size X5);generalize hXX9:X5.drew=X9 at *;clear hXX9;replace BW:=zAg BW hD;replace B_X0:=zAg B_X0 hD;have B_X5:=Lib.hid hD;clear hD;refine sk hH (i:=0) (v:=.func (.func 31) #[] #[]) (Zc rfl) inv0 (fun X hX=>?_) fun inv1=>?_
  ·go_simp
  simp only [Act.put,zq4,zr4,zs4];clear inv0;refine sk hH (i:=1) (v:=.agg #[.slice a1 m.ways.length (m.ways.length+c1),.slice a2 m.home.length (m.home.length+c2),.int .i64 m.start,.slice a3 m.rocks.length (m.rocks.length+c3),.int .i64 m.speed,.int .i64 m.part,.int .i64 m.flow,.int .i64 m.idle,.int .i64 m.drive,.int .i64 m.battery,.int .i64 m.deadline]) (Zc rfl) inv1 (fun X hX=>?_) fun inv2=>?_
  ·have hh:=MB5.out.below hX MB5.out.lt;obtain⟨c0,c1,c2,c3,c4,c5,c6,c7,c8,c9,c10⟩:=Zf (m:=m) hh;go_simp
  simp only [Act.put,zq4,zr4,zs4];clear inv1;refine sk hH (i:=2) (v:=.pointer (some ⟨w.heap.size+1,0,none⟩)) (Zc rfl) inv2 (fun X hX=>?_) fun inv3=>?_
  ·go_simp
  simp only [Act.put,zq4,zr4,zs4];clear inv2;refine sk hH (i:=3) (v:=.slice al l.length (l.length+cl)) (Zc rfl) inv3 (fun X hX=>?_) fun inv4=>?_
  ·have hh:=XB5.out.below hX XB5.out.lt;have t0:=hh.cell (i:=0) rfl;have t1:=hh.cell (i:=1) rfl;have t2:=hh.cell (i:=2) rfl;have t3:=hh.cell (i:=3) rfl;have t4:=hh.cell (i:=4) rfl;have t5:=hh.cell (i:=5) rfl;go_simp
  simp only [Act.put,zq4,zr4,zs4];clear inv3;refine sk hH (i:=4) (v:=.int .i64 (k:Int)) (Zc rfl) inv4 (fun X hX=>?_) fun inv5=>?_
  ·go_simp
  simp only [Act.put,zq4,zr4,zs4];clear inv4;refine sk hH (i:=6) (v:=.agg #[.slice al l.length (l.length+cl),.int .i64 (k:Int),.int .i64 1,.int .i64 q3,.int .i64 px,.int .i64 py]) (Zc rfl) inv5 (fun X hX=>?_) fun inv6=>?_
  ·have hh:=XB5.out.below hX XB5.out.lt;have t0:=hh.cell (i:=0) rfl;have t1:=hh.cell (i:=1) rfl;have t2:=hh.cell (i:=2) rfl;have t3:=hh.cell (i:=3) rfl;have t4:=hh.cell (i:=4) rfl;have t5:=hh.cell (i:=5) rfl;go_simp
  simp only [Act.put,zq4,zr4,zs4];clear inv5;have inv7:=HeadInv.put2 inv6 (j:=5) (by kernel_rfl) (by omega)
  clear inv6;refine sa1 (r:=5) B_X5.out ?_;refine Zq (Zc rfl) rfl (f:=29) (args:=#[.agg #[.slice a1 m.ways.length (m.ways.length+c1),.slice a2 m.home.length (m.home.length+c2),.int .i64 m.start,.slice a3 m.rocks.length (m.rocks.length+c3),.int .i64 m.speed,.int .i64 m.part,.int .i64 m.flow,.int .i64 m.idle,.int .i64 m.drive,.int .i64 m.battery,.int .i64 m.deadline],.slice al l.length (l.length+cl),.int .i64 (k:Int)]) (by go_simp) (f3.out X9 BW.out) ?_
  rintro e w2 ⟨vb,va,rfl,t6,b2,-,-⟩;refine⟨_,rfl,?_⟩;simp only [Act.put,zq4,zr4,zs4];replace BW:=zAg BW b2;replace B_X0:=zAg B_X0 b2;replace B_X5:=zAg B_X5 b2;clear b2;have T6:=Lib.hid t6;clear t6;obtain⟨-,ab,cb,hvb,-⟩:=T6.out.bef;subst hvb;obtain⟨-,aa,ca,hva,-⟩:=T6.out.aft;subst hva;have inv8:=HeadInv.put2 inv7 (j:=7) (by kernel_rfl) (by omega)
  clear inv7;refine sa1 (r:=7) B_X5.out ?_;refine Zq (Zc rfl) rfl (f:=31) (args:=#[.agg (stgC m (.slice a1 m.ways.length (m.ways.length+c1)) (.slice a2 m.home.length (m.home.length+c2)) (.slice a3 m.rocks.length (m.rocks.length+c3)) (.slice ab (rdBU m l).length ((rdBU m l).length+cb)) (.slice aa (rdAU m l).length ((rdAU m l).length+ca)) k),.agg #[.slice al l.length (l.length+cl),.int .i64 (k:Int),.int .i64 1,.int .i64 q3,.int .i64 px,.int .i64 py]]) (by go_simp) (g1.out _ _ w2 T6.out hk) ?_
  rintro e w3 ⟨rfl,b3⟩;refine⟨_,rfl,?_⟩;simp only [Act.put,zq4,zr4,zs4];replace BW:=zAg BW b3;replace B_X0:=zAg B_X0 b3;replace B_X5:=zAg B_X5 b3;clear b3;refine sk hH (i:=8) (v:=.bool (inO m l k q3 ⟨px,py⟩)) (Zc rfl) inv8 (fun X hX=>?_) fun inv9=>?_
  ·go_simp
  simp only [Act.put,zq4,zr4,zs4];clear inv8 inv9 hH;refine Zi (by kernel_rfl) B_X5.out ?_
  simp only [List.drop_succ_cons,List.drop_zero];clear B_X5;gi_wp2;go_wp2;go_ret2;exact⟨by simp [askB],BW.out⟩
 ·skip
  have hat9:=HA.out.2.2.1;have has9:=HH.out.2.2.1;have hwf:(Lit.int .i64 5).wf=true:=rfl;have hk:=hkw (by decide)
  by_cases h1:(k:Int)=q1;rotate_left
  ·have d1:((k:Int) != q1)=true:=by simpa using h1
   go_wp2_with (at_lookup;refine wpList_lookup_own_ok (H:=Value) _ rfl _ _ 74 rfl 3 72 keyInt Tryz.underlying74 fnR (zeroF0 _) (.held .nilFunc) [] rfl w1.heap.size _ _ rfl M0.out _ _ rfl (keyOf_int_mk Tryz.underlying3 hwf) ?_;intro v9 ps9 h9;replace h9:=ZL h9 hat9;subst h9;rw [has9]);go_ret2;exact⟨by simp [h1],BW.out⟩
  by_cases h2:(5:Int)=q2;rotate_left
  ·have d2:((5:Int) != q2)=true:=by simpa using h2
   subst h1;go_wp2_with (at_lookup;refine wpList_lookup_own_ok (H:=Value) _ rfl _ _ 74 rfl 3 72 keyInt Tryz.underlying74 fnR (zeroF0 _) (.held .nilFunc) [] rfl w1.heap.size _ _ rfl M0.out _ _ rfl (keyOf_int_mk Tryz.underlying3 hwf) ?_;intro v9 ps9 h9;replace h9:=ZL h9 hat9;subst h9;rw [has9]);go_ret2;exact⟨by simp [h2],BW.out⟩
  subst h1 h2;have d1:((k:Int) != (k:Int))=false:=by simp
  go_upto_region 8 with (at_lookup;refine wpList_lookup_own_ok (H:=Value) _ rfl _ _ 74 rfl 3 72 keyInt Tryz.underlying74 fnR (zeroF0 _) (.held .nilFunc) [] rfl w1.heap.size _ _ rfl M0.out _ _ rfl (keyOf_int_mk Tryz.underlying3 hwf) ?_;intro v9 ps9 h9;replace h9:=ZL h9 hat9;subst h9;rw [has9])
  clear y1 y2 hat9 has9;refine (wpIn_wide (n:=9)).1 ?_;refine Zg (Zl _) 9 (fun X=>Below X5.heap.size X5 X) (by kernel_rfl) (by kernel_rfl) (by kernel_rfl) fun hH inv0=>?_
  have hD:=Below.drew (Below.refl X5.heap.size X5);generalize hXX9:X5.drew=X9 at *;clear hXX9;replace BW:=zAg BW hD;replace B_X0:=zAg B_X0 hD;have B_X5:=Lib.hid hD;clear hD;refine sk hH (i:=0) (v:=.func (.func 32) #[] #[]) (Zc rfl) inv0 (fun X hX=>?_) fun inv1=>?_
  ·go_simp
  simp only [Act.put,zq4,zr4,zs4];clear inv0;refine sk hH (i:=1) (v:=.agg #[.slice a1 m.ways.length (m.ways.length+c1),.slice a2 m.home.length (m.home.length+c2),.int .i64 m.start,.slice a3 m.rocks.length (m.rocks.length+c3),.int .i64 m.speed,.int .i64 m.part,.int .i64 m.flow,.int .i64 m.idle,.int .i64 m.drive,.int .i64 m.battery,.int .i64 m.deadline]) (Zc rfl) inv1 (fun X hX=>?_) fun inv2=>?_
  ·have hh:=MB5.out.below hX MB5.out.lt;obtain⟨c0,c1,c2,c3,c4,c5,c6,c7,c8,c9,c10⟩:=Zf (m:=m) hh;go_simp
  simp only [Act.put,zq4,zr4,zs4];clear inv1;refine sk hH (i:=2) (v:=.pointer (some ⟨w.heap.size+1,0,none⟩)) (Zc rfl) inv2 (fun X hX=>?_) fun inv3=>?_
  ·go_simp
  simp only [Act.put,zq4,zr4,zs4];clear inv2;refine sk hH (i:=3) (v:=.slice al l.length (l.length+cl)) (Zc rfl) inv3 (fun X hX=>?_) fun inv4=>?_
  ·have hh:=XB5.out.below hX XB5.out.lt;have t0:=hh.cell (i:=0) rfl;have t1:=hh.cell (i:=1) rfl;have t2:=hh.cell (i:=2) rfl;have t3:=hh.cell (i:=3) rfl;have t4:=hh.cell (i:=4) rfl;have t5:=hh.cell (i:=5) rfl;go_simp
  simp only [Act.put,zq4,zr4,zs4];clear inv3;refine sk hH (i:=4) (v:=.int .i64 (k:Int)) (Zc rfl) inv4 (fun X hX=>?_) fun inv5=>?_
  ·go_simp
  simp only [Act.put,zq4,zr4,zs4];clear inv4;refine sk hH (i:=6) (v:=.agg #[.slice al l.length (l.length+cl),.int .i64 (k:Int),.int .i64 5,.int .i64 q3,.int .i64 px,.int .i64 py]) (Zc rfl) inv5 (fun X hX=>?_) fun inv6=>?_
  ·have hh:=XB5.out.below hX XB5.out.lt;have t0:=hh.cell (i:=0) rfl;have t1:=hh.cell (i:=1) rfl;have t2:=hh.cell (i:=2) rfl;have t3:=hh.cell (i:=3) rfl;have t4:=hh.cell (i:=4) rfl;have t5:=hh.cell (i:=5) rfl;go_simp
  simp only [Act.put,zq4,zr4,zs4];clear inv5;have inv7:=HeadInv.put2 inv6 (j:=5) (by kernel_rfl) (by omega)
  clear inv6;refine sa1 (r:=5) B_X5.out ?_;refine Zq (Zc rfl) rfl (f:=29) (args:=#[.agg #[.slice a1 m.ways.length (m.ways.length+c1),.slice a2 m.home.length (m.home.length+c2),.int .i64 m.start,.slice a3 m.rocks.length (m.rocks.length+c3),.int .i64 m.speed,.int .i64 m.part,.int .i64 m.flow,.int .i64 m.idle,.int .i64 m.drive,.int .i64 m.battery,.int .i64 m.deadline],.slice al l.length (l.length+cl),.int .i64 (k:Int)]) (by go_simp) (f3.out X9 BW.out) ?_
  rintro e w2 ⟨vb,va,rfl,t6,b2,-,-⟩;refine⟨_,rfl,?_⟩;simp only [Act.put,zq4,zr4,zs4];replace BW:=zAg BW b2;replace B_X0:=zAg B_X0 b2;replace B_X5:=zAg B_X5 b2;clear b2;have T6:=Lib.hid t6;clear t6;obtain⟨-,ab,cb,hvb,-⟩:=T6.out.bef;subst hvb;obtain⟨-,aa,ca,hva,-⟩:=T6.out.aft;subst hva;have inv8:=HeadInv.put2 inv7 (j:=7) (by kernel_rfl) (by omega)
  clear inv7;refine sa1 (r:=7) B_X5.out ?_;refine Zq (Zc rfl) rfl (f:=32) (args:=#[.agg (stgC m (.slice a1 m.ways.length (m.ways.length+c1)) (.slice a2 m.home.length (m.home.length+c2)) (.slice a3 m.rocks.length (m.rocks.length+c3)) (.slice ab (rdBU m l).length ((rdBU m l).length+cb)) (.slice aa (rdAU m l).length ((rdAU m l).length+ca)) k),.agg #[.slice al l.length (l.length+cl),.int .i64 (k:Int),.int .i64 5,.int .i64 q3,.int .i64 px,.int .i64 py]]) (by go_simp) (g5.out _ _ w2 T6.out hk) ?_
  rintro e w3 ⟨rfl,b3⟩;refine⟨_,rfl,?_⟩;simp only [Act.put,zq4,zr4,zs4];replace BW:=zAg BW b3;replace B_X0:=zAg B_X0 b3;replace B_X5:=zAg B_X5 b3;clear b3;refine sk hH (i:=8) (v:=.bool (bkAny m l k ⟨px,py⟩ && onR m q3 ⟨px,py⟩)) (Zc rfl) inv8 (fun X hX=>?_) fun inv9=>?_
  ·go_simp
  simp only [Act.put,zq4,zr4,zs4];clear inv8 inv9 hH;refine Zi (by kernel_rfl) B_X5.out ?_
  simp only [List.drop_succ_cons,List.drop_zero];clear B_X5;gi_wp2;go_wp2;go_ret2;exact⟨by simp [askB],BW.out⟩
 ·skip
  have hat9:=HA.out.2.2.2.1;have has9:=HH.out.2.2.2.1;have hwf:(Lit.int .i64 2).wf=true:=rfl;have hk:=hkw (by decide)
  by_cases h1:(k:Int)=q1;rotate_left
  ·have d1:((k:Int) != q1)=true:=by simpa using h1
   go_wp2_with (at_lookup;refine wpList_lookup_own_ok (H:=Value) _ rfl _ _ 74 rfl 3 72 keyInt Tryz.underlying74 fnR (zeroF0 _) (.held .nilFunc) [] rfl w1.heap.size _ _ rfl M0.out _ _ rfl (keyOf_int_mk Tryz.underlying3 hwf) ?_;intro v9 ps9 h9;replace h9:=ZL h9 hat9;subst h9;rw [has9]);go_ret2;exact⟨by simp [h1],BW.out⟩
  by_cases h2:(2:Int)=q2;rotate_left
  ·have d2:((2:Int) != q2)=true:=by simpa using h2
   subst h1;go_wp2_with (at_lookup;refine wpList_lookup_own_ok (H:=Value) _ rfl _ _ 74 rfl 3 72 keyInt Tryz.underlying74 fnR (zeroF0 _) (.held .nilFunc) [] rfl w1.heap.size _ _ rfl M0.out _ _ rfl (keyOf_int_mk Tryz.underlying3 hwf) ?_;intro v9 ps9 h9;replace h9:=ZL h9 hat9;subst h9;rw [has9]);go_ret2;exact⟨by simp [h2],BW.out⟩
  subst h1 h2;have d1:((k:Int) != (k:Int))=false:=by simp
  go_upto_region 8 with (at_lookup;refine wpList_lookup_own_ok (H:=Value) _ rfl _ _ 74 rfl 3 72 keyInt Tryz.underlying74 fnR (zeroF0 _) (.held .nilFunc) [] rfl w1.heap.size _ _ rfl M0.out _ _ rfl (keyOf_int_mk Tryz.underlying3 hwf) ?_;intro v9 ps9 h9;replace h9:=ZL h9 hat9;subst h9;rw [has9])
  clear y1 y2 hat9 has9;refine (wpIn_wide (n:=9)).1 ?_;refine Zg (Zl _) 9 (fun X=>Below X5.heap.size X5 X) (by kernel_rfl) (by kernel_rfl) (by kernel_rfl) fun hH inv0=>?_
  have hD:=Below.drew (Below.refl X5.heap.size X5);generalize hXX9:X5.drew=X9 at *;clear hXX9;replace BW:=zAg BW hD;replace B_X0:=zAg B_X0 hD;have B_X5:=Lib.hid hD;clear hD;refine sk hH (i:=0) (v:=.func (.func 33) #[] #[]) (Zc rfl) inv0 (fun X hX=>?_) fun inv1=>?_
  ·go_simp
  simp only [Act.put,zq4,zr4,zs4];clear inv0;refine sk hH (i:=1) (v:=.agg #[.slice a1 m.ways.length (m.ways.length+c1),.slice a2 m.home.length (m.home.length+c2),.int .i64 m.start,.slice a3 m.rocks.length (m.rocks.length+c3),.int .i64 m.speed,.int .i64 m.part,.int .i64 m.flow,.int .i64 m.idle,.int .i64 m.drive,.int .i64 m.battery,.int .i64 m.deadline]) (Zc rfl) inv1 (fun X hX=>?_) fun inv2=>?_
  ·have hh:=MB5.out.below hX MB5.out.lt;obtain⟨c0,c1,c2,c3,c4,c5,c6,c7,c8,c9,c10⟩:=Zf (m:=m) hh;go_simp
  simp only [Act.put,zq4,zr4,zs4];clear inv1;refine sk hH (i:=2) (v:=.pointer (some ⟨w.heap.size+1,0,none⟩)) (Zc rfl) inv2 (fun X hX=>?_) fun inv3=>?_
  ·go_simp
  simp only [Act.put,zq4,zr4,zs4];clear inv2;refine sk hH (i:=3) (v:=.slice al l.length (l.length+cl)) (Zc rfl) inv3 (fun X hX=>?_) fun inv4=>?_
  ·have hh:=XB5.out.below hX XB5.out.lt;have t0:=hh.cell (i:=0) rfl;have t1:=hh.cell (i:=1) rfl;have t2:=hh.cell (i:=2) rfl;have t3:=hh.cell (i:=3) rfl;have t4:=hh.cell (i:=4) rfl;have t5:=hh.cell (i:=5) rfl;go_simp
  simp only [Act.put,zq4,zr4,zs4];clear inv3;refine sk hH (i:=4) (v:=.int .i64 (k:Int)) (Zc rfl) inv4 (fun X hX=>?_) fun inv5=>?_
  ·go_simp
  simp only [Act.put,zq4,zr4,zs4];clear inv4;refine sk hH (i:=6) (v:=.agg #[.slice al l.length (l.length+cl),.int .i64 (k:Int),.int .i64 2,.int .i64 q3,.int .i64 px,.int .i64 py]) (Zc rfl) inv5 (fun X hX=>?_) fun inv6=>?_
  ·have hh:=XB5.out.below hX XB5.out.lt;have t0:=hh.cell (i:=0) rfl;have t1:=hh.cell (i:=1) rfl;have t2:=hh.cell (i:=2) rfl;have t3:=hh.cell (i:=3) rfl;have t4:=hh.cell (i:=4) rfl;have t5:=hh.cell (i:=5) rfl;go_simp
  simp only [Act.put,zq4,zr4,zs4];clear inv5;have inv7:=HeadInv.put2 inv6 (j:=5) (by kernel_rfl) (by omega)
  clear inv6;refine sa1 (r:=5) B_X5.out ?_;refine Zq (Zc rfl) rfl (f:=29) (args:=#[.agg #[.slice a1 m.ways.length (m.ways.length+c1),.slice a2 m.home.length (m.home.length+c2),.int .i64 m.start,.slice a3 m.rocks.length (m.rocks.length+c3),.int .i64 m.speed,.int .i64 m.part,.int .i64 m.flow,.int .i64 m.idle,.int .i64 m.drive,.int .i64 m.battery,.int .i64 m.deadline],.slice al l.length (l.length+cl),.int .i64 (k:Int)]) (by go_simp) (f3.out X9 BW.out) ?_
  rintro e w2 ⟨vb,va,rfl,t6,b2,-,-⟩;refine⟨_,rfl,?_⟩;simp only [Act.put,zq4,zr4,zs4];replace BW:=zAg BW b2;replace B_X0:=zAg B_X0 b2;replace B_X5:=zAg B_X5 b2;clear b2;have T6:=Lib.hid t6;clear t6;obtain⟨-,ab,cb,hvb,-⟩:=T6.out.bef;subst hvb;obtain⟨-,aa,ca,hva,-⟩:=T6.out.aft;subst hva;have inv8:=HeadInv.put2 inv7 (j:=7) (by kernel_rfl) (by omega)
  clear inv7;refine sa1 (r:=7) B_X5.out ?_;refine Zq (Zc rfl) rfl (f:=33) (args:=#[.agg (stgC m (.slice a1 m.ways.length (m.ways.length+c1)) (.slice a2 m.home.length (m.home.length+c2)) (.slice a3 m.rocks.length (m.rocks.length+c3)) (.slice ab (rdBU m l).length ((rdBU m l).length+cb)) (.slice aa (rdAU m l).length ((rdAU m l).length+ca)) k),.agg #[.slice al l.length (l.length+cl),.int .i64 (k:Int),.int .i64 2,.int .i64 q3,.int .i64 px,.int .i64 py]]) (by go_simp) (g2.out _ _ w2 T6.out hk) ?_
  rintro e w3 ⟨rfl,b3⟩;refine⟨_,rfl,?_⟩;simp only [Act.put,zq4,zr4,zs4];replace BW:=zAg BW b3;replace B_X0:=zAg B_X0 b3;replace B_X5:=zAg B_X5 b3;clear b3;refine sk hH (i:=8) (v:=.bool (ntH m l k q3 ⟨px,py⟩)) (Zc rfl) inv8 (fun X hX=>?_) fun inv9=>?_
  ·go_simp
  simp only [Act.put,zq4,zr4,zs4];clear inv8 inv9 hH;refine Zi (by kernel_rfl) B_X5.out ?_
  simp only [List.drop_succ_cons,List.drop_zero];clear B_X5;gi_wp2;go_wp2;go_ret2;exact⟨by simp [askB],BW.out⟩
 ·skip
  have hat9:=HA.out.2.2.2.2.1;have has9:=HH.out.2.2.2.2.1;have hwf:(Lit.int .i64 3).wf=true:=rfl;have hk:=hkw (by decide)
  by_cases h1:(k:Int)=q1;rotate_left
  ·have d1:((k:Int) != q1)=true:=by simpa using h1
   go_wp2_with (at_lookup;refine wpList_lookup_own_ok (H:=Value) _ rfl _ _ 74 rfl 3 72 keyInt Tryz.underlying74 fnR (zeroF0 _) (.held .nilFunc) [] rfl w1.heap.size _ _ rfl M0.out _ _ rfl (keyOf_int_mk Tryz.underlying3 hwf) ?_;intro v9 ps9 h9;replace h9:=ZL h9 hat9;subst h9;rw [has9]);go_ret2;exact⟨by simp [h1],BW.out⟩
  by_cases h2:(3:Int)=q2;rotate_left
  ·have d2:((3:Int) != q2)=true:=by simpa using h2
   subst h1;go_wp2_with (at_lookup;refine wpList_lookup_own_ok (H:=Value) _ rfl _ _ 74 rfl 3 72 keyInt Tryz.underlying74 fnR (zeroF0 _) (.held .nilFunc) [] rfl w1.heap.size _ _ rfl M0.out _ _ rfl (keyOf_int_mk Tryz.underlying3 hwf) ?_;intro v9 ps9 h9;replace h9:=ZL h9 hat9;subst h9;rw [has9]);go_ret2;exact⟨by simp [h2],BW.out⟩
  subst h1 h2;have d1:((k:Int) != (k:Int))=false:=by simp
  go_upto_region 8 with (at_lookup;refine wpList_lookup_own_ok (H:=Value) _ rfl _ _ 74 rfl 3 72 keyInt Tryz.underlying74 fnR (zeroF0 _) (.held .nilFunc) [] rfl w1.heap.size _ _ rfl M0.out _ _ rfl (keyOf_int_mk Tryz.underlying3 hwf) ?_;intro v9 ps9 h9;replace h9:=ZL h9 hat9;subst h9;rw [has9])
  clear y1 y2 hat9 has9;refine (wpIn_wide (n:=9)).1 ?_;refine Zg (Zl _) 9 (fun X=>Below X5.heap.size X5 X) (by kernel_rfl) (by kernel_rfl) (by kernel_rfl) fun hH inv0=>?_
  have hD:=Below.drew (Below.refl X5.heap.size X5);generalize hXX9:X5.drew=X9 at *;clear hXX9;replace BW:=zAg BW hD;replace B_X0:=zAg B_X0 hD;have B_X5:=Lib.hid hD;clear hD;refine sk hH (i:=0) (v:=.func (.func 34) #[] #[]) (Zc rfl) inv0 (fun X hX=>?_) fun inv1=>?_
  ·go_simp
  simp only [Act.put,zq4,zr4,zs4];clear inv0;refine sk hH (i:=1) (v:=.agg #[.slice a1 m.ways.length (m.ways.length+c1),.slice a2 m.home.length (m.home.length+c2),.int .i64 m.start,.slice a3 m.rocks.length (m.rocks.length+c3),.int .i64 m.speed,.int .i64 m.part,.int .i64 m.flow,.int .i64 m.idle,.int .i64 m.drive,.int .i64 m.battery,.int .i64 m.deadline]) (Zc rfl) inv1 (fun X hX=>?_) fun inv2=>?_
  ·have hh:=MB5.out.below hX MB5.out.lt;obtain⟨c0,c1,c2,c3,c4,c5,c6,c7,c8,c9,c10⟩:=Zf (m:=m) hh;go_simp
  simp only [Act.put,zq4,zr4,zs4];clear inv1;refine sk hH (i:=2) (v:=.pointer (some ⟨w.heap.size+1,0,none⟩)) (Zc rfl) inv2 (fun X hX=>?_) fun inv3=>?_
  ·go_simp
  simp only [Act.put,zq4,zr4,zs4];clear inv2;refine sk hH (i:=3) (v:=.slice al l.length (l.length+cl)) (Zc rfl) inv3 (fun X hX=>?_) fun inv4=>?_
  ·have hh:=XB5.out.below hX XB5.out.lt;have t0:=hh.cell (i:=0) rfl;have t1:=hh.cell (i:=1) rfl;have t2:=hh.cell (i:=2) rfl;have t3:=hh.cell (i:=3) rfl;have t4:=hh.cell (i:=4) rfl;have t5:=hh.cell (i:=5) rfl;go_simp
  simp only [Act.put,zq4,zr4,zs4];clear inv3;refine sk hH (i:=4) (v:=.int .i64 (k:Int)) (Zc rfl) inv4 (fun X hX=>?_) fun inv5=>?_
  ·go_simp
  simp only [Act.put,zq4,zr4,zs4];clear inv4;refine sk hH (i:=6) (v:=.agg #[.slice al l.length (l.length+cl),.int .i64 (k:Int),.int .i64 3,.int .i64 q3,.int .i64 px,.int .i64 py]) (Zc rfl) inv5 (fun X hX=>?_) fun inv6=>?_
  ·have hh:=XB5.out.below hX XB5.out.lt;have t0:=hh.cell (i:=0) rfl;have t1:=hh.cell (i:=1) rfl;have t2:=hh.cell (i:=2) rfl;have t3:=hh.cell (i:=3) rfl;have t4:=hh.cell (i:=4) rfl;have t5:=hh.cell (i:=5) rfl;go_simp
  simp only [Act.put,zq4,zr4,zs4];clear inv5;have inv7:=HeadInv.put2 inv6 (j:=5) (by kernel_rfl) (by omega)
  clear inv6;refine sa1 (r:=5) B_X5.out ?_;refine Zq (Zc rfl) rfl (f:=29) (args:=#[.agg #[.slice a1 m.ways.length (m.ways.length+c1),.slice a2 m.home.length (m.home.length+c2),.int .i64 m.start,.slice a3 m.rocks.length (m.rocks.length+c3),.int .i64 m.speed,.int .i64 m.part,.int .i64 m.flow,.int .i64 m.idle,.int .i64 m.drive,.int .i64 m.battery,.int .i64 m.deadline],.slice al l.length (l.length+cl),.int .i64 (k:Int)]) (by go_simp) (f3.out X9 BW.out) ?_
  rintro e w2 ⟨vb,va,rfl,t6,b2,-,-⟩;refine⟨_,rfl,?_⟩;simp only [Act.put,zq4,zr4,zs4];replace BW:=zAg BW b2;replace B_X0:=zAg B_X0 b2;replace B_X5:=zAg B_X5 b2;clear b2;have T6:=Lib.hid t6;clear t6;obtain⟨-,ab,cb,hvb,-⟩:=T6.out.bef;subst hvb;obtain⟨-,aa,ca,hva,-⟩:=T6.out.aft;subst hva;have inv8:=HeadInv.put2 inv7 (j:=7) (by kernel_rfl) (by omega)
  clear inv7;refine sa1 (r:=7) B_X5.out ?_;refine Zq (Zc rfl) rfl (f:=34) (args:=#[.agg (stgC m (.slice a1 m.ways.length (m.ways.length+c1)) (.slice a2 m.home.length (m.home.length+c2)) (.slice a3 m.rocks.length (m.rocks.length+c3)) (.slice ab (rdBU m l).length ((rdBU m l).length+cb)) (.slice aa (rdAU m l).length ((rdAU m l).length+ca)) k),.agg #[.slice al l.length (l.length+cl),.int .i64 (k:Int),.int .i64 3,.int .i64 q3,.int .i64 px,.int .i64 py]]) (by go_simp) (g3.out _ _ w2) ?_
  rintro e w3 ⟨rfl,b3⟩;refine⟨_,rfl,?_⟩;simp only [Act.put,zq4,zr4,zs4];replace BW:=zAg BW b3;replace B_X0:=zAg B_X0 b3;replace B_X5:=zAg B_X5 b3;clear b3;refine sk hH (i:=8) (v:=.bool (notB q3 ⟨px,py⟩)) (Zc rfl) inv8 (fun X hX=>?_) fun inv9=>?_
  ·go_simp
  simp only [Act.put,zq4,zr4,zs4];clear inv8 inv9 hH;refine Zi (by kernel_rfl) B_X5.out ?_
  simp only [List.drop_succ_cons,List.drop_zero];clear B_X5;gi_wp2;go_wp2;go_ret2;exact⟨by simp [askB],BW.out⟩
 ·skip
  have hat9:=HA.out.2.2.2.2.2;have has9:=HH.out.2.2.2.2.2;have hwf:(Lit.int .i64 4).wf=true:=rfl;have hk:=hkw (by decide)
  by_cases h1:(k:Int)=q1;rotate_left
  ·have d1:((k:Int) != q1)=true:=by simpa using h1
   go_wp2_with (at_lookup;refine wpList_lookup_own_ok (H:=Value) _ rfl _ _ 74 rfl 3 72 keyInt Tryz.underlying74 fnR (zeroF0 _) (.held .nilFunc) [] rfl w1.heap.size _ _ rfl M0.out _ _ rfl (keyOf_int_mk Tryz.underlying3 hwf) ?_;intro v9 ps9 h9;replace h9:=ZL h9 hat9;subst h9;rw [has9]);go_ret2;exact⟨by simp [h1],BW.out⟩
  by_cases h2:(4:Int)=q2;rotate_left
  ·have d2:((4:Int) != q2)=true:=by simpa using h2
   subst h1;go_wp2_with (at_lookup;refine wpList_lookup_own_ok (H:=Value) _ rfl _ _ 74 rfl 3 72 keyInt Tryz.underlying74 fnR (zeroF0 _) (.held .nilFunc) [] rfl w1.heap.size _ _ rfl M0.out _ _ rfl (keyOf_int_mk Tryz.underlying3 hwf) ?_;intro v9 ps9 h9;replace h9:=ZL h9 hat9;subst h9;rw [has9]);go_ret2;exact⟨by simp [h2],BW.out⟩
  subst h1 h2;have d1:((k:Int) != (k:Int))=false:=by simp
  go_upto_region 8 with (at_lookup;refine wpList_lookup_own_ok (H:=Value) _ rfl _ _ 74 rfl 3 72 keyInt Tryz.underlying74 fnR (zeroF0 _) (.held .nilFunc) [] rfl w1.heap.size _ _ rfl M0.out _ _ rfl (keyOf_int_mk Tryz.underlying3 hwf) ?_;intro v9 ps9 h9;replace h9:=ZL h9 hat9;subst h9;rw [has9])
  clear y1 y2 hat9 has9;refine (wpIn_wide (n:=9)).1 ?_;refine Zg (Zl _) 9 (fun X=>Below X5.heap.size X5 X) (by kernel_rfl) (by kernel_rfl) (by kernel_rfl) fun hH inv0=>?_
  have hD:=Below.drew (Below.refl X5.heap.size X5);generalize hXX9:X5.drew=X9 at *;clear hXX9;replace BW:=zAg BW hD;replace B_X0:=zAg B_X0 hD;have B_X5:=Lib.hid hD;clear hD;refine sk hH (i:=0) (v:=.func (.func 34) #[] #[]) (Zc rfl) inv0 (fun X hX=>?_) fun inv1=>?_
  ·go_simp
  simp only [Act.put,zq4,zr4,zs4];clear inv0;refine sk hH (i:=1) (v:=.agg #[.slice a1 m.ways.length (m.ways.length+c1),.slice a2 m.home.length (m.home.length+c2),.int .i64 m.start,.slice a3 m.rocks.length (m.rocks.length+c3),.int .i64 m.speed,.int .i64 m.part,.int .i64 m.flow,.int .i64 m.idle,.int .i64 m.drive,.int .i64 m.battery,.int .i64 m.deadline]) (Zc rfl) inv1 (fun X hX=>?_) fun inv2=>?_
  ·have hh:=MB5.out.below hX MB5.out.lt;obtain⟨c0,c1,c2,c3,c4,c5,c6,c7,c8,c9,c10⟩:=Zf (m:=m) hh;go_simp
  simp only [Act.put,zq4,zr4,zs4];clear inv1;refine sk hH (i:=2) (v:=.pointer (some ⟨w.heap.size+1,0,none⟩)) (Zc rfl) inv2 (fun X hX=>?_) fun inv3=>?_
  ·go_simp
  simp only [Act.put,zq4,zr4,zs4];clear inv2;refine sk hH (i:=3) (v:=.slice al l.length (l.length+cl)) (Zc rfl) inv3 (fun X hX=>?_) fun inv4=>?_
  ·have hh:=XB5.out.below hX XB5.out.lt;have t0:=hh.cell (i:=0) rfl;have t1:=hh.cell (i:=1) rfl;have t2:=hh.cell (i:=2) rfl;have t3:=hh.cell (i:=3) rfl;have t4:=hh.cell (i:=4) rfl;have t5:=hh.cell (i:=5) rfl;go_simp
  simp only [Act.put,zq4,zr4,zs4];clear inv3;refine sk hH (i:=4) (v:=.int .i64 (k:Int)) (Zc rfl) inv4 (fun X hX=>?_) fun inv5=>?_
  ·go_simp
  simp only [Act.put,zq4,zr4,zs4];clear inv4;refine sk hH (i:=6) (v:=.agg #[.slice al l.length (l.length+cl),.int .i64 (k:Int),.int .i64 4,.int .i64 q3,.int .i64 px,.int .i64 py]) (Zc rfl) inv5 (fun X hX=>?_) fun inv6=>?_
  ·have hh:=XB5.out.below hX XB5.out.lt;have t0:=hh.cell (i:=0) rfl;have t1:=hh.cell (i:=1) rfl;have t2:=hh.cell (i:=2) rfl;have t3:=hh.cell (i:=3) rfl;have t4:=hh.cell (i:=4) rfl;have t5:=hh.cell (i:=5) rfl;go_simp
  simp only [Act.put,zq4,zr4,zs4];clear inv5;have inv7:=HeadInv.put2 inv6 (j:=5) (by kernel_rfl) (by omega)
  clear inv6;refine sa1 (r:=5) B_X5.out ?_;refine Zq (Zc rfl) rfl (f:=29) (args:=#[.agg #[.slice a1 m.ways.length (m.ways.length+c1),.slice a2 m.home.length (m.home.length+c2),.int .i64 m.start,.slice a3 m.rocks.length (m.rocks.length+c3),.int .i64 m.speed,.int .i64 m.part,.int .i64 m.flow,.int .i64 m.idle,.int .i64 m.drive,.int .i64 m.battery,.int .i64 m.deadline],.slice al l.length (l.length+cl),.int .i64 (k:Int)]) (by go_simp) (f3.out X9 BW.out) ?_
  rintro e w2 ⟨vb,va,rfl,t6,b2,-,-⟩;refine⟨_,rfl,?_⟩;simp only [Act.put,zq4,zr4,zs4];replace BW:=zAg BW b2;replace B_X0:=zAg B_X0 b2;replace B_X5:=zAg B_X5 b2;clear b2;have T6:=Lib.hid t6;clear t6;obtain⟨-,ab,cb,hvb,-⟩:=T6.out.bef;subst hvb;obtain⟨-,aa,ca,hva,-⟩:=T6.out.aft;subst hva;have inv8:=HeadInv.put2 inv7 (j:=7) (by kernel_rfl) (by omega)
  clear inv7;refine sa1 (r:=7) B_X5.out ?_;refine Zq (Zc rfl) rfl (f:=34) (args:=#[.agg (stgC m (.slice a1 m.ways.length (m.ways.length+c1)) (.slice a2 m.home.length (m.home.length+c2)) (.slice a3 m.rocks.length (m.rocks.length+c3)) (.slice ab (rdBU m l).length ((rdBU m l).length+cb)) (.slice aa (rdAU m l).length ((rdAU m l).length+ca)) k),.agg #[.slice al l.length (l.length+cl),.int .i64 (k:Int),.int .i64 4,.int .i64 q3,.int .i64 px,.int .i64 py]]) (by go_simp) (g3.out _ _ w2) ?_
  rintro e w3 ⟨rfl,b3⟩;refine⟨_,rfl,?_⟩;simp only [Act.put,zq4,zr4,zs4];replace BW:=zAg BW b3;replace B_X0:=zAg B_X0 b3;replace B_X5:=zAg B_X5 b3;clear b3;refine sk hH (i:=8) (v:=.bool (notB q3 ⟨px,py⟩)) (Zc rfl) inv8 (fun X hX=>?_) fun inv9=>?_
  ·go_simp
  simp only [Act.put,zq4,zr4,zs4];clear inv8 inv9 hH;refine Zi (by kernel_rfl) B_X5.out ?_
  simp only [List.drop_succ_cons,List.drop_zero];clear B_X5;gi_wp2;go_wp2;go_ret2;exact⟨by simp [askB],BW.out⟩
theorem Z1e (m:Msn) (vw vh vr vs:Value) (l:List Int) (q1 q2 q3:Int) (x:Pt) (w:World) (hm:MsnAt w.heap.size w m vw vh vr) (hl:Z8 w.heap.size w vs l) :
  Calls Tryz.prog 12 #[.agg (Zb m vw vh vr),.agg #[vs,.int .i64 q1,.int .i64 q2,.int .i64 q3,.int .i64 x.x,.int .i64 x.y]] w fun e w'=>e=.returned (.tuple #[.bool (brB m l q1 q2 q3 x),.int .i64 (kpE m l)])∧Below w.heap.size w w':=by
 unfold brB;cases hok:radOkB m l
 ·have:=Z8N m vw vh vr vs l q1 q2 q3 x w hm hl hok
  simpa [kpE,hok] using this
 ·have:=Z73 m vw vh vr vs l q1 q2 q3 x w hm hl hok
  obtain⟨k1,k2,k3⟩:=kp_of hok;rw [k1,k2,k3];simp only [Bool.true_and];exact this
end
section
open Go.RowKit
theorem sub_of {l L : List Int} (h1 : l.Pairwise (· < ·)) (h2 : L.Pairwise (· < ·)) (h : ∀ x ∈ l, x ∈ L) : l.Sublist L := by
 induction L generalizing l with
 | nil =>
  cases l with
  | nil=>exact List.nil_sublist _
  | cons a t=>exact absurd (h a (by simp)) (by simp)
 | cons b L ih =>
  cases l with
  | nil=>exact List.nil_sublist _
  | cons a t =>
   have g1:=List.pairwise_cons.1 h1;have g2:=List.pairwise_cons.1 h2;by_cases e:a=b
   ·subst e
    refine List.Sublist.cons_cons _ (ih g1.2 g2.2 fun x hx=>?_)
    rcases List.mem_cons.1 (h x (by simp [hx])) with r | r
    ·have:=g1.1 x hx;omega
    ·exact r
   ·refine List.Sublist.cons _ (ih h1 g2.2 fun x hx=>?_)
    rcases List.mem_cons.1 (h x hx) with r | r
    ·subst r
     have ha:a ∈ L:=(List.mem_cons.1 (h a (by simp))).resolve_left e
     have:=g2.1 a ha;rcases List.mem_cons.1 hx with r | r
     ·omega
     ·have:=g1.1 _ r;omega
    ·exact r
theorem Z7q {m:Msn} (V:VMsn m) {l:List Int} (h:stopsB m l=true):l.Sublist (fixL m):=by
 refine sub_of (List.pairwise_iff_getElem.2 fun i j hi hj hij=>?_) (Z0Y m _) fun x hx=>?_
 ·have:=Z1T h j i hij hj
  simpa [List.getD,List.getElem?_eq_getElem hi,List.getElem?_eq_getElem hj] using this
 ·obtain⟨k,hk,rfl⟩:=Z7C hx
  obtain⟨p1,p2,p3⟩:=Z6I h hk;refine (Z0A m _ _).2 ⟨(l.getD k 0).toNat,by omega,by omega,by omega,?_⟩
  have:=ZN (Z0l V.ways (j:=(l.getD k 0).toNat) (by omega))
  omega
theorem far_le {m:Msn} (hr:rfB m=true) {l:List Int} (hok:radOkB m l=true):kpL m l≤(leadN m (rfL m):Int)∧0<kpK m l:=by
 obtain⟨hV,-,hk,hg,-,-,-,-,-,hl⟩:=Z06 hr;have hvs:validB m=true∧stopsB m l=true:=by simpa [radOkB] using hok
 have hs:=Z7q ((Zo m).1 hV) hvs.2;have hb:(bestP m).1=(leadN m (rfL m):Int):=by rw [← hg];simp [rfG,hr]
 have h1:kpL m l≤(bestP m).1:=by rcases ZaC hs with h | ⟨h,-⟩ <;> omega
 exact⟨by omega,Z3R hok (by omega)⟩
theorem Z9f {c:List Pt} {ls:List (List Pt)} (h:okRocks c ls=true):Za c=true∧∀ j,j<ls.length→Za (rk ls j)=true:=by
 unfold okRocks at h;rw [Bool.and_eq_true] at h;exact⟨h.1,of_decide_eq_true h.2⟩
theorem Z3O {m:Msn} {p:List Pt} (h:firB p m.rocks=true):(outE m p=0∨outE m p=20)∧(outE m p=0→hasB p ⟨hitX p (rk m.rocks (firI p m.rocks).toNat),hitY p (rk m.rocks (firI p m.rocks).toNat)⟩=true∧onR m (firI p m.rocks) ⟨hitX p (rk m.rocks (firI p m.rocks).toNat),hitY p (rk m.rocks (firI p m.rocks).toNat)⟩=true):=by
 have hc:m.rocks.length≤100∧okRocks p m.rocks=true:=by
  unfold firB at h
  split at h
  ·assumption
  ·cases h
 obtain⟨v1,v2⟩:=Z9f hc.2;obtain⟨f1,f2,-⟩:=fir_ok hc.1 hc.2;rw [f2] at h;cases hh:hitTo p m.rocks m.rocks.length with
 | none=>rw [hh] at h;cases h
 | some i =>
  rw [hh] at f1;obtain⟨g1,g2,-⟩:=Z1X hh;have e:firI p m.rocks=(i:Int):=f1;unfold outE;rw [e,Int.toNat_natCast];have vi:=v2 i g1;unfold hitE hitX hitY;rw [v1,vi];simp only [Bool.and_self,if_true];cases hx:comX p (rk m.rocks i) with
  | none=>simp [g2]
  | some q =>
   obtain⟨a1,a2⟩:=Zav v1 vi hx;refine⟨.inl rfl,fun _=>⟨a1,?_⟩⟩
   have hd:decide ((i:Int)<m.rocks.length)=true:=decide_eq_true (by omega)
   have hd0:decide (0≤(i:Int))=true:=decide_eq_true (by omega)
   unfold onR;rw [hd,hd0,Int.toNat_natCast];exact a2
theorem Z9x {m:Msn} (V:VMsn m) {l:List Int} {k:Nat} (hk:k+1<m.ways.length):Za (hmP m l k)=true:=by
 rw [Z9T V hk];exact (hm_eq V (bk_bd V l hk (Nat.le_refl _))).2
theorem Zan {p:List Pt} (h:Za p=true) {x:Pt} (hx:x ∈ p):hasB p x=true:=by
 obtain⟨k,hk,rfl⟩:=List.getElem_of_mem hx;have:=Z0H h hk
 rwa [Z3Q hk] at this
theorem Z8d {p:List Pt} {x:Pt} (h:hasB p x=true):Z3 x=true:=by
 unfold hasB at h;simp only [Bool.and_eq_true] at h;exact h.1.2
theorem Z82 {x:Pt} (h:Z3 x=true):insB x=true:=by
 unfold Z3 placeB at h;have:=of_decide_eq_true h;unfold insB;simp only [Bool.and_eq_true,decide_eq_true_eq];omega
theorem Z92 {m:Msn} (V:VMsn m) {l:List Int} {k:Nat} (hk:k+1<m.ways.length) {K:Int} {v:Value} {cs:Array Value} (h:ShowQ m l k K v cs 0):∃ (r:Int) (x:Pt),cs=#[v,.int .i64 (k:Int),.int .i64 K,.int .i64 r,.int .i64 x.x,.int .i64 x.y]∧askB m l k K r x=true:=by
 rcases h with⟨rfl,rfl,he,hf⟩ | ⟨rfl,j,hj,hf,rfl,he⟩ | ⟨rfl,-,x,hx,hh,rfl⟩ | ⟨hK,-,rfl⟩
 ·obtain⟨a1,a2⟩:=(Z3O hf).2 he.symm
  refine⟨firI (ownC m l k) m.rocks,⟨hitX (ownC m l k) (rk m.rocks (firI (ownC m l k) m.rocks).toNat),hitY (ownC m l k) (rk m.rocks (firI (ownC m l k) m.rocks).toNat)⟩,rfl,?_⟩;unfold askB inO;rw [if_pos rfl,a1,a2];rfl
 ·obtain⟨a1,a2⟩:=(Z3O hf).2 he.symm
  refine⟨firI (bkP m l k j) m.rocks,⟨hitX (bkP m l k j) (rk m.rocks (firI (bkP m l k j) m.rocks).toNat),hitY (bkP m l k j) (rk m.rocks (firI (bkP m l k j) m.rocks).toNat)⟩,rfl,?_⟩;unfold askB;rw [if_neg (by decide),if_pos rfl,Z6s hj a1,a2];rfl
 ·refine⟨0,x,rfl,?_⟩
  have h1:=Zan (Z9x V hk) hx;unfold askB ntH;rw [if_neg (by decide),if_neg (by decide),if_pos rfl,h1,hh,Z82 (Z8d h1)]
  rfl
 ·refine⟨0,⟨0,0⟩,rfl,?_⟩
  unfold askB notB;rw [if_neg (by omega),if_neg (by omega),if_neg (by omega),if_pos hK]
  rfl
theorem Z91 {m:Msn} {l:List Int} {k:Nat} {K:Int} {v:Value} {cs:Array Value} {er:Int} (h:ShowQ m l k K v cs er):er=0∨(er=20∧(K=1∨K=5)):=by
 rcases h with⟨rfl,-,rfl,hf⟩ | ⟨rfl,j,-,hf,-,rfl⟩ | ⟨-,rfl,-⟩ | ⟨-,rfl,-⟩
 ·exact (Z3O hf).1.imp id fun h=>⟨h,.inl rfl⟩
 ·exact (Z3O hf).1.imp id fun h=>⟨h,.inr rfl⟩
 ·exact .inl rfl
 ·exact .inl rfl
theorem bs_rf {m:Msn}:(rfB m=true∧bsB m=false∧plE m=0)∨(rfB m=false∧((plE m=1∧bsB m=false)∨(plE m=0∧bsB m=true))):=by
 unfold rfB bsB plE;cases validB m
 ·exact .inr ⟨rfl,.inl ⟨rfl,rfl⟩⟩
 ·by_cases h:(bestP m).1=((m.ways.length-1:Nat):Int)
  ·exact .inr ⟨by simp [h],.inr ⟨rfl,by simp [h]⟩⟩
  ·exact .inl ⟨by simp [h],by simp [h],rfl⟩
def WQ (m:Msn) (K:Int) (b:Bool) (er:Int):Prop :=
 (rfB m=false∧K=0∧b=false∧er=plE m)∨(rfB m=true∧((er=0∧b=true∧K=kindV m (rfL m) (leadN m (rfL m)))∨(er=20∧b=false∧K=0∧(kindV m (rfL m) (leadN m (rfL m))=1∨kindV m (rfL m) (leadN m (rfL m))=5))))
theorem Z1q (m:Msn) (vw vh vr:Value) (w:World) (hm:MsnAt w.heap.size w m vw vh vr) (h13:m.ways.length≤13) :
  Calls Tryz.prog 10 #[.agg (Zb m vw vh vr)] w fun e w'=>∃ (sa:Option Addr) (sn sc:Nat) (k K r x y:Int) (b:Bool) (er:Int),e=.returned (.tuple #[.agg #[.slice sa sn sc,.int .i64 k,.int .i64 K,.int .i64 r,.int .i64 x,.int .i64 y],.bool b,.int .i64 er])∧WQ m K b er∧Below w.heap.size w w':=by
 cases hr:rfB m
 ·exact (Z2j m vw vh vr w hm h13 hr).mono fun e w' ⟨h1,h2⟩=>⟨none,0,0,0,0,0,0,0,false,_,h1,.inl ⟨hr,rfl,rfl,rfl⟩,h2⟩
 ·refine (Z1p m vw vh vr w hm h13 hr).mono ?_
  rintro e w' ⟨v,cs,er,hq,hi,hb,rfl⟩;obtain⟨a,b,c,hcs⟩:=hq.shape;obtain⟨-,sa,sc,hv,-⟩:=hi;rcases Z91 hq with rfl | ⟨rfl,hK⟩
  ·rw [if_pos rfl,hcs,hv]
   exact⟨sa,_,_,_,_,_,_,_,true,0,rfl,.inr ⟨hr,.inl ⟨rfl,rfl,rfl⟩⟩,hb⟩
  ·rw [if_neg (by decide)]
   exact⟨none,0,0,0,0,0,0,0,false,20,rfl,.inr ⟨hr,.inr ⟨rfl,rfl,rfl,hK⟩⟩,hb⟩
end
section
attribute [local irreducible] wpQuiet
open Go.RowKit
instance (l:List Pt) (s t:Pt):Decidable (Nx l s t):=by unfold Nx;infer_instance
def hullB (l h:List Pt):Bool:=decide (l≠[]∧1≤h.length∧(nth h 0 ∈ l∧∀ x,x ∈ l→¬ LexLt x (nth h 0))∧(∀ i,i<h.length→Nx l (nth h i) (nth h ((i+1) % h.length)))∧(∀ i,i<h.length→0<i→nth h i≠nth h 0))
theorem Z6d {l h:List Pt} (k:hullB l h=true):hullP l=h:=by
 simp only [hullB,decide_eq_true_eq] at k;obtain⟨h1,h2,h3,h4,h5⟩:=k;exact (Z2t ⟨fun e=>absurd e h1,fun _=>h2,fun _=>h3,h4,fun i h0 hi=>h5 i hi h0⟩).symm
theorem Z8A:Z4 0=[⟨0,0⟩]:=Z6d (by decide +kernel)
theorem Z5X {ax ay bx by' n : Int} (h0 : 0 ≤ n) (h : (ax-bx) * (ax-bx) + (ay-by') * (ay-by') ≤ n * n) (h2 : (n-1) * (n-1) < (ax-bx) * (ax-bx) + (ay-by') * (ay-by')) : distV ax ay bx by' = n := by
 unfold distV;generalize (ax-bx)*(ax-bx)+(ay-by')*(ay-by')=s at *
 have hs:=Z2H (s:=s) (by
  have:0≤(n-1)*(n-1):=by
   rcases Int.le_total 0 (n-1) with h | h
   ·exact Int.mul_nonneg h h
   ·have:=Int.mul_nonneg (show 0≤-(n-1) by omega) (show 0≤-(n-1) by omega)
    rwa [Int.neg_mul_neg] at this
  omega)
 have h1:=hs.2.2 n h0 h;rcases Int.lt_or_le (rootUp s) n with h3 | h3
 ·have h4:=Int.mul_le_mul (show rootUp s≤n-1 by omega) (show rootUp s≤n-1 by omega) hs.1 (by omega)
  have:=hs.2.1;omega
 ·omega
end
section
open Go.RowKit
def hm9:List Pt:=[⟨-9,-9⟩,⟨9,-9⟩,⟨9,9⟩,⟨-9,9⟩]
def roS:List Pt:=[⟨50,0⟩]
def exS (rs:List (List Pt)) (b:Int):Msn:=⟨[⟨0,0,0,0,0⟩,⟨100,0,0,0,0⟩],hm9,0,rs,1000,0,0,0,1,b,100⟩
theorem Z1K (rs:List (List Pt)) (b:Int):(gLeg (exS rs b) 0 1=0∧gLeg (exS rs b) 1 0=0)∧(tLeg (exS rs b) 0 1=10∧tLeg (exS rs b) 1 0=10)∧(eLeg (exS rs b) 0 1=100∧eLeg (exS rs b) 1 0=100):=by
 have d1:dLeg (exS rs b) 0 1=100:=show distV 0 0 100 0=100 from Z5X (by decide) (by decide) (by decide)
 have d2:dLeg (exS rs b) 1 0=100:=show distV 100 0 0 0=100 from Z5X (by decide) (by decide) (by decide)
 have t1:tLeg (exS rs b) 0 1=10:=by unfold tLeg;rw [d1];exact (show lastsV 1000 100=10 by decide)
 have t2:tLeg (exS rs b) 1 0=10:=by unfold tLeg;rw [d2];exact (show lastsV 1000 100=10 by decide)
 refine⟨⟨?_,?_⟩,⟨t1,t2⟩,?_,?_⟩
 ·unfold gLeg;rw [d1];exact (show growthV 1000 0 0 100=0 by decide)
 ·unfold gLeg;rw [d2];exact (show growthV 1000 0 0 100=0 by decide)
 ·unfold eLeg;rw [t1,d1];rfl
 ·unfold eLeg;rw [t2,d2];rfl
theorem Z4C:Za hm9=true:=by rw [Z20];decide +kernel
theorem Z0i:Za roS=true:=by rw [Z20];decide +kernel
theorem Z8w (rs:List (List Pt)) (b:Int):grownV (exS rs b)=0:=by
 obtain⟨⟨g1,g2⟩,-⟩:=Z1K rs b
 show (0:Int)+(gLeg (exS rs b) 0 1+gLeg (exS rs b) 1 0)=0
 rw [g1,g2]
 rfl
theorem Z2Y {rs:List (List Pt)} {b:Int} (hb:0≤b∧b≤1000000000) (hr:rs=[]∨rs=[roS]):validB (exS rs b)=true:=by
 rw [Zo];refine⟨by show 2≤2;decide,by show 2≤41;decide,by rcases hr with rfl | rfl <;> simp [exS],by show waysB [⟨0,0,0,0,0⟩,⟨100,0,0,0,0⟩]=true;decide,Z4C,?_,by show (0:Int)≤0∧(0:Int)≤100000;decide,by show (1:Int)≤1000∧(1000:Int)≤20000∧(0:Int)≤0∧(0:Int)≤500∧(0:Int)≤0∧(0:Int)≤5000;decide,by show (0:Int)≤0∧(0:Int)≤1000;decide,by show (0:Int)≤1∧(1:Int)≤1000;decide,hb,by show (0:Int)≤100∧(100:Int)≤1000000000;decide,by rw [Z8w];decide⟩
 refine decide_eq_true fun j hj=>?_
 rcases hr with rfl | rfl
 ·exact absurd hj (by simp [exS])
 ·obtain rfl:j=0:=by simp [exS] at hj;omega
  exact Z0i
theorem firN (c:List Pt):firB c []=false:=by
 unfold firB
 split <;> rfl
def cSL:List Pt:=[⟨0,0⟩,⟨100,0⟩]
theorem Z0B:Za cSL=true:=by rw [Z20];decide +kernel
theorem ZaA:corL ⟨0,0⟩ 0 ⟨100,0⟩ 0=cSL:=by
 have e:corE ⟨0,0⟩ 0 ⟨100,0⟩ 0=0:=by
  unfold corE;rw [show (0:Int).toNat=0 from rfl,Z8A]
  decide +kernel
 unfold corL;rw [if_pos e];unfold corH;rw [show (0:Int).toNat=0 from rfl,Z8A]
 exact Z6d (by decide +kernel)
theorem cSL_c0:cornersP cSL roS=[]:=by unfold cornersP;rw [Z0K Z0i];decide +kernel
theorem Z8M:cornersP roS cSL=[⟨50,0⟩]:=by unfold cornersP;rw [Z0K Z0B];decide +kernel
theorem Z8L:touchB cSL roS=true:=by
 unfold touchB sharedP;rw [Z8M,Z0B,Z0i];simp
theorem Z5J:comX cSL roS=some ⟨50,0⟩:=by
 have e0:comL cSL roS 0=[]:=cSL_c0;have e1:comL cSL roS 1=[⟨50,0⟩]:=Z8M;rw [Z8G (k:=1) (by omega) (fun j hj=>by
  obtain rfl:j=0:=by omega
  rw [e0];rfl) (by rw [e1];decide)]
 rw [e1]
 decide +kernel
theorem Z4P:firI cSL [roS]=0∧firB cSL [roS]=true:=by
 have hok:okRocks cSL [roS]=true:=by
  unfold okRocks;rw [Z0B,Bool.true_and];refine decide_eq_true fun j hj=>?_
  obtain rfl:j=0:=by simp at hj;omega
  exact Z0i
 have hh:hitTo cSL [roS] 1=some 0:=by
  have r0:rk [roS] 0=roS:=rfl;simp [hitTo,r0,Z8L]
 exact⟨by unfold firI;simp [hok,hh,natO],by unfold firB;simp [hok,hh]⟩
theorem Z5I:hitX cSL roS=50∧hitY cSL roS=0∧hitE cSL roS=0 :=
 ⟨by unfold hitX;rw [Z0B,Z0i,Z5J];rfl,by unfold hitY;rw [Z0B,Z0i,Z5J];rfl,by unfold hitE;rw [Z0B,Z0i,Z5J];rfl⟩
theorem Zas (rs:List (List Pt)) (b:Int):lieB (exS rs b) 0=true:=by
 unfold lieB;rw [show (0:Int).toNat=0 from rfl,Z8A,show atW (exS rs b) 0=⟨0,0⟩ from rfl]
 unfold cornersP;rw [show (exS rs b).home=hm9 from rfl,Z0K Z4C]
 decide +kernel
theorem Zat (rs:List (List Pt)) (b:Int):dep (exS rs b) 1=1:=rfl
theorem Z9D (rs:List (List Pt)) (b:Int):homeE (exS rs b) 1 1=100∧homeT (exS rs b) 1 1=10:=by
 obtain⟨-,⟨-,t2⟩,-,e2⟩:=Z1K rs b;simp only [homeE,homeT];exact⟨by show 0+eLeg (exS rs b) 1 0=100;rw [e2];rfl,by show 0+tLeg (exS rs b) 1 0=10;rw [t2];rfl⟩
theorem Z5x (rs:List (List Pt)) (b:Int):rdA (exS rs b) [] 0=0∧rdB (exS rs b) [] 1=0:=by
 obtain⟨⟨g1,-⟩,-⟩:=Z1K rs b;exact⟨rfl,by rw [Z97,show rdA (exS rs b) [] 0=0 from rfl,g1];rfl⟩
theorem exS_us (rs:List (List Pt)) (b:Int):usT (exS rs b) [] 1=10∧usE (exS rs b) [] 1=100:=by
 obtain⟨-,⟨t1,-⟩,e1,-⟩:=Z1K rs b;have w0:waitT (exS rs b) [] 0=0:=rfl;exact⟨by show 0+waitT (exS rs b) [] 0+tLeg (exS rs b) 0 1=10;rw [w0,t1];rfl,by show 0+0*waitT (exS rs b) [] 0+eLeg (exS rs b) 0 1=100;rw [w0,e1];rfl⟩
theorem Z5y (rs:List (List Pt)) (b:Int):ownC (exS rs b) [] 0=cSL:=by
 obtain⟨r1,r2⟩:=Z5x rs b;unfold ownC;rw [show 0+1=1 from rfl,r1,r2,show atW (exS rs b) 0=⟨0,0⟩ from rfl,show atW (exS rs b) 1=⟨100,0⟩ from rfl,ZaA]
theorem Z8u (b:Int):kindV (exS [roS] b) [] 0=1:=by
 obtain⟨r1,r2⟩:=Z5x [roS] b;unfold kindV;have h:clrB (exS [roS] b) 0 (rdA (exS [roS] b) [] 0) (0+1) (rdB (exS [roS] b) [] (0+1))=false:=by
  have:=Z5y [roS] b;unfold ownC at this;unfold clrB;rw [this,show (exS [roS] b).rocks=[roS] from rfl,Z4P.2]
  rfl
 rw [if_pos h]
theorem Z8v (b:Int):kindV (exS [] b) [] 0=if 200>b then 3 else 0:=by
 obtain⟨⟨-,g2⟩,-⟩:=Z1K [] b;obtain⟨r1,r2⟩:=Z5x [] b;obtain⟨u1,u2⟩:=exS_us [] b;obtain⟨h1,h2⟩:=Z9D [] b;have cl:∀ i u j v,clrB (exS [] b) i u j v=true:=fun i u j v=>by unfold clrB;rw [show (exS [] b).rocks=[] from rfl,firN];rfl
 have b1:bkR (exS [] b) 1 0 1=0:=by show 0+gLeg (exS [] b) 1 0=0;rw [g2];rfl
 have b2:bkC (exS [] b) 1 0 1=true:=by show (true && clrB (exS [] b) 1 0 0 (bkR (exS [] b) 1 0 1))=true;rw [cl];rfl
 unfold kindV;rw [show 0+1=1 from rfl,r1,r2,cl,Zat,b2,b1,Zas,u1,u2,h1,h2,if_neg (by decide),if_neg (by decide),if_neg (by decide)]
 show (if (200:Int)>b then 3 else if (20:Int)>100 then 4 else 0)=_
 rw [if_neg (by decide:¬ (20:Int)>100)]
theorem Z6h {rs:List (List Pt)} {b:Int} (hb:0≤b∧b≤1000000000) (hr:rs=[]∨rs=[roS]):radOkB (exS rs b) []=true:=by
 unfold radOkB;rw [Z2Y hb hr,Bool.true_and];unfold stopsB;exact decide_eq_true fun k hk=>absurd hk (by simp)
theorem Z6j (rs:List (List Pt)) (b:Int):(bestP (exS rs b)).2=[]∧(bestP (exS rs b)).1=kpL (exS rs b) []:=by
 have h:(bestP (exS rs b)).2=[]:=List.sublist_nil.1 (Z6u (exS rs b));exact⟨h,by rw [← Z4T,h]⟩
theorem Z1L {rs:List (List Pt)} {b:Int} (h:kindV (exS rs b) [] 0≠0):leadN (exS rs b) []=0:=Z3S (Nat.zero_le _) (fun j hj=>by omega) (fun _=>h)
theorem Z4H {rs:List (List Pt)} {b:Int} (h:kindV (exS rs b) [] 0=0):leadN (exS rs b) []=1:=Z3S (by show 1≤2-1;decide) (fun j hj=>by
 obtain rfl:j=0:=by omega
 exact h) (fun hh=>absurd hh (by show ¬ 1<2-1;decide))
theorem Z8x {rs:List (List Pt)} {b:Int} (hb:0≤b∧b≤1000000000) (hr:rs=[]∨rs=[roS]) (h:kindV (exS rs b) [] 0≠0):rfB (exS rs b)=true∧rfL (exS rs b)=[]:=by
 obtain⟨h1,h2⟩:=Z6j rs b;have hk:kpL (exS rs b) []=0:=by rw [(kp_of (Z6h hb hr)).1];unfold leadV;rw [Z1L h];rfl
 have e:rfB (exS rs b)=true:=by
  unfold rfB;rw [Z2Y hb hr,h2,hk]
  show (true && !decide ((0:Int)=((2-1:Nat):Int)))=true
  decide
 exact⟨e,by unfold rfL;rw [if_pos e,h1]⟩
theorem Z6i:rfB (exS [] 200)=false∧plE (exS [] 200)=0:=by
 obtain⟨h1,h2⟩:=Z6j [] 200;have hv:=Z2Y (rs:=[]) (b:=200) (by decide) (.inl rfl)
 have hk:kpL (exS [] 200) []=1:=by
  rw [(kp_of (Z6h (rs:=[]) (b:=200) (by decide) (.inl rfl))).1];unfold leadV;rw [Z4H (by rw [Z8v];decide)];rfl
 exact⟨by unfold rfB;rw [hv,h2,hk];decide,by unfold plE;rw [hv];rfl⟩
def msn0:Msn:=⟨[],[],0,[],0,0,0,0,0,0,0⟩
theorem Z7N:rfB msn0=false∧plE msn0=1:=by
 have h:validB msn0=false:=by
  cases h:validB msn0
  ·rfl
  ·have:=((Zo _).1 h).n2
   exact absurd this (by decide)
 exact⟨by unfold rfB;rw [h];rfl,by unfold plE;rw [h];rfl⟩
theorem Z8y:brB (exS [roS] 200) [] 0 1 0 ⟨50,0⟩=true∧kpE (exS [roS] 200) []=0:=by
 have hok:=Z6h (rs:=[roS]) (b:=200) (by decide) (.inr rfl)
 obtain⟨k1,k2,k3⟩:=kp_of hok;have hl:=Z1L (rs:=[roS]) (b:=200) (by rw [Z8u];decide)
 refine⟨?_,k3⟩;have h1:kpL (exS [roS] 200) []=0:=by rw [k1];unfold leadV;rw [hl];rfl
 have h2:kpK (exS [roS] 200) []=1:=by rw [k2];unfold leadK;rw [hl,if_pos (by show 0<2-1;decide),Z8u]
 have h3:hasB roS ⟨50,0⟩=true:=Z0H Z0i (k:=0) (by decide)
 have h4:hasB cSL ⟨50,0⟩=true:=by
  have:(⟨50,0⟩:Pt) ∈ cornersP roS cSL:=by rw [Z8M];exact List.mem_singleton.2 rfl
  exact ((ZX _).1 this).elim fun _ h=>h.2.2
 unfold brB askB inO onR;rw [hok,h1,h2,hl,Z5y,h4,show rk (exS [roS] 200).rocks (0:Int).toNat=roS from rfl,h3]
 decide
theorem Z6k:brB (exS [] 200) [] 0 1 0 ⟨50,0⟩=false∧kpE (exS [] 200) []=0:=by
 have hok:=Z6h (rs:=[]) (b:=200) (by decide) (.inl rfl)
 obtain⟨k1,k2,k3⟩:=kp_of hok;have hl:=Z4H (rs:=[]) (b:=200) (by rw [Z8v];decide)
 refine⟨?_,k3⟩;have h1:kpL (exS [] 200) []=1:=by rw [k1];unfold leadV;rw [hl];rfl
 unfold brB;rw [h1];simp
end
end Go.Proofs.YtdolkgihppgpcaaGreat
