/- package scene: Breaks. | scenes: plain laws; what Worst returns. | The head of the laws of layer 32. (Printed by tools/mkhead32.py.) | the example .. -/
import Derived.Maps.OwnSet
import Derived.Test.YtdolkgihppgpcaaGreatBin34
set_option linter.unusedSimpArgs false
set_option linter.unusedVariables false
namespace Go.Proofs.YtdolkgihppgpcaaGreat
section
attribute [local irreducible] wpQuiet
open Go.RowKit Go.Maps
theorem zeroF0 (w:World):(zeroValue 72).run Tryz.prog w=.ok .nilFunc w:=by kernel_rfl
def askD:DataW Value:=(((((DataW.map []).put (.int .i64 1) (.held (.func (.func 31) #[] #[]))).put (.int .i64 5) (.held (.func (.func 32) #[] #[]))).put (.int .i64 2) (.held (.func (.func 33) #[] #[]))).put (.int .i64 3) (.held (.func (.func 34) #[] #[]))).put (.int .i64 4) (.held (.func (.func 34) #[] #[]))
theorem Zak:askD.atKey (.int .i64 0) (.held .nilFunc)=.held .nilFunc∧askD.atKey (.int .i64 1) (.held .nilFunc)=.held (.func (.func 31) #[] #[])∧askD.atKey (.int .i64 5) (.held .nilFunc)=.held (.func (.func 32) #[] #[])∧askD.atKey (.int .i64 2) (.held .nilFunc)=.held (.func (.func 33) #[] #[])∧askD.atKey (.int .i64 3) (.held .nilFunc)=.held (.func (.func 34) #[] #[])∧askD.atKey (.int .i64 4) (.held .nilFunc)=.held (.func (.func 34) #[] #[]):=⟨rfl,rfl,rfl,rfl,rfl,rfl⟩
theorem Z9A:Maps.has askD (.int .i64 0)=false∧Maps.has askD (.int .i64 1)=true∧Maps.has askD (.int .i64 5)=true∧Maps.has askD (.int .i64 2)=true∧Maps.has askD (.int .i64 3)=true∧Maps.has askD (.int .i64 4)=true:=⟨rfl,rfl,rfl,rfl,rfl,rfl⟩
noncomputable def askB (m:Msn) (l:List Int) (k:Nat) (K q3:Int) (x:Pt):Bool:=if K=1 then inO m l k q3 x else if K=5 then (bkAny m l k x && onR m q3 x) else if K=2 then ntH m l k q3 x else if K=3∨K=4 then notB q3 x else false
noncomputable def brB (m:Msn) (l:List Int) (q1 q2 q3:Int) (x:Pt):Bool:=radOkB m l && (decide (kpL m l=q1) && (decide (kpK m l=q2) && askB m l (leadN m l) (kpK m l) q3 x))
set_option maxRecDepth 8000 in
set_option maxHeartbeats 1600000 in
theorem Z8t (m:Msn) (vw vh vr vs:Value) (l:List Int) (q1 q2 q3:Int) (x:Pt) (w:World) (hm:MsnAt w.heap.size w m vw vh vr) (hl:Z9 w.heap.size w vs l) (hok:radOkB m l=false) :
  Calls Tryz.prog 12 #[.agg (Zc m vw vh vr),.agg #[vs,.int .i64 q1,.int .i64 q2,.int .i64 q3,.int .i64 x.x,.int .i64 x.y]] w fun e w'=>e=.returned (.tuple #[.bool false,.int .i64 1])∧Below w.heap.size w w':=by
 have f2:=fun w1 (B:Below w.heap.size w w1)=>Z0Y m vw vh vr vs l w1 ((hm.below B).mono B.size) ((hl.below B).mono B.size)
 simp only [kpE,hok,Bool.false_eq_true,if_false] at f2;obtain⟨-,al,cl,rfl,-⟩:=hl;obtain⟨⟨-,a1,c1,rfl,-⟩,⟨-,a2,c2,rfl,-⟩,⟨-,a3,c3,rfl,-⟩⟩:=hm;unfold Zc at *;generalize kpL m l=kl at *;generalize kpK m l=kk at *;obtain⟨px,py⟩:=x;clear hok;replace f2:=Lib.hid f2;have BW:=Lib.hid (Below.refl w.heap.size w);go_enter Tryz.func12,Tryz.ntmps12;go_upto_region 1 with fail
 generalize hXX0:World.alloc (World.alloc w _) _=X0;obtain⟨q0,q1,hA,hzX0⟩:=box2 hXX0;clear hXX0;have BW:=Lib.hid hA;clear hA;have MB:=Lib.hid q0;clear q0;have XB:=Lib.hid q1;clear q1 hzX0;obtain⟨c0,c1,c2,c3,c4,c5,c6,c7,c8,c9,c10⟩:=Zi (m:=m) MB.out;have y0:=XB.out.cell (i:=0) rfl;go_wp2_with fail;refine (f2.out _ BW.out).mono ?_;rintro e w1 ⟨rfl,b1⟩;replace BW:=zAg BW b1;have B_X0:=Lib.hid b1;clear b1 y0 c0 c1 c2 c3 c4 c5 c6 c7 c8 c9 c10;go_wp2;go_ret2;exact⟨rfl,BW.out⟩
set_option maxRecDepth 8000 in
set_option maxHeartbeats 6400000 in
theorem Z6Q (m:Msn) (vw vh vr vs:Value) (l:List Int) (q1 q2 q3:Int) (x:Pt) (w:World) (hm:MsnAt w.heap.size w m vw vh vr) (hl:Z9 w.heap.size w vs l) (hok:radOkB m l=true) :
  Calls Tryz.prog 12 #[.agg (Zc m vw vh vr),.agg #[vs,.int .i64 q1,.int .i64 q2,.int .i64 q3,.int .i64 x.x,.int .i64 x.y]] w fun e w'=>e=.returned (.tuple #[.bool (decide ((leadN m l:Int)=q1) && (decide (leadK m l=q2) && askB m l (leadN m l) (leadK m l) q3 x)),.int .i64 0])∧Below w.heap.size w w':=by
 have hvs:validB m=true∧stopsB m l=true:=by simpa [radOkB] using hok
 have V:=(Zs m).1 hvs.1;have n41:=V.n41;have f2:=fun w1 (B:Below w.heap.size w w1)=>Z0Y m vw vh vr vs l w1 ((hm.below B).mono B.size) ((hl.below B).mono B.size)
 have hkk:(leadK m l=0∨leadK m l=1∨leadK m l=5∨leadK m l=2∨leadK m l=3∨leadK m l=4)∧(leadK m l≠0→leadN m l+1<m.ways.length):=by
  have hb:=Z3G m l (leadN m l);unfold leadK
  split
  ·exact⟨by omega,fun _=>by omega⟩
  ·exact⟨.inl rfl,fun h=>(h rfl).elim⟩
 obtain⟨k1,k2,k3⟩:=kp_of hok;rw [k1,k2,k3,show leadV m l=(leadN m l:Int) from rfl] at f2
 have hln:=(Z1r m l).1;generalize leadN m l=k at *;have f3:=fun w1 (B:Below w.heap.size w w1)=>Z3Y m l vw vh vr vs k w1 ((hm.below B).mono B.size) ((hl.below B).mono B.size) hok
 obtain⟨K,hK⟩:∃ K,leadK m l=K:=⟨_,rfl⟩;simp only [hK] at *;clear hK hok hvs k1 k2 k3;obtain⟨hK6,hkw⟩:=hkk;have g1:=fun vb va W T hk=>Z6m m l vw vh vr vb va W T V k hk vs q1 q2 q3 x
 have g5:=fun vb va W T hk=>Z4W m l vw vh vr vb va W T V k hk vs q1 q2 q3 x
 have g2:=fun vb va W T hk=>Z40 m l vw vh vr vb va W T V k hk vs q1 q2 q3 x
 have g3:=fun vb va W=>Z3Z (stgC m vw vh vr vb va k) _ _ _ _ _ _ _ _ _ _ _ _ _ _ rfl vs q1 q2 q3 x W
 obtain⟨-,al,cl,rfl,-⟩:=hl;obtain⟨⟨-,a1,c1,rfl,-⟩,⟨-,a2,c2,rfl,-⟩,⟨-,a3,c3,rfl,-⟩⟩:=hm;unfold Zc at *;obtain⟨px,py⟩:=x;simp only at g1 g5 g2 g3;replace f2:=Lib.hid f2;replace f3:=Lib.hid f3;replace g1:=Lib.hid g1;replace g2:=Lib.hid g2;replace g3:=Lib.hid g3;replace g5:=Lib.hid g5;have HA:=Zak;have HH:=Z9A;unfold askD at HA HH;replace HA:=Lib.hid HA;replace HH:=Lib.hid HH;have hmm:=@run_makeMap Tryz.prog;clear V;have BW:=Lib.hid (Below.refl w.heap.size w);go_enter Tryz.func12,Tryz.ntmps12;go_upto_region 1 with fail
 generalize hXX0:World.alloc (World.alloc w _) _=X0;obtain⟨q0,q1,hA,hzX0⟩:=box2 hXX0;clear hXX0;have BW:=Lib.hid hA;clear hA;have MB:=Lib.hid q0;clear q0;have XB:=Lib.hid q1;clear q1 hzX0;obtain⟨c0,c1,c2,c3,c4,c5,c6,c7,c8,c9,c10⟩:=Zi (m:=m) MB.out;have y0:=XB.out.cell (i:=0) rfl;go_wp2_with fail;refine (f2.out _ BW.out).mono ?_;rintro e w1 ⟨rfl,b1⟩;replace BW:=zAg BW b1;have B_X0:=Lib.hid b1;clear b1 y0 c0 c1 c2 c3 c4 c5 c6 c7 c8 c9 c10;have M0:=Lib.hid (World.ownsMap_made w1 Tryz.prog 3 fnR);have BM:=Lib.hid ((Below.refl w1.heap.size w1).alloc (Nat.le_refl _) (.map #[] 0));go_upto_region 5 with (first | (refine Zz (H:=Value) _ rfl _ _ _ 74 rfl 3 72 keyInt Tryz.underlying74 fnR w1.heap.size _ _ rfl M0.out (by unfold maxLen;omega) (.int .i64 1) (.func (.func 31) #[] #[]) (.int .i64 1) rfl rfl (keyOf_int_mk Tryz.underlying3 rfl) (.held (.func (.func 31) #[] #[])) [] rfl ?_;intro w9 h9 g9;have M0':=Lib.hid h9;replace BM:=Lib.hid (BM.out.grown g9 BM.out.size (fun j hj=>by cases hj;exact Nat.le_refl _));clear M0 h9 g9;have M0:=M0';clear M0') | (refine Zz (H:=Value) _ rfl _ _ _ 74 rfl 3 72 keyInt Tryz.underlying74 fnR w1.heap.size _ _ rfl M0.out (by unfold maxLen;omega) (.int .i64 5) (.func (.func 32) #[] #[]) (.int .i64 5) rfl rfl (keyOf_int_mk Tryz.underlying3 rfl) (.held (.func (.func 32) #[] #[])) [] rfl ?_;intro w9 h9 g9;have M0':=Lib.hid h9;replace BM:=Lib.hid (BM.out.grown g9 BM.out.size (fun j hj=>by cases hj;exact Nat.le_refl _));clear M0 h9 g9;have M0:=M0';clear M0') | (refine Zz (H:=Value) _ rfl _ _ _ 74 rfl 3 72 keyInt Tryz.underlying74 fnR w1.heap.size _ _ rfl M0.out (by unfold maxLen;omega) (.int .i64 2) (.func (.func 33) #[] #[]) (.int .i64 2) rfl rfl (keyOf_int_mk Tryz.underlying3 rfl) (.held (.func (.func 33) #[] #[])) [] rfl ?_;intro w9 h9 g9;have M0':=Lib.hid h9;replace BM:=Lib.hid (BM.out.grown g9 BM.out.size (fun j hj=>by cases hj;exact Nat.le_refl _));clear M0 h9 g9;have M0:=M0';clear M0') | (refine Zz (H:=Value) _ rfl _ _ _ 74 rfl 3 72 keyInt Tryz.underlying74 fnR w1.heap.size _ _ rfl M0.out (by unfold maxLen;omega) (.int .i64 3) (.func (.func 34) #[] #[]) (.int .i64 3) rfl rfl (keyOf_int_mk Tryz.underlying3 rfl) (.held (.func (.func 34) #[] #[])) [] rfl ?_;intro w9 h9 g9;have M0':=Lib.hid h9;replace BM:=Lib.hid (BM.out.grown g9 BM.out.size (fun j hj=>by cases hj;exact Nat.le_refl _));clear M0 h9 g9;have M0:=M0';clear M0') | (refine Zz (H:=Value) _ rfl _ _ _ 74 rfl 3 72 keyInt Tryz.underlying74 fnR w1.heap.size _ _ rfl M0.out (by unfold maxLen;omega) (.int .i64 4) (.func (.func 34) #[] #[]) (.int .i64 4) rfl rfl (keyOf_int_mk Tryz.underlying3 rfl) (.held (.func (.func 34) #[] #[])) [] rfl ?_;intro w9 h9 g9;have M0':=Lib.hid h9;replace BM:=Lib.hid (BM.out.grown g9 BM.out.size (fun j hj=>by cases hj;exact Nat.le_refl _));clear M0 h9 g9;have M0:=M0';clear M0') | go_in)
 obtain⟨X5,hX5,-⟩:=Z2O BM.out;subst hX5;have b5:=BM.out;clear BM;replace BW:=zAg BW b5;replace B_X0:=zAg B_X0 b5;clear b5;have MB5:=Lib.hid (zCn MB B_X0);have XB5:=Lib.hid (zCn XB B_X0);have y1:=XB5.out.cell (i:=1) rfl;have y2:=XB5.out.cell (i:=2) rfl;rcases hK6 with rfl | rfl | rfl | rfl | rfl | rfl
 ·skip
  have hat9:=HA.out.1;have has9:=HH.out.1;have hwf:(Lit.int .i64 0).wf=true:=rfl;go_wp2_with (at_lookup;refine wpList_lookup_own_ok (H:=Value) _ rfl _ _ 74 rfl 3 72 keyInt Tryz.underlying74 fnR (zeroF0 _) (.held .nilFunc) [] rfl w1.heap.size _ _ rfl M0.out _ _ rfl (keyOf_int_mk Tryz.underlying3 hwf) ?_;intro v9 ps9 h9;replace h9:=ZM h9 hat9;subst h9;rw [has9]);go_ret2;exact⟨by simp [askB],BW.out⟩
 ·skip
  have hat9:=HA.out.2.1;have has9:=HH.out.2.1;have hwf:(Lit.int .i64 1).wf=true:=rfl;have hk:=hkw (by decide)
  by_cases h1:(k:Int)=q1;rotate_left
  ·have d1:((k:Int) != q1)=true:=by simpa using h1
   go_wp2_with (at_lookup;refine wpList_lookup_own_ok (H:=Value) _ rfl _ _ 74 rfl 3 72 keyInt Tryz.underlying74 fnR (zeroF0 _) (.held .nilFunc) [] rfl w1.heap.size _ _ rfl M0.out _ _ rfl (keyOf_int_mk Tryz.underlying3 hwf) ?_;intro v9 ps9 h9;replace h9:=ZM h9 hat9;subst h9;rw [has9]);go_ret2;exact⟨by simp [h1],BW.out⟩
  by_cases h2:(1:Int)=q2;rotate_left
  ·have d2:((1:Int) != q2)=true:=by simpa using h2
   subst h1;go_wp2_with (at_lookup;refine wpList_lookup_own_ok (H:=Value) _ rfl _ _ 74 rfl 3 72 keyInt Tryz.underlying74 fnR (zeroF0 _) (.held .nilFunc) [] rfl w1.heap.size _ _ rfl M0.out _ _ rfl (keyOf_int_mk Tryz.underlying3 hwf) ?_;intro v9 ps9 h9;replace h9:=ZM h9 hat9;subst h9;rw [has9]);go_ret2;exact⟨by simp [h2],BW.out⟩
  subst h1 h2;have d1:((k:Int) != (k:Int))=false:=by simp
  go_upto_region 8 with (at_lookup;refine wpList_lookup_own_ok (H:=Value) _ rfl _ _ 74 rfl 3 72 keyInt Tryz.underlying74 fnR (zeroF0 _) (.held .nilFunc) [] rfl w1.heap.size _ _ rfl M0.out _ _ rfl (keyOf_int_mk Tryz.underlying3 hwf) ?_;intro v9 ps9 h9;replace h9:=ZM h9 hat9;subst h9;rw [has9])
  clear y1 y2 hat9 has9;refine (wpIn_wide (n:=9)).1 ?_;refine Zg (Zj _) 9 (fun X=>Below X5.heap.size X5 X) (by kernel_rfl) (by kernel_rfl) (by kernel_rfl) fun hH inv0=>?_
  have hD:=Below.drew (Below.refl X5.heap.size X5);generalize hXX9:X5.drew=X9 at *;clear hXX9;replace BW:=zAg BW hD;replace B_X0:=zAg B_X0 hD;have B_X5:=Lib.hid hD;clear hD;refine sk hH (i:=0) (v:=.func (.func 31) #[] #[]) (Zd rfl) inv0 (fun X hX=>?_) fun inv1=>?_
  ·go_simp
  simp only [Act.put,zq4,zr4,zs4];clear inv0;refine sk hH (i:=1) (v:=.agg #[.slice a1 m.ways.length (m.ways.length+c1),.slice a2 m.home.length (m.home.length+c2),.int .i64 m.start,.slice a3 m.rocks.length (m.rocks.length+c3),.int .i64 m.speed,.int .i64 m.part,.int .i64 m.flow,.int .i64 m.idle,.int .i64 m.drive,.int .i64 m.battery,.int .i64 m.deadline]) (Zd rfl) inv1 (fun X hX=>?_) fun inv2=>?_
  ·have hh:=MB5.out.below hX MB5.out.lt;obtain⟨c0,c1,c2,c3,c4,c5,c6,c7,c8,c9,c10⟩:=Zi (m:=m) hh;go_simp
  simp only [Act.put,zq4,zr4,zs4];clear inv1;refine sk hH (i:=2) (v:=.pointer (some ⟨w.heap.size+1,0,none⟩)) (Zd rfl) inv2 (fun X hX=>?_) fun inv3=>?_
  ·go_simp
  simp only [Act.put,zq4,zr4,zs4];clear inv2;refine sk hH (i:=3) (v:=.slice al l.length (l.length+cl)) (Zd rfl) inv3 (fun X hX=>?_) fun inv4=>?_
  ·have hh:=XB5.out.below hX XB5.out.lt;have t0:=hh.cell (i:=0) rfl;have t1:=hh.cell (i:=1) rfl;have t2:=hh.cell (i:=2) rfl;have t3:=hh.cell (i:=3) rfl;have t4:=hh.cell (i:=4) rfl;have t5:=hh.cell (i:=5) rfl;go_simp
  simp only [Act.put,zq4,zr4,zs4];clear inv3;refine sk hH (i:=4) (v:=.int .i64 (k:Int)) (Zd rfl) inv4 (fun X hX=>?_) fun inv5=>?_
  ·go_simp
  simp only [Act.put,zq4,zr4,zs4];clear inv4;refine sk hH (i:=6) (v:=.agg #[.slice al l.length (l.length+cl),.int .i64 (k:Int),.int .i64 1,.int .i64 q3,.int .i64 px,.int .i64 py]) (Zd rfl) inv5 (fun X hX=>?_) fun inv6=>?_
  ·have hh:=XB5.out.below hX XB5.out.lt;have t0:=hh.cell (i:=0) rfl;have t1:=hh.cell (i:=1) rfl;have t2:=hh.cell (i:=2) rfl;have t3:=hh.cell (i:=3) rfl;have t4:=hh.cell (i:=4) rfl;have t5:=hh.cell (i:=5) rfl;go_simp
  simp only [Act.put,zq4,zr4,zs4];clear inv5;have inv7:=HeadInv.put2 inv6 (j:=5) (by kernel_rfl) (by omega)
  clear inv6;refine sa1 (r:=5) B_X5.out ?_;refine Zp (Zd rfl) rfl (f:=29) (args:=#[.agg #[.slice a1 m.ways.length (m.ways.length+c1),.slice a2 m.home.length (m.home.length+c2),.int .i64 m.start,.slice a3 m.rocks.length (m.rocks.length+c3),.int .i64 m.speed,.int .i64 m.part,.int .i64 m.flow,.int .i64 m.idle,.int .i64 m.drive,.int .i64 m.battery,.int .i64 m.deadline],.slice al l.length (l.length+cl),.int .i64 (k:Int)]) (by go_simp) (f3.out X9 BW.out) ?_
  rintro e w2 ⟨vb,va,rfl,t6,b2,-,-⟩;refine⟨_,rfl,?_⟩;simp only [Act.put,zq4,zr4,zs4];replace BW:=zAg BW b2;replace B_X0:=zAg B_X0 b2;replace B_X5:=zAg B_X5 b2;clear b2;have T6:=Lib.hid t6;clear t6;obtain⟨-,ab,cb,hvb,-⟩:=T6.out.bef;subst hvb;obtain⟨-,aa,ca,hva,-⟩:=T6.out.aft;subst hva;have inv8:=HeadInv.put2 inv7 (j:=7) (by kernel_rfl) (by omega)
  clear inv7;refine sa1 (r:=7) B_X5.out ?_;refine Zp (Zd rfl) rfl (f:=31) (args:=#[.agg (stgC m (.slice a1 m.ways.length (m.ways.length+c1)) (.slice a2 m.home.length (m.home.length+c2)) (.slice a3 m.rocks.length (m.rocks.length+c3)) (.slice ab (rdBU m l).length ((rdBU m l).length+cb)) (.slice aa (rdAU m l).length ((rdAU m l).length+ca)) k),.agg #[.slice al l.length (l.length+cl),.int .i64 (k:Int),.int .i64 1,.int .i64 q3,.int .i64 px,.int .i64 py]]) (by go_simp) (g1.out _ _ w2 T6.out hk) ?_
  rintro e w3 ⟨rfl,b3⟩;refine⟨_,rfl,?_⟩;simp only [Act.put,zq4,zr4,zs4];replace BW:=zAg BW b3;replace B_X0:=zAg B_X0 b3;replace B_X5:=zAg B_X5 b3;clear b3;refine sk hH (i:=8) (v:=.bool (inO m l k q3 ⟨px,py⟩)) (Zd rfl) inv8 (fun X hX=>?_) fun inv9=>?_
  ·go_simp
  simp only [Act.put,zq4,zr4,zs4];clear inv8 inv9 hH;refine Zm (by kernel_rfl) B_X5.out ?_
  simp only [List.drop_succ_cons,List.drop_zero];clear B_X5;gi_wp2;go_wp2;go_ret2;exact⟨by simp [askB],BW.out⟩
 ·skip
  have hat9:=HA.out.2.2.1;have has9:=HH.out.2.2.1;have hwf:(Lit.int .i64 5).wf=true:=rfl;have hk:=hkw (by decide)
  by_cases h1:(k:Int)=q1;rotate_left
  ·have d1:((k:Int) != q1)=true:=by simpa using h1
   go_wp2_with (at_lookup;refine wpList_lookup_own_ok (H:=Value) _ rfl _ _ 74 rfl 3 72 keyInt Tryz.underlying74 fnR (zeroF0 _) (.held .nilFunc) [] rfl w1.heap.size _ _ rfl M0.out _ _ rfl (keyOf_int_mk Tryz.underlying3 hwf) ?_;intro v9 ps9 h9;replace h9:=ZM h9 hat9;subst h9;rw [has9]);go_ret2;exact⟨by simp [h1],BW.out⟩
  by_cases h2:(5:Int)=q2;rotate_left
  ·have d2:((5:Int) != q2)=true:=by simpa using h2
   subst h1;go_wp2_with (at_lookup;refine wpList_lookup_own_ok (H:=Value) _ rfl _ _ 74 rfl 3 72 keyInt Tryz.underlying74 fnR (zeroF0 _) (.held .nilFunc) [] rfl w1.heap.size _ _ rfl M0.out _ _ rfl (keyOf_int_mk Tryz.underlying3 hwf) ?_;intro v9 ps9 h9;replace h9:=ZM h9 hat9;subst h9;rw [has9]);go_ret2;exact⟨by simp [h2],BW.out⟩
  subst h1 h2;have d1:((k:Int) != (k:Int))=false:=by simp
  go_upto_region 8 with (at_lookup;refine wpList_lookup_own_ok (H:=Value) _ rfl _ _ 74 rfl 3 72 keyInt Tryz.underlying74 fnR (zeroF0 _) (.held .nilFunc) [] rfl w1.heap.size _ _ rfl M0.out _ _ rfl (keyOf_int_mk Tryz.underlying3 hwf) ?_;intro v9 ps9 h9;replace h9:=ZM h9 hat9;subst h9;rw [has9])
  clear y1 y2 hat9 has9;refine (wpIn_wide (n:=9)).1 ?_;refine Zg (Zj _) 9 (fun X=>Below X5.heap.size X5 X) (by kernel_rfl) (by kernel_rfl) (by kernel_rfl) fun hH inv0=>?_
  have hD:=Below.drew (Below.refl X5.heap.size X5);generalize hXX9:X5.drew=X9 at *;clear hXX9;replace BW:=zAg BW hD;replace B_X0:=zAg B_X0 hD;have B_X5:=Lib.hid hD;clear hD;refine sk hH (i:=0) (v:=.func (.func 32) #[] #[]) (Zd rfl) inv0 (fun X hX=>?_) fun inv1=>?_
  ·go_simp
  simp only [Act.put,zq4,zr4,zs4];clear inv0;refine sk hH (i:=1) (v:=.agg #[.slice a1 m.ways.length (m.ways.length+c1),.slice a2 m.home.length (m.home.length+c2),.int .i64 m.start,.slice a3 m.rocks.length (m.rocks.length+c3),.int .i64 m.speed,.int .i64 m.part,.int .i64 m.flow,.int .i64 m.idle,.int .i64 m.drive,.int .i64 m.battery,.int .i64 m.deadline]) (Zd rfl) inv1 (fun X hX=>?_) fun inv2=>?_
  ·have hh:=MB5.out.below hX MB5.out.lt;obtain⟨c0,c1,c2,c3,c4,c5,c6,c7,c8,c9,c10⟩:=Zi (m:=m) hh;go_simp
  simp only [Act.put,zq4,zr4,zs4];clear inv1;refine sk hH (i:=2) (v:=.pointer (some ⟨w.heap.size+1,0,none⟩)) (Zd rfl) inv2 (fun X hX=>?_) fun inv3=>?_
  ·go_simp
  simp only [Act.put,zq4,zr4,zs4];clear inv2;refine sk hH (i:=3) (v:=.slice al l.length (l.length+cl)) (Zd rfl) inv3 (fun X hX=>?_) fun inv4=>?_
  ·have hh:=XB5.out.below hX XB5.out.lt;have t0:=hh.cell (i:=0) rfl;have t1:=hh.cell (i:=1) rfl;have t2:=hh.cell (i:=2) rfl;have t3:=hh.cell (i:=3) rfl;have t4:=hh.cell (i:=4) rfl;have t5:=hh.cell (i:=5) rfl;go_simp
  simp only [Act.put,zq4,zr4,zs4];clear inv3;refine sk hH (i:=4) (v:=.int .i64 (k:Int)) (Zd rfl) inv4 (fun X hX=>?_) fun inv5=>?_
  ·go_simp
  simp only [Act.put,zq4,zr4,zs4];clear inv4;refine sk hH (i:=6) (v:=.agg #[.slice al l.length (l.length+cl),.int .i64 (k:Int),.int .i64 5,.int .i64 q3,.int .i64 px,.int .i64 py]) (Zd rfl) inv5 (fun X hX=>?_) fun inv6=>?_
  ·have hh:=XB5.out.below hX XB5.out.lt;have t0:=hh.cell (i:=0) rfl;have t1:=hh.cell (i:=1) rfl;have t2:=hh.cell (i:=2) rfl;have t3:=hh.cell (i:=3) rfl;have t4:=hh.cell (i:=4) rfl;have t5:=hh.cell (i:=5) rfl;go_simp
  simp only [Act.put,zq4,zr4,zs4];clear inv5;have inv7:=HeadInv.put2 inv6 (j:=5) (by kernel_rfl) (by omega)
  clear inv6;refine sa1 (r:=5) B_X5.out ?_;refine Zp (Zd rfl) rfl (f:=29) (args:=#[.agg #[.slice a1 m.ways.length (m.ways.length+c1),.slice a2 m.home.length (m.home.length+c2),.int .i64 m.start,.slice a3 m.rocks.length (m.rocks.length+c3),.int .i64 m.speed,.int .i64 m.part,.int .i64 m.flow,.int .i64 m.idle,.int .i64 m.drive,.int .i64 m.battery,.int .i64 m.deadline],.slice al l.length (l.length+cl),.int .i64 (k:Int)]) (by go_simp) (f3.out X9 BW.out) ?_
  rintro e w2 ⟨vb,va,rfl,t6,b2,-,-⟩;refine⟨_,rfl,?_⟩;simp only [Act.put,zq4,zr4,zs4];replace BW:=zAg BW b2;replace B_X0:=zAg B_X0 b2;replace B_X5:=zAg B_X5 b2;clear b2;have T6:=Lib.hid t6;clear t6;obtain⟨-,ab,cb,hvb,-⟩:=T6.out.bef;subst hvb;obtain⟨-,aa,ca,hva,-⟩:=T6.out.aft;subst hva;have inv8:=HeadInv.put2 inv7 (j:=7) (by kernel_rfl) (by omega)
  clear inv7;refine sa1 (r:=7) B_X5.out ?_;refine Zp (Zd rfl) rfl (f:=32) (args:=#[.agg (stgC m (.slice a1 m.ways.length (m.ways.length+c1)) (.slice a2 m.home.length (m.home.length+c2)) (.slice a3 m.rocks.length (m.rocks.length+c3)) (.slice ab (rdBU m l).length ((rdBU m l).length+cb)) (.slice aa (rdAU m l).length ((rdAU m l).length+ca)) k),.agg #[.slice al l.length (l.length+cl),.int .i64 (k:Int),.int .i64 5,.int .i64 q3,.int .i64 px,.int .i64 py]]) (by go_simp) (g5.out _ _ w2 T6.out hk) ?_
  rintro e w3 ⟨rfl,b3⟩;refine⟨_,rfl,?_⟩;simp only [Act.put,zq4,zr4,zs4];replace BW:=zAg BW b3;replace B_X0:=zAg B_X0 b3;replace B_X5:=zAg B_X5 b3;clear b3;refine sk hH (i:=8) (v:=.bool (bkAny m l k ⟨px,py⟩ && onR m q3 ⟨px,py⟩)) (Zd rfl) inv8 (fun X hX=>?_) fun inv9=>?_
  ·go_simp
  simp only [Act.put,zq4,zr4,zs4];clear inv8 inv9 hH;refine Zm (by kernel_rfl) B_X5.out ?_
  simp only [List.drop_succ_cons,List.drop_zero];clear B_X5;gi_wp2;go_wp2;go_ret2;exact⟨by simp [askB],BW.out⟩
 ·skip
  have hat9:=HA.out.2.2.2.1;have has9:=HH.out.2.2.2.1;have hwf:(Lit.int .i64 2).wf=true:=rfl;have hk:=hkw (by decide)
  by_cases h1:(k:Int)=q1;rotate_left
  ·have d1:((k:Int) != q1)=true:=by simpa using h1
   go_wp2_with (at_lookup;refine wpList_lookup_own_ok (H:=Value) _ rfl _ _ 74 rfl 3 72 keyInt Tryz.underlying74 fnR (zeroF0 _) (.held .nilFunc) [] rfl w1.heap.size _ _ rfl M0.out _ _ rfl (keyOf_int_mk Tryz.underlying3 hwf) ?_;intro v9 ps9 h9;replace h9:=ZM h9 hat9;subst h9;rw [has9]);go_ret2;exact⟨by simp [h1],BW.out⟩
  by_cases h2:(2:Int)=q2;rotate_left
  ·have d2:((2:Int) != q2)=true:=by simpa using h2
   subst h1;go_wp2_with (at_lookup;refine wpList_lookup_own_ok (H:=Value) _ rfl _ _ 74 rfl 3 72 keyInt Tryz.underlying74 fnR (zeroF0 _) (.held .nilFunc) [] rfl w1.heap.size _ _ rfl M0.out _ _ rfl (keyOf_int_mk Tryz.underlying3 hwf) ?_;intro v9 ps9 h9;replace h9:=ZM h9 hat9;subst h9;rw [has9]);go_ret2;exact⟨by simp [h2],BW.out⟩
  subst h1 h2;have d1:((k:Int) != (k:Int))=false:=by simp
  go_upto_region 8 with (at_lookup;refine wpList_lookup_own_ok (H:=Value) _ rfl _ _ 74 rfl 3 72 keyInt Tryz.underlying74 fnR (zeroF0 _) (.held .nilFunc) [] rfl w1.heap.size _ _ rfl M0.out _ _ rfl (keyOf_int_mk Tryz.underlying3 hwf) ?_;intro v9 ps9 h9;replace h9:=ZM h9 hat9;subst h9;rw [has9])
  clear y1 y2 hat9 has9;refine (wpIn_wide (n:=9)).1 ?_;refine Zg (Zj _) 9 (fun X=>Below X5.heap.size X5 X) (by kernel_rfl) (by kernel_rfl) (by kernel_rfl) fun hH inv0=>?_
  have hD:=Below.drew (Below.refl X5.heap.size X5);generalize hXX9:X5.drew=X9 at *;clear hXX9;replace BW:=zAg BW hD;replace B_X0:=zAg B_X0 hD;have B_X5:=Lib.hid hD;clear hD;refine sk hH (i:=0) (v:=.func (.func 33) #[] #[]) (Zd rfl) inv0 (fun X hX=>?_) fun inv1=>?_
  ·go_simp
  simp only [Act.put,zq4,zr4,zs4];clear inv0;refine sk hH (i:=1) (v:=.agg #[.slice a1 m.ways.length (m.ways.length+c1),.slice a2 m.home.length (m.home.length+c2),.int .i64 m.start,.slice a3 m.rocks.length (m.rocks.length+c3),.int .i64 m.speed,.int .i64 m.part,.int .i64 m.flow,.int .i64 m.idle,.int .i64 m.drive,.int .i64 m.battery,.int .i64 m.deadline]) (Zd rfl) inv1 (fun X hX=>?_) fun inv2=>?_
  ·have hh:=MB5.out.below hX MB5.out.lt;obtain⟨c0,c1,c2,c3,c4,c5,c6,c7,c8,c9,c10⟩:=Zi (m:=m) hh;go_simp
  simp only [Act.put,zq4,zr4,zs4];clear inv1;refine sk hH (i:=2) (v:=.pointer (some ⟨w.heap.size+1,0,none⟩)) (Zd rfl) inv2 (fun X hX=>?_) fun inv3=>?_
  ·go_simp
  simp only [Act.put,zq4,zr4,zs4];clear inv2;refine sk hH (i:=3) (v:=.slice al l.length (l.length+cl)) (Zd rfl) inv3 (fun X hX=>?_) fun inv4=>?_
  ·have hh:=XB5.out.below hX XB5.out.lt;have t0:=hh.cell (i:=0) rfl;have t1:=hh.cell (i:=1) rfl;have t2:=hh.cell (i:=2) rfl;have t3:=hh.cell (i:=3) rfl;have t4:=hh.cell (i:=4) rfl;have t5:=hh.cell (i:=5) rfl;go_simp
  simp only [Act.put,zq4,zr4,zs4];clear inv3;refine sk hH (i:=4) (v:=.int .i64 (k:Int)) (Zd rfl) inv4 (fun X hX=>?_) fun inv5=>?_
  ·go_simp
  simp only [Act.put,zq4,zr4,zs4];clear inv4;refine sk hH (i:=6) (v:=.agg #[.slice al l.length (l.length+cl),.int .i64 (k:Int),.int .i64 2,.int .i64 q3,.int .i64 px,.int .i64 py]) (Zd rfl) inv5 (fun X hX=>?_) fun inv6=>?_
  ·have hh:=XB5.out.below hX XB5.out.lt;have t0:=hh.cell (i:=0) rfl;have t1:=hh.cell (i:=1) rfl;have t2:=hh.cell (i:=2) rfl;have t3:=hh.cell (i:=3) rfl;have t4:=hh.cell (i:=4) rfl;have t5:=hh.cell (i:=5) rfl;go_simp
  simp only [Act.put,zq4,zr4,zs4];clear inv5;have inv7:=HeadInv.put2 inv6 (j:=5) (by kernel_rfl) (by omega)
  clear inv6;refine sa1 (r:=5) B_X5.out ?_;refine Zp (Zd rfl) rfl (f:=29) (args:=#[.agg #[.slice a1 m.ways.length (m.ways.length+c1),.slice a2 m.home.length (m.home.length+c2),.int .i64 m.start,.slice a3 m.rocks.length (m.rocks.length+c3),.int .i64 m.speed,.int .i64 m.part,.int .i64 m.flow,.int .i64 m.idle,.int .i64 m.drive,.int .i64 m.battery,.int .i64 m.deadline],.slice al l.length (l.length+cl),.int .i64 (k:Int)]) (by go_simp) (f3.out X9 BW.out) ?_
  rintro e w2 ⟨vb,va,rfl,t6,b2,-,-⟩;refine⟨_,rfl,?_⟩;simp only [Act.put,zq4,zr4,zs4];replace BW:=zAg BW b2;replace B_X0:=zAg B_X0 b2;replace B_X5:=zAg B_X5 b2;clear b2;have T6:=Lib.hid t6;clear t6;obtain⟨-,ab,cb,hvb,-⟩:=T6.out.bef;subst hvb;obtain⟨-,aa,ca,hva,-⟩:=T6.out.aft;subst hva;have inv8:=HeadInv.put2 inv7 (j:=7) (by kernel_rfl) (by omega)
  clear inv7;refine sa1 (r:=7) B_X5.out ?_;refine Zp (Zd rfl) rfl (f:=33) (args:=#[.agg (stgC m (.slice a1 m.ways.length (m.ways.length+c1)) (.slice a2 m.home.length (m.home.length+c2)) (.slice a3 m.rocks.length (m.rocks.length+c3)) (.slice ab (rdBU m l).length ((rdBU m l).length+cb)) (.slice aa (rdAU m l).length ((rdAU m l).length+ca)) k),.agg #[.slice al l.length (l.length+cl),.int .i64 (k:Int),.int .i64 2,.int .i64 q3,.int .i64 px,.int .i64 py]]) (by go_simp) (g2.out _ _ w2 T6.out hk) ?_
  rintro e w3 ⟨rfl,b3⟩;refine⟨_,rfl,?_⟩;simp only [Act.put,zq4,zr4,zs4];replace BW:=zAg BW b3;replace B_X0:=zAg B_X0 b3;replace B_X5:=zAg B_X5 b3;clear b3;refine sk hH (i:=8) (v:=.bool (ntH m l k q3 ⟨px,py⟩)) (Zd rfl) inv8 (fun X hX=>?_) fun inv9=>?_
  ·go_simp
  simp only [Act.put,zq4,zr4,zs4];clear inv8 inv9 hH;refine Zm (by kernel_rfl) B_X5.out ?_
  simp only [List.drop_succ_cons,List.drop_zero];clear B_X5;gi_wp2;go_wp2;go_ret2;exact⟨by simp [askB],BW.out⟩
 ·skip
  have hat9:=HA.out.2.2.2.2.1;have has9:=HH.out.2.2.2.2.1;have hwf:(Lit.int .i64 3).wf=true:=rfl;have hk:=hkw (by decide)
  by_cases h1:(k:Int)=q1;rotate_left
  ·have d1:((k:Int) != q1)=true:=by simpa using h1
   go_wp2_with (at_lookup;refine wpList_lookup_own_ok (H:=Value) _ rfl _ _ 74 rfl 3 72 keyInt Tryz.underlying74 fnR (zeroF0 _) (.held .nilFunc) [] rfl w1.heap.size _ _ rfl M0.out _ _ rfl (keyOf_int_mk Tryz.underlying3 hwf) ?_;intro v9 ps9 h9;replace h9:=ZM h9 hat9;subst h9;rw [has9]);go_ret2;exact⟨by simp [h1],BW.out⟩
  by_cases h2:(3:Int)=q2;rotate_left
  ·have d2:((3:Int) != q2)=true:=by simpa using h2
   subst h1;go_wp2_with (at_lookup;refine wpList_lookup_own_ok (H:=Value) _ rfl _ _ 74 rfl 3 72 keyInt Tryz.underlying74 fnR (zeroF0 _) (.held .nilFunc) [] rfl w1.heap.size _ _ rfl M0.out _ _ rfl (keyOf_int_mk Tryz.underlying3 hwf) ?_;intro v9 ps9 h9;replace h9:=ZM h9 hat9;subst h9;rw [has9]);go_ret2;exact⟨by simp [h2],BW.out⟩
  subst h1 h2;have d1:((k:Int) != (k:Int))=false:=by simp
  go_upto_region 8 with (at_lookup;refine wpList_lookup_own_ok (H:=Value) _ rfl _ _ 74 rfl 3 72 keyInt Tryz.underlying74 fnR (zeroF0 _) (.held .nilFunc) [] rfl w1.heap.size _ _ rfl M0.out _ _ rfl (keyOf_int_mk Tryz.underlying3 hwf) ?_;intro v9 ps9 h9;replace h9:=ZM h9 hat9;subst h9;rw [has9])
  clear y1 y2 hat9 has9;refine (wpIn_wide (n:=9)).1 ?_;refine Zg (Zj _) 9 (fun X=>Below X5.heap.size X5 X) (by kernel_rfl) (by kernel_rfl) (by kernel_rfl) fun hH inv0=>?_
  have hD:=Below.drew (Below.refl X5.heap.size X5);generalize hXX9:X5.drew=X9 at *;clear hXX9;replace BW:=zAg BW hD;replace B_X0:=zAg B_X0 hD;have B_X5:=Lib.hid hD;clear hD;refine sk hH (i:=0) (v:=.func (.func 34) #[] #[]) (Zd rfl) inv0 (fun X hX=>?_) fun inv1=>?_
  ·go_simp
  simp only [Act.put,zq4,zr4,zs4];clear inv0;refine sk hH (i:=1) (v:=.agg #[.slice a1 m.ways.length (m.ways.length+c1),.slice a2 m.home.length (m.home.length+c2),.int .i64 m.start,.slice a3 m.rocks.length (m.rocks.length+c3),.int .i64 m.speed,.int .i64 m.part,.int .i64 m.flow,.int .i64 m.idle,.int .i64 m.drive,.int .i64 m.battery,.int .i64 m.deadline]) (Zd rfl) inv1 (fun X hX=>?_) fun inv2=>?_
  ·have hh:=MB5.out.below hX MB5.out.lt;obtain⟨c0,c1,c2,c3,c4,c5,c6,c7,c8,c9,c10⟩:=Zi (m:=m) hh;go_simp
  simp only [Act.put,zq4,zr4,zs4];clear inv1;refine sk hH (i:=2) (v:=.pointer (some ⟨w.heap.size+1,0,none⟩)) (Zd rfl) inv2 (fun X hX=>?_) fun inv3=>?_
  ·go_simp
  simp only [Act.put,zq4,zr4,zs4];clear inv2;refine sk hH (i:=3) (v:=.slice al l.length (l.length+cl)) (Zd rfl) inv3 (fun X hX=>?_) fun inv4=>?_
  ·have hh:=XB5.out.below hX XB5.out.lt;have t0:=hh.cell (i:=0) rfl;have t1:=hh.cell (i:=1) rfl;have t2:=hh.cell (i:=2) rfl;have t3:=hh.cell (i:=3) rfl;have t4:=hh.cell (i:=4) rfl;have t5:=hh.cell (i:=5) rfl;go_simp
  simp only [Act.put,zq4,zr4,zs4];clear inv3;refine sk hH (i:=4) (v:=.int .i64 (k:Int)) (Zd rfl) inv4 (fun X hX=>?_) fun inv5=>?_
  ·go_simp
  simp only [Act.put,zq4,zr4,zs4];clear inv4;refine sk hH (i:=6) (v:=.agg #[.slice al l.length (l.length+cl),.int .i64 (k:Int),.int .i64 3,.int .i64 q3,.int .i64 px,.int .i64 py]) (Zd rfl) inv5 (fun X hX=>?_) fun inv6=>?_
  ·have hh:=XB5.out.below hX XB5.out.lt;have t0:=hh.cell (i:=0) rfl;have t1:=hh.cell (i:=1) rfl;have t2:=hh.cell (i:=2) rfl;have t3:=hh.cell (i:=3) rfl;have t4:=hh.cell (i:=4) rfl;have t5:=hh.cell (i:=5) rfl;go_simp
  simp only [Act.put,zq4,zr4,zs4];clear inv5;have inv7:=HeadInv.put2 inv6 (j:=5) (by kernel_rfl) (by omega)
  clear inv6;refine sa1 (r:=5) B_X5.out ?_;refine Zp (Zd rfl) rfl (f:=29) (args:=#[.agg #[.slice a1 m.ways.length (m.ways.length+c1),.slice a2 m.home.length (m.home.length+c2),.int .i64 m.start,.slice a3 m.rocks.length (m.rocks.length+c3),.int .i64 m.speed,.int .i64 m.part,.int .i64 m.flow,.int .i64 m.idle,.int .i64 m.drive,.int .i64 m.battery,.int .i64 m.deadline],.slice al l.length (l.length+cl),.int .i64 (k:Int)]) (by go_simp) (f3.out X9 BW.out) ?_
  rintro e w2 ⟨vb,va,rfl,t6,b2,-,-⟩;refine⟨_,rfl,?_⟩;simp only [Act.put,zq4,zr4,zs4];replace BW:=zAg BW b2;replace B_X0:=zAg B_X0 b2;replace B_X5:=zAg B_X5 b2;clear b2;have T6:=Lib.hid t6;clear t6;obtain⟨-,ab,cb,hvb,-⟩:=T6.out.bef;subst hvb;obtain⟨-,aa,ca,hva,-⟩:=T6.out.aft;subst hva;have inv8:=HeadInv.put2 inv7 (j:=7) (by kernel_rfl) (by omega)
  clear inv7;refine sa1 (r:=7) B_X5.out ?_;refine Zp (Zd rfl) rfl (f:=34) (args:=#[.agg (stgC m (.slice a1 m.ways.length (m.ways.length+c1)) (.slice a2 m.home.length (m.home.length+c2)) (.slice a3 m.rocks.length (m.rocks.length+c3)) (.slice ab (rdBU m l).length ((rdBU m l).length+cb)) (.slice aa (rdAU m l).length ((rdAU m l).length+ca)) k),.agg #[.slice al l.length (l.length+cl),.int .i64 (k:Int),.int .i64 3,.int .i64 q3,.int .i64 px,.int .i64 py]]) (by go_simp) (g3.out _ _ w2) ?_
  rintro e w3 ⟨rfl,b3⟩;refine⟨_,rfl,?_⟩;simp only [Act.put,zq4,zr4,zs4];replace BW:=zAg BW b3;replace B_X0:=zAg B_X0 b3;replace B_X5:=zAg B_X5 b3;clear b3;refine sk hH (i:=8) (v:=.bool (notB q3 ⟨px,py⟩)) (Zd rfl) inv8 (fun X hX=>?_) fun inv9=>?_
  ·go_simp
  simp only [Act.put,zq4,zr4,zs4];clear inv8 inv9 hH;refine Zm (by kernel_rfl) B_X5.out ?_
  simp only [List.drop_succ_cons,List.drop_zero];clear B_X5;gi_wp2;go_wp2;go_ret2;exact⟨by simp [askB],BW.out⟩
 ·skip
  have hat9:=HA.out.2.2.2.2.2;have has9:=HH.out.2.2.2.2.2;have hwf:(Lit.int .i64 4).wf=true:=rfl;have hk:=hkw (by decide)
  by_cases h1:(k:Int)=q1;rotate_left
  ·have d1:((k:Int) != q1)=true:=by simpa using h1
   go_wp2_with (at_lookup;refine wpList_lookup_own_ok (H:=Value) _ rfl _ _ 74 rfl 3 72 keyInt Tryz.underlying74 fnR (zeroF0 _) (.held .nilFunc) [] rfl w1.heap.size _ _ rfl M0.out _ _ rfl (keyOf_int_mk Tryz.underlying3 hwf) ?_;intro v9 ps9 h9;replace h9:=ZM h9 hat9;subst h9;rw [has9]);go_ret2;exact⟨by simp [h1],BW.out⟩
  by_cases h2:(4:Int)=q2;rotate_left
  ·have d2:((4:Int) != q2)=true:=by simpa using h2
   subst h1;go_wp2_with (at_lookup;refine wpList_lookup_own_ok (H:=Value) _ rfl _ _ 74 rfl 3 72 keyInt Tryz.underlying74 fnR (zeroF0 _) (.held .nilFunc) [] rfl w1.heap.size _ _ rfl M0.out _ _ rfl (keyOf_int_mk Tryz.underlying3 hwf) ?_;intro v9 ps9 h9;replace h9:=ZM h9 hat9;subst h9;rw [has9]);go_ret2;exact⟨by simp [h2],BW.out⟩
  subst h1 h2;have d1:((k:Int) != (k:Int))=false:=by simp
  go_upto_region 8 with (at_lookup;refine wpList_lookup_own_ok (H:=Value) _ rfl _ _ 74 rfl 3 72 keyInt Tryz.underlying74 fnR (zeroF0 _) (.held .nilFunc) [] rfl w1.heap.size _ _ rfl M0.out _ _ rfl (keyOf_int_mk Tryz.underlying3 hwf) ?_;intro v9 ps9 h9;replace h9:=ZM h9 hat9;subst h9;rw [has9])
  clear y1 y2 hat9 has9;refine (wpIn_wide (n:=9)).1 ?_;refine Zg (Zj _) 9 (fun X=>Below X5.heap.size X5 X) (by kernel_rfl) (by kernel_rfl) (by kernel_rfl) fun hH inv0=>?_
  have hD:=Below.drew (Below.refl X5.heap.size X5);generalize hXX9:X5.drew=X9 at *;clear hXX9;replace BW:=zAg BW hD;replace B_X0:=zAg B_X0 hD;have B_X5:=Lib.hid hD;clear hD;refine sk hH (i:=0) (v:=.func (.func 34) #[] #[]) (Zd rfl) inv0 (fun X hX=>?_) fun inv1=>?_
  ·go_simp
  simp only [Act.put,zq4,zr4,zs4];clear inv0;refine sk hH (i:=1) (v:=.agg #[.slice a1 m.ways.length (m.ways.length+c1),.slice a2 m.home.length (m.home.length+c2),.int .i64 m.start,.slice a3 m.rocks.length (m.rocks.length+c3),.int .i64 m.speed,.int .i64 m.part,.int .i64 m.flow,.int .i64 m.idle,.int .i64 m.drive,.int .i64 m.battery,.int .i64 m.deadline]) (Zd rfl) inv1 (fun X hX=>?_) fun inv2=>?_
  ·have hh:=MB5.out.below hX MB5.out.lt;obtain⟨c0,c1,c2,c3,c4,c5,c6,c7,c8,c9,c10⟩:=Zi (m:=m) hh;go_simp
  simp only [Act.put,zq4,zr4,zs4];clear inv1;refine sk hH (i:=2) (v:=.pointer (some ⟨w.heap.size+1,0,none⟩)) (Zd rfl) inv2 (fun X hX=>?_) fun inv3=>?_
  ·go_simp
  simp only [Act.put,zq4,zr4,zs4];clear inv2;refine sk hH (i:=3) (v:=.slice al l.length (l.length+cl)) (Zd rfl) inv3 (fun X hX=>?_) fun inv4=>?_
  ·have hh:=XB5.out.below hX XB5.out.lt;have t0:=hh.cell (i:=0) rfl;have t1:=hh.cell (i:=1) rfl;have t2:=hh.cell (i:=2) rfl;have t3:=hh.cell (i:=3) rfl;have t4:=hh.cell (i:=4) rfl;have t5:=hh.cell (i:=5) rfl;go_simp
  simp only [Act.put,zq4,zr4,zs4];clear inv3;refine sk hH (i:=4) (v:=.int .i64 (k:Int)) (Zd rfl) inv4 (fun X hX=>?_) fun inv5=>?_
  ·go_simp
  simp only [Act.put,zq4,zr4,zs4];clear inv4;refine sk hH (i:=6) (v:=.agg #[.slice al l.length (l.length+cl),.int .i64 (k:Int),.int .i64 4,.int .i64 q3,.int .i64 px,.int .i64 py]) (Zd rfl) inv5 (fun X hX=>?_) fun inv6=>?_
  ·have hh:=XB5.out.below hX XB5.out.lt;have t0:=hh.cell (i:=0) rfl;have t1:=hh.cell (i:=1) rfl;have t2:=hh.cell (i:=2) rfl;have t3:=hh.cell (i:=3) rfl;have t4:=hh.cell (i:=4) rfl;have t5:=hh.cell (i:=5) rfl;go_simp
  simp only [Act.put,zq4,zr4,zs4];clear inv5;have inv7:=HeadInv.put2 inv6 (j:=5) (by kernel_rfl) (by omega)
  clear inv6;refine sa1 (r:=5) B_X5.out ?_;refine Zp (Zd rfl) rfl (f:=29) (args:=#[.agg #[.slice a1 m.ways.length (m.ways.length+c1),.slice a2 m.home.length (m.home.length+c2),.int .i64 m.start,.slice a3 m.rocks.length (m.rocks.length+c3),.int .i64 m.speed,.int .i64 m.part,.int .i64 m.flow,.int .i64 m.idle,.int .i64 m.drive,.int .i64 m.battery,.int .i64 m.deadline],.slice al l.length (l.length+cl),.int .i64 (k:Int)]) (by go_simp) (f3.out X9 BW.out) ?_
  rintro e w2 ⟨vb,va,rfl,t6,b2,-,-⟩;refine⟨_,rfl,?_⟩;simp only [Act.put,zq4,zr4,zs4];replace BW:=zAg BW b2;replace B_X0:=zAg B_X0 b2;replace B_X5:=zAg B_X5 b2;clear b2;have T6:=Lib.hid t6;clear t6;obtain⟨-,ab,cb,hvb,-⟩:=T6.out.bef;subst hvb;obtain⟨-,aa,ca,hva,-⟩:=T6.out.aft;subst hva;have inv8:=HeadInv.put2 inv7 (j:=7) (by kernel_rfl) (by omega)
  clear inv7;refine sa1 (r:=7) B_X5.out ?_;refine Zp (Zd rfl) rfl (f:=34) (args:=#[.agg (stgC m (.slice a1 m.ways.length (m.ways.length+c1)) (.slice a2 m.home.length (m.home.length+c2)) (.slice a3 m.rocks.length (m.rocks.length+c3)) (.slice ab (rdBU m l).length ((rdBU m l).length+cb)) (.slice aa (rdAU m l).length ((rdAU m l).length+ca)) k),.agg #[.slice al l.length (l.length+cl),.int .i64 (k:Int),.int .i64 4,.int .i64 q3,.int .i64 px,.int .i64 py]]) (by go_simp) (g3.out _ _ w2) ?_
  rintro e w3 ⟨rfl,b3⟩;refine⟨_,rfl,?_⟩;simp only [Act.put,zq4,zr4,zs4];replace BW:=zAg BW b3;replace B_X0:=zAg B_X0 b3;replace B_X5:=zAg B_X5 b3;clear b3;refine sk hH (i:=8) (v:=.bool (notB q3 ⟨px,py⟩)) (Zd rfl) inv8 (fun X hX=>?_) fun inv9=>?_
  ·go_simp
  simp only [Act.put,zq4,zr4,zs4];clear inv8 inv9 hH;refine Zm (by kernel_rfl) B_X5.out ?_
  simp only [List.drop_succ_cons,List.drop_zero];clear B_X5;gi_wp2;go_wp2;go_ret2;exact⟨by simp [askB],BW.out⟩
theorem Z1S (m:Msn) (vw vh vr vs:Value) (l:List Int) (q1 q2 q3:Int) (x:Pt) (w:World) (hm:MsnAt w.heap.size w m vw vh vr) (hl:Z9 w.heap.size w vs l) :
  Calls Tryz.prog 12 #[.agg (Zc m vw vh vr),.agg #[vs,.int .i64 q1,.int .i64 q2,.int .i64 q3,.int .i64 x.x,.int .i64 x.y]] w fun e w'=>e=.returned (.tuple #[.bool (brB m l q1 q2 q3 x),.int .i64 (kpE m l)])∧Below w.heap.size w w':=by
 unfold brB;cases hok:radOkB m l
 ·have:=Z8t m vw vh vr vs l q1 q2 q3 x w hm hl hok
  simpa [kpE,hok] using this
 ·have:=Z6Q m vw vh vr vs l q1 q2 q3 x w hm hl hok
  obtain⟨k1,k2,k3⟩:=kp_of hok;rw [k1,k2,k3];simp only [Bool.true_and];exact this
end
section
open Go.RowKit
theorem Z9b {m:Msn} (V:VMsn m) {l:List Int} {k:Nat} (hk:k+1<m.ways.length):Zb (hmP m l k)=true:=by
 rw [Z9D V hk];exact (hm_eq V (bk_bd V l hk (Nat.le_refl _))).2
theorem Z4x {p:List Pt} {x:Pt} (h:hasB p x=true):Z4 x=true:=by
 unfold hasB at h;simp only [Bool.and_eq_true] at h;exact h.1.2
end
section
attribute [local irreducible] wpQuiet
open Go.RowKit
instance (l:List Pt) (s t:Pt):Decidable (Nx l s t):=by unfold Nx;infer_instance
def hullB (l h:List Pt):Bool:=decide (l≠[]∧1≤h.length∧(nth h 0 ∈ l∧∀ x,x ∈ l→¬ LexLt x (nth h 0))∧(∀ i,i<h.length→Nx l (nth h i) (nth h ((i+1) % h.length)))∧(∀ i,i<h.length→0<i→nth h i≠nth h 0))
theorem Z61 {l h:List Pt} (k:hullB l h=true):hullP l=h:=by
 simp only [hullB,decide_eq_true_eq] at k;obtain⟨h1,h2,h3,h4,h5⟩:=k;exact (Z2f ⟨fun e=>absurd e h1,fun _=>h2,fun _=>h3,h4,fun i h0 hi=>h5 i hi h0⟩).symm
theorem Z8d:Z5 0=[⟨0,0⟩]:=Z61 (by decide +kernel)
theorem Z5M {ax ay bx by' n : Int} (h0 : 0 ≤ n) (h : (ax-bx) * (ax-bx) + (ay-by') * (ay-by') ≤ n * n) (h2 : (n-1) * (n-1) < (ax-bx) * (ax-bx) + (ay-by') * (ay-by')) : distV ax ay bx by' = n := by
 unfold distV;generalize (ax-bx)*(ax-bx)+(ay-by')*(ay-by')=s at *
 have hs:=Z2q (s:=s) (by
  have:0≤(n-1)*(n-1):=by
   rcases Int.le_total 0 (n-1) with h | h
   ·exact Int.mul_nonneg h h
   ·have:=Int.mul_nonneg (show 0≤-(n-1) by omega) (show 0≤-(n-1) by omega)
    rwa [Int.neg_mul_neg] at this
  omega)
 have h1:=hs.2.2 n h0 h;rcases Int.lt_or_le (rootUp s) n with h3 | h3
 ·have h4:=Int.mul_le_mul (show rootUp s≤n-1 by omega) (show rootUp s≤n-1 by omega) hs.1 (by omega)
  have:=hs.2.1;omega
 ·omega
end
section
open Go.RowKit
def hm9:List Pt:=[⟨-9,-9⟩,⟨9,-9⟩,⟨9,9⟩,⟨-9,9⟩]
def roS:List Pt:=[⟨50,0⟩]
def exS (rs:List (List Pt)) (b:Int):Msn:=⟨[⟨0,0,0,0,0⟩,⟨100,0,0,0,0⟩],hm9,0,rs,1000,0,0,0,1,b,100⟩
theorem Z1A (rs:List (List Pt)) (b:Int):(gLeg (exS rs b) 0 1=0∧gLeg (exS rs b) 1 0=0)∧(tLeg (exS rs b) 0 1=10∧tLeg (exS rs b) 1 0=10)∧(eLeg (exS rs b) 0 1=100∧eLeg (exS rs b) 1 0=100):=by
 have d1:dLeg (exS rs b) 0 1=100:=show distV 0 0 100 0=100 from Z5M (by decide) (by decide) (by decide)
 have d2:dLeg (exS rs b) 1 0=100:=show distV 100 0 0 0=100 from Z5M (by decide) (by decide) (by decide)
 have t1:tLeg (exS rs b) 0 1=10:=by unfold tLeg;rw [d1];exact (show lastsV 1000 100=10 by decide)
 have t2:tLeg (exS rs b) 1 0=10:=by unfold tLeg;rw [d2];exact (show lastsV 1000 100=10 by decide)
 refine⟨⟨?_,?_⟩,⟨t1,t2⟩,?_,?_⟩
 ·unfold gLeg;rw [d1];exact (show growthV 1000 0 0 100=0 by decide)
 ·unfold gLeg;rw [d2];exact (show growthV 1000 0 0 100=0 by decide)
 ·unfold eLeg;rw [t1,d1];rfl
 ·unfold eLeg;rw [t2,d2];rfl
theorem Z4u:Zb hm9=true:=by rw [Z15];decide +kernel
theorem Z0d:Zb roS=true:=by rw [Z15];decide +kernel
theorem Z89 (rs:List (List Pt)) (b:Int):grownV (exS rs b)=0:=by
 obtain⟨⟨g1,g2⟩,-⟩:=Z1A rs b
 show (0:Int)+(gLeg (exS rs b) 0 1+gLeg (exS rs b) 1 0)=0
 rw [g1,g2]
 rfl
theorem Z2G {rs:List (List Pt)} {b:Int} (hb:0≤b∧b≤1000000000) (hr:rs=[]∨rs=[roS]):validB (exS rs b)=true:=by
 rw [Zs];refine⟨by show 2≤2;decide,by show 2≤41;decide,by rcases hr with rfl | rfl <;> simp [exS],by show waysB [⟨0,0,0,0,0⟩,⟨100,0,0,0,0⟩]=true;decide,Z4u,?_,by show (0:Int)≤0∧(0:Int)≤100000;decide,by show (1:Int)≤1000∧(1000:Int)≤20000∧(0:Int)≤0∧(0:Int)≤500∧(0:Int)≤0∧(0:Int)≤5000;decide,by show (0:Int)≤0∧(0:Int)≤1000;decide,by show (0:Int)≤1∧(1:Int)≤1000;decide,hb,by show (0:Int)≤100∧(100:Int)≤1000000000;decide,by rw [Z89];decide⟩
 refine decide_eq_true fun j hj=>?_
 rcases hr with rfl | rfl
 ·exact absurd hj (by simp [exS])
 ·obtain rfl:j=0:=by simp [exS] at hj;omega
  exact Z0d
theorem firN (c:List Pt):firB c []=false:=by
 unfold firB
 split <;> rfl
def cSL:List Pt:=[⟨0,0⟩,⟨100,0⟩]
theorem Z0t:Zb cSL=true:=by rw [Z15];decide +kernel
theorem Zai:corL ⟨0,0⟩ 0 ⟨100,0⟩ 0=cSL:=by
 have e:corE ⟨0,0⟩ 0 ⟨100,0⟩ 0=0:=by
  unfold corE;rw [show (0:Int).toNat=0 from rfl,Z8d]
  decide +kernel
 unfold corL;rw [if_pos e];unfold corH;rw [show (0:Int).toNat=0 from rfl,Z8d]
 exact Z61 (by decide +kernel)
theorem cSL_c0:cornersP cSL roS=[]:=by unfold cornersP;rw [Z0C Z0d];decide +kernel
theorem Z8s:cornersP roS cSL=[⟨50,0⟩]:=by unfold cornersP;rw [Z0C Z0t];decide +kernel
theorem Z8r:touchB cSL roS=true:=by
 unfold touchB sharedP;rw [Z8s,Z0t,Z0d];simp
theorem Z5z:comX cSL roS=some ⟨50,0⟩:=by
 have e0:comL cSL roS 0=[]:=cSL_c0;have e1:comL cSL roS 1=[⟨50,0⟩]:=Z8s;rw [Z8m (k:=1) (by omega) (fun j hj=>by
  obtain rfl:j=0:=by omega
  rw [e0];rfl) (by rw [e1];decide)]
 rw [e1]
 decide +kernel
theorem Z4G:firI cSL [roS]=0∧firB cSL [roS]=true:=by
 have hok:okRocks cSL [roS]=true:=by
  unfold okRocks;rw [Z0t,Bool.true_and];refine decide_eq_true fun j hj=>?_
  obtain rfl:j=0:=by simp at hj;omega
  exact Z0d
 have hh:hitTo cSL [roS] 1=some 0:=by
  have r0:rk [roS] 0=roS:=rfl;simp [hitTo,r0,Z8r]
 exact⟨by unfold firI;simp [hok,hh,natO],by unfold firB;simp [hok,hh]⟩
theorem Z5y:hitX cSL roS=50∧hitY cSL roS=0∧hitE cSL roS=0 :=
 ⟨by unfold hitX;rw [Z0t,Z0d,Z5z];rfl,by unfold hitY;rw [Z0t,Z0d,Z5z];rfl,by unfold hitE;rw [Z0t,Z0d,Z5z];rfl⟩
theorem Zab (rs:List (List Pt)) (b:Int):lieB (exS rs b) 0=true:=by
 unfold lieB;rw [show (0:Int).toNat=0 from rfl,Z8d,show atW (exS rs b) 0=⟨0,0⟩ from rfl]
 unfold cornersP;rw [show (exS rs b).home=hm9 from rfl,Z0C Z4u]
 decide +kernel
theorem Zac (rs:List (List Pt)) (b:Int):dep (exS rs b) 1=1:=rfl
theorem Z9i (rs:List (List Pt)) (b:Int):homeE (exS rs b) 1 1=100∧homeT (exS rs b) 1 1=10:=by
 obtain⟨-,⟨-,t2⟩,-,e2⟩:=Z1A rs b;simp only [homeE,homeT];exact⟨by show 0+eLeg (exS rs b) 1 0=100;rw [e2];rfl,by show 0+tLeg (exS rs b) 1 0=10;rw [t2];rfl⟩
theorem Z5o (rs:List (List Pt)) (b:Int):rdA (exS rs b) [] 0=0∧rdB (exS rs b) [] 1=0:=by
 obtain⟨⟨g1,-⟩,-⟩:=Z1A rs b;exact⟨rfl,by rw [Z8L,show rdA (exS rs b) [] 0=0 from rfl,g1];rfl⟩
theorem exS_us (rs:List (List Pt)) (b:Int):usT (exS rs b) [] 1=10∧usE (exS rs b) [] 1=100:=by
 obtain⟨-,⟨t1,-⟩,e1,-⟩:=Z1A rs b;have w0:waitT (exS rs b) [] 0=0:=rfl;exact⟨by show 0+waitT (exS rs b) [] 0+tLeg (exS rs b) 0 1=10;rw [w0,t1];rfl,by show 0+0*waitT (exS rs b) [] 0+eLeg (exS rs b) 0 1=100;rw [w0,e1];rfl⟩
theorem Z5p (rs:List (List Pt)) (b:Int):ownC (exS rs b) [] 0=cSL:=by
 obtain⟨r1,r2⟩:=Z5o rs b;unfold ownC;rw [show 0+1=1 from rfl,r1,r2,show atW (exS rs b) 0=⟨0,0⟩ from rfl,show atW (exS rs b) 1=⟨100,0⟩ from rfl,Zai]
theorem Z87 (b:Int):kindV (exS [roS] b) [] 0=1:=by
 obtain⟨r1,r2⟩:=Z5o [roS] b;unfold kindV;have h:clrB (exS [roS] b) 0 (rdA (exS [roS] b) [] 0) (0+1) (rdB (exS [roS] b) [] (0+1))=false:=by
  have:=Z5p [roS] b;unfold ownC at this;unfold clrB;rw [this,show (exS [roS] b).rocks=[roS] from rfl,Z4G.2]
  rfl
 rw [if_pos h]
theorem Z88 (b:Int):kindV (exS [] b) [] 0=if 200>b then 3 else 0:=by
 obtain⟨⟨-,g2⟩,-⟩:=Z1A [] b;obtain⟨r1,r2⟩:=Z5o [] b;obtain⟨u1,u2⟩:=exS_us [] b;obtain⟨h1,h2⟩:=Z9i [] b;have cl:∀ i u j v,clrB (exS [] b) i u j v=true:=fun i u j v=>by unfold clrB;rw [show (exS [] b).rocks=[] from rfl,firN];rfl
 have b1:bkR (exS [] b) 1 0 1=0:=by show 0+gLeg (exS [] b) 1 0=0;rw [g2];rfl
 have b2:bkC (exS [] b) 1 0 1=true:=by show (true && clrB (exS [] b) 1 0 0 (bkR (exS [] b) 1 0 1))=true;rw [cl];rfl
 unfold kindV;rw [show 0+1=1 from rfl,r1,r2,cl,Zac,b2,b1,Zab,u1,u2,h1,h2,if_neg (by decide),if_neg (by decide),if_neg (by decide)]
 show (if (200:Int)>b then 3 else if (20:Int)>100 then 4 else 0)=_
 rw [if_neg (by decide:¬ (20:Int)>100)]
theorem Z65 {rs:List (List Pt)} {b:Int} (hb:0≤b∧b≤1000000000) (hr:rs=[]∨rs=[roS]):radOkB (exS rs b) []=true:=by
 unfold radOkB;rw [Z2G hb hr,Bool.true_and];unfold stopsB;exact decide_eq_true fun k hk=>absurd hk (by simp)
theorem Z67 (rs:List (List Pt)) (b:Int):(bestP (exS rs b)).2=[]∧(bestP (exS rs b)).1=kpL (exS rs b) []:=by
 have h:(bestP (exS rs b)).2=[]:=List.sublist_nil.1 (Z6g (exS rs b));exact⟨h,by rw [← Z4K,h]⟩
theorem Z1B {rs:List (List Pt)} {b:Int} (h:kindV (exS rs b) [] 0≠0):leadN (exS rs b) []=0:=Z3F (Nat.zero_le _) (fun j hj=>by omega) (fun _=>h)
theorem Z4z {rs:List (List Pt)} {b:Int} (h:kindV (exS rs b) [] 0=0):leadN (exS rs b) []=1:=Z3F (by show 1≤2-1;decide) (fun j hj=>by
 obtain rfl:j=0:=by omega
 exact h) (fun hh=>absurd hh (by show ¬ 1<2-1;decide))
theorem Z8a {rs:List (List Pt)} {b:Int} (hb:0≤b∧b≤1000000000) (hr:rs=[]∨rs=[roS]) (h:kindV (exS rs b) [] 0≠0):rfB (exS rs b)=true∧rfL (exS rs b)=[]:=by
 obtain⟨h1,h2⟩:=Z67 rs b;have hk:kpL (exS rs b) []=0:=by rw [(kp_of (Z65 hb hr)).1];unfold leadV;rw [Z1B h];rfl
 have e:rfB (exS rs b)=true:=by
  unfold rfB;rw [Z2G hb hr,h2,hk]
  show (true && !decide ((0:Int)=((2-1:Nat):Int)))=true
  decide
 exact⟨e,by unfold rfL;rw [if_pos e,h1]⟩
theorem Z66:rfB (exS [] 200)=false∧plE (exS [] 200)=0:=by
 obtain⟨h1,h2⟩:=Z67 [] 200;have hv:=Z2G (rs:=[]) (b:=200) (by decide) (.inl rfl)
 have hk:kpL (exS [] 200) []=1:=by
  rw [(kp_of (Z65 (rs:=[]) (b:=200) (by decide) (.inl rfl))).1];unfold leadV;rw [Z4z (by rw [Z88];decide)];rfl
 exact⟨by unfold rfB;rw [hv,h2,hk];decide,by unfold plE;rw [hv];rfl⟩
def msn0:Msn:=⟨[],[],0,[],0,0,0,0,0,0,0⟩
theorem Z7v:rfB msn0=false∧plE msn0=1:=by
 have h:validB msn0=false:=by
  cases h:validB msn0
  ·rfl
  ·have:=((Zs _).1 h).n2
   exact absurd this (by decide)
 exact⟨by unfold rfB;rw [h];rfl,by unfold plE;rw [h];rfl⟩
theorem Z8b:brB (exS [roS] 200) [] 0 1 0 ⟨50,0⟩=true∧kpE (exS [roS] 200) []=0:=by
 have hok:=Z65 (rs:=[roS]) (b:=200) (by decide) (.inr rfl)
 obtain⟨k1,k2,k3⟩:=kp_of hok;have hl:=Z1B (rs:=[roS]) (b:=200) (by rw [Z87];decide)
 refine⟨?_,k3⟩;have h1:kpL (exS [roS] 200) []=0:=by rw [k1];unfold leadV;rw [hl];rfl
 have h2:kpK (exS [roS] 200) []=1:=by rw [k2];unfold leadK;rw [hl,if_pos (by show 0<2-1;decide),Z87]
 have h3:hasB roS ⟨50,0⟩=true:=Z5j Z0d (k:=0) (by decide)
 have h4:hasB cSL ⟨50,0⟩=true:=by
  have:(⟨50,0⟩:Pt) ∈ cornersP roS cSL:=by rw [Z8s];exact List.mem_singleton.2 rfl
  exact ((Z1q _).1 this).elim fun _ h=>h.2.2
 unfold brB askB inO onR;rw [hok,h1,h2,hl,Z5p,h4,show rk (exS [roS] 200).rocks (0:Int).toNat=roS from rfl,h3]
 decide
theorem Z68:brB (exS [] 200) [] 0 1 0 ⟨50,0⟩=false∧kpE (exS [] 200) []=0:=by
 have hok:=Z65 (rs:=[]) (b:=200) (by decide) (.inl rfl)
 obtain⟨k1,k2,k3⟩:=kp_of hok;have hl:=Z4z (rs:=[]) (b:=200) (by rw [Z88];decide)
 refine⟨?_,k3⟩;have h1:kpL (exS [] 200) []=1:=by rw [k1];unfold leadV;rw [hl];rfl
 unfold brB;rw [h1];simp
end
end Go.Proofs.YtdolkgihppgpcaaGreat
