/- package scene: Worst. | package scene: Breaks. | scenes: plain laws; what Worst returns. | A mission that ends with an earlier way: its legs are th .. -/
import Derived.Maps.OwnSet
import Derived.Test.YthipcinibldgnaaGreatBin31
import Derived.Test.YthipcinibldgnaaGreatBin32
open Go.Value renaming int->O,slice->qS,bool->qB,agg->qA,tuple->qT
open Go.IntKind renaming i64->qL
open Go.Lib renaming hid->qH
open Go.RowKit.Below renaming refl->qK
open Go.World renaming setCell->qU,alloc->qV
open Nat renaming le_refl->qN
open Go.Act renaming put->qJ
set_option linter.unusedSimpArgs false
set_option linter.unusedVariables false
set_option maxRecDepth 8000
set_option maxHeartbeats 6400000
namespace Go.Proofs.YthipcinibldgnaaGreat
section
attribute [local irreducible] wpQuiet
open Go.RowKit Go.Maps
def scZ:Array Value:=#[qS none 0 0,O qL 0,O qL 0,O qL 0,O qL 0,O qL 0]
theorem zeroF1 (w:World):(zeroValue 78).run Tryz.prog w=.ok .nilFunc w:=by kernel_rfl
def showD:DataW Value:=(((DataW.map []).put (.int .i64 1) (.held (.func (.func 34) #[] #[]))).put (.int .i64 5) (.held (.func (.func 35) #[] #[]))).put (.int .i64 2) (.held (.func (.func 36) #[] #[]))
theorem ZaM:showD.atKey (.int .i64 1) (.held .nilFunc)=.held (.func (.func 34) #[] #[])/\showD.atKey (.int .i64 5) (.held .nilFunc)=.held (.func (.func 35) #[] #[])/\showD.atKey (.int .i64 2) (.held .nilFunc)=.held (.func (.func 36) #[] #[])/\showD.atKey (.int .i64 3) (.held .nilFunc)=.held .nilFunc/\showD.atKey (.int .i64 4) (.held .nilFunc)=.held .nilFunc:=⟨rfl,rfl,rfl,rfl,rfl⟩
theorem Z93:Maps.has showD (.int .i64 1)=true/\Maps.has showD (.int .i64 5)=true/\Maps.has showD (.int .i64 2)=true/\Maps.has showD (.int .i64 3)=false/\Maps.has showD (.int .i64 4)=false:=⟨rfl,rfl,rfl,rfl,rfl⟩
theorem set6 {X Z:World} {B:Nat} {cs:Array Value} {T:TypeId} {v0 v1 v2 v3 v4 v5:Value} (H:Has X B cs T) (hs:cs.size=6) (hz:((((((X.setCell ⟨B,0,none⟩ v0).setCell ⟨B,1,none⟩ v1).setCell ⟨B,2,none⟩ v2).setCell ⟨B,3,none⟩ v3).setCell ⟨B,4,none⟩ v4).setCell ⟨B,5,none⟩ v5)=Z) :
  Has Z B #[v0,v1,v2,v3,v4,v5] T/\(∀ n,n<=B->Below n X Z)/\Z.heap.size=X.heap.size/\∀ b,b≠B->Z.heap[b]?=X.heap[b]?:=by
 subst hz;obtain⟨l,rfl⟩:∃ l:List Value,cs=l.toArray:=⟨cs.toList,by simp⟩
 obtain⟨u0,u1,u2,u3,u4,u5,rfl⟩:∃ u0 u1 u2 u3 u4 u5,l=[u0,u1,u2,u3,u4,u5]:=by
  match l,hs with
  | [u0,u1,u2,u3,u4,u5],_=>exact⟨_,_,_,_,_,_,rfl⟩
 refine⟨?_,fun n hn=>?_,by simp,fun b hb=>?_⟩
 ·have:=((((((H.set 0 v0).set 1 v1).set 2 v2).set 3 v3).set 4 v4).set 5 v5)
  simpa only [zq4,zr4,zs4] using this
 ·exact (((((((qK n X).setCell (p:=⟨B,0,none⟩) hn v0).setCell (p:=⟨B,1,none⟩) hn v1).setCell (p:=⟨B,2,none⟩) hn v2).setCell (p:=⟨B,3,none⟩) hn v3).setCell (p:=⟨B,4,none⟩) hn v4).setCell (p:=⟨B,5,none⟩) hn v5)
 ·iterate 6 (rw [Below.heap_setCell _ _ _ _ (by exact hb)])
theorem ZaB (m:Msn) (vw vh vr:Value) (w:World) (hm:MsnAt w.heap.size w m vw vh vr) (h13:m.ways.length<=13) (hr:rfB m=false) :
  Calls Tryz.prog 10 #[qA (Zc m vw vh vr)] w fun e w'=>e=.returned (qT #[qA scZ,qB false,O qL (plE m)])/\Below w.heap.size w w':=by
 have f1:=fun w1 (B:Below w.heap.size w w1)=>Z1c m vw vh vr w1 ((hm.below B).mono B.size) h13
 rw [hr] at f1;obtain⟨⟨-,a1,c1,rfl,-⟩,⟨-,a2,c2,rfl,-⟩,⟨-,a3,c3,rfl,-⟩⟩:=hm;unfold Zc at *;generalize rfG m=rg at *;generalize rfL m=rl at *;obtain⟨pe,hpe⟩:∃ x,plE m=x:=⟨_,rfl⟩;have hp01:pe=0\/pe=1:=by rw [<- hpe];unfold plE;split <;> simp
 simp only [hpe] at f1 ⊢;clear hpe;replace f1:=qH f1;have BW:=qH (qK w.heap.size w);go_enter Tryz.func10,Tryz.ntmps10;go_upto_region 1 with fail
 generalize hXX0:qV (qV w _) _=X0;obtain⟨q0,q1,hA,hzX0⟩:=box2 hXX0;clear hXX0;have BW:=qH hA;clear hA;have MB:=qH q0;clear q0;have RB:=qH q1;clear q1 hzX0;obtain⟨c0,c1,c2,c3,c4,c5,c6,c7,c8,c9,c10⟩:=Zg (m:=m) MB.out;go_wp2_with fail;refine (f1.out _ BW.out).mono ?_;rintro e w1 ⟨v1,rfl,p1,b1,-⟩;replace BW:=zAf BW b1;have B_X0:=qH b1;clear b1;obtain⟨-,g1,d1,hv1,-⟩:=p1;subst hv1;clear c0 c1 c2 c3 c4 c5 c6 c7 c8 c9 c10;have hR:=(zCl RB B_X0);have HR:=qH hR;have u0:=hR.cell (i:=0) rfl;have y0:=Ze hR 0;have u1:=hR.cell (i:=1) rfl;have y1:=Ze hR 1;have u2:=hR.cell (i:=2) rfl;have y2:=Ze hR 2;have u3:=hR.cell (i:=3) rfl;have y3:=Ze hR 3;have u4:=hR.cell (i:=4) rfl;have y4:=Ze hR 4;have u5:=hR.cell (i:=5) rfl;have y5:=Ze hR 5;clear hR;rcases hp01 with rfl | rfl
 ·go_wp2
  clear u0 y0 u1 y1 u2 y2 u3 y3 u4 y4 u5 y5;generalize hZ:qU (qU (qU (qU (qU (qU w1 _ _) _ _) _ _) _ _) _ _) _ _=Z;obtain⟨HZ,hl2,hs2,he2⟩:=set6 HR.out rfl hZ;clear hZ;have hg9:w1.grownBy Z (some (w.heap.size+1)):=⟨(hl2 0 (Nat.zero_le _)).os,(hl2 0 (Nat.zero_le _)).tape,(hl2 0 (Nat.zero_le _)).output,by omega,fun i _ hne=>he2 i (fun e=>hne (by rw [e]))⟩
  have u0:=HZ.cell (i:=0) rfl;have u1:=HZ.cell (i:=1) rfl;have u2:=HZ.cell (i:=2) rfl;have u3:=HZ.cell (i:=3) rfl;have u4:=HZ.cell (i:=4) rfl;have u5:=HZ.cell (i:=5) rfl;exact bodyPost_ret (v:=qT #[qA scZ,qB false,O qL 0]) (by simp [results,scZ,Tryz.f10,go_sem,u0,u1,u2,u3,u4,u5]) rfl ⟨rfl,BW.out.trans (hl2 _ (by omega))⟩
 ·go_wp2
  clear u0 y0 u1 y1 u2 y2 u3 y3 u4 y4 u5 y5;generalize hZ:qU (qU (qU (qU (qU (qU w1 _ _) _ _) _ _) _ _) _ _) _ _=Z;obtain⟨HZ,hl2,hs2,he2⟩:=set6 HR.out rfl hZ;clear hZ;have hg9:w1.grownBy Z (some (w.heap.size+1)):=⟨(hl2 0 (Nat.zero_le _)).os,(hl2 0 (Nat.zero_le _)).tape,(hl2 0 (Nat.zero_le _)).output,by omega,fun i _ hne=>he2 i (fun e=>hne (by rw [e]))⟩
  have u0:=HZ.cell (i:=0) rfl;have u1:=HZ.cell (i:=1) rfl;have u2:=HZ.cell (i:=2) rfl;have u3:=HZ.cell (i:=3) rfl;have u4:=HZ.cell (i:=4) rfl;have u5:=HZ.cell (i:=5) rfl;exact bodyPost_ret (v:=qT #[qA scZ,qB false,O qL 1]) (by simp [results,scZ,Tryz.f10,go_sem,u0,u1,u2,u3,u4,u5]) rfl ⟨rfl,BW.out.trans (hl2 _ (by omega))⟩
theorem Z01 {m:Msn} (hr:rfB m=true):validB m=true/\radOkB m (rfL m)=true/\leadN m (rfL m)+1<m.ways.length/\rfG m=(leadN m (rfL m):Int)/\kpL m (rfL m)=(leadN m (rfL m):Int)/\kpK m (rfL m)=kindV m (rfL m) (leadN m (rfL m))/\kpE m (rfL m)=0/\plE m=0/\kindV m (rfL m) (leadN m (rfL m))≠0/\rfL m=(bestP m).2:=by
 have hl:rfL m=(bestP m).2:=by simp [rfL,hr]
 have hg:rfG m=(bestP m).1:=by simp [rfG,hr]
 have h:=hr;simp only [rfB,Bool.and_eq_true,Bool.not_eq_true',decide_eq_false_iff_not] at h;have hok:=Z90 h.1 (Z32 m);rw [<- hl] at hok;obtain⟨k1,k2,k3⟩:=kp_of hok;have hb:=Z3L m;rw [<- hl] at hb;have hls:=Z0x m (rfL m);have hk:leadN m (rfL m)<m.ways.length-1:=by
  rcases Nat.lt_or_ge (leadN m (rfL m)) (m.ways.length-1) with g | g
  ·exact g
  ·exfalso
   apply h.2
   rw [<- hb,k1];unfold leadV;omega
 refine⟨h.1,hok,by omega,by rw [hg,<- hb,k1];rfl,k1,?_,k3,by simp [plE,h.1],hls.2.2 hk,hl⟩
 rw [k2];unfold leadK;rw [if_pos hk]
theorem Z5b (m:Msn) (vw vh vr:Value) (w:World) (hm:MsnAt w.heap.size w m vw vh vr) (h13:m.ways.length<=13) (hr:rfB m=true) :
  Calls Tryz.prog 10 #[qA (Zc m vw vh vr)] w fun e w'=>∃ v cs er,ShowQ m (rfL m) (leadN m (rfL m)) (kindV m (rfL m) (leadN m (rfL m))) v cs er/\Z8 w'.heap.size w' v (rfL m)/\Below w.heap.size w w' /\
   e=.returned (qT (if er=0 then #[qA cs,qB true,O qL 0] else #[qA scZ,qB false,O qL er])):=by
 obtain⟨hV,hok,hk,e1,e2,e3,e4,e5,hK0,-⟩:=Z01 hr;have V:=(Zj m).1 hV;have n41:=V.n41;have f1:=fun w1 (B:Below w.heap.size w w1)=>Z1c m vw vh vr w1 ((hm.below B).mono B.size) h13
 have f2:=fun v w1 (B:Below w.heap.size w w1) hl=>Z0N m vw vh vr v (rfL m) w1 ((hm.below B).mono B.size) hl
 rw [hr,e1,e5] at f1;rw [e2,e3,e4] at f2;have hKb:=Z4T m (rfL m) (leadN m (rfL m));generalize rfL m=l at *;generalize leadN m l=k at *;have f3:=fun v w1 (B:Below w.heap.size w w1) hl=>Z5f m l vw vh vr v k w1 ((hm.below B).mono B.size) hl hok
 have g1:=fun vb va W T Bo v HO hK=>Z5j m l vw vh vr vb va W T V k hk Bo v HO hK
 have g5:=fun vb va W T Bo v HO hK=>Z5l m l vw vh vr vb va W T V k hk Bo v HO hK
 have g2:=fun vb va W T Bo v HO hK=>Z5k m l vw vh vr vb va W T V k hk Bo v HO hK
 clear V hV hok e1 e2 e3 e4 e5 hr;obtain⟨⟨-,a1,c1,rfl,-⟩,⟨-,a2,c2,rfl,-⟩,⟨-,a3,c3,rfl,-⟩⟩:=hm;unfold Zc at *;obtain⟨K,hK⟩:∃ K,kindV m l k=K:=⟨_,rfl⟩;simp only [hK] at *;have hK5:K=1\/K=5\/K=2\/K=3\/K=4:=by omega
 clear hKb hK0 hK;have HQ:∀ (v:Value) (hK:K=3\/K=4),ShowQ m l k K v #[v,O qL (k:Int),O qL K,O qL 0,O qL 0,O qL 0] 0:=fun v hK=>.inr (.inr (.inr ⟨hK,rfl,rfl⟩))
 replace f1:=qH f1;replace f2:=qH f2;replace f3:=qH f3;replace g1:=qH g1;replace g2:=qH g2;replace g5:=qH g5;replace HQ:=qH HQ;have HA:=ZaM;have HH:=Z93;unfold showD at HA HH;replace HA:=qH HA;replace HH:=qH HH;have hmm:=@run_makeMap Tryz.prog;have hk41:k<41:=by omega
 unfold ShowR at *;have BW:=qH (qK w.heap.size w);go_enter Tryz.func10,Tryz.ntmps10;go_upto_region 1 with fail
 generalize hXX0:qV (qV w _) _=X0;obtain⟨q0,q1,hA,hzX0⟩:=box2 hXX0;clear hXX0;have BW:=qH hA;clear hA;have MB:=qH q0;clear q0;have RB:=qH q1;clear q1;have HZ0:=qH hzX0;clear hzX0;obtain⟨c0,c1,c2,c3,c4,c5,c6,c7,c8,c9,c10⟩:=Zg (m:=m) MB.out;go_wp2_with fail;refine (f1.out _ BW.out).mono ?_;rintro e w1 ⟨v1,rfl,p1,b1,n1⟩;replace BW:=zAf BW b1;have B_X0:=qH b1;clear b1;have P1:=qH p1;clear p1;have N1:=qH n1;obtain⟨-,h1,d1,hv1,-⟩:=P1.out;subst hv1;clear n1 c0 c1 c2 c3 c4 c5 c6 c7 c8 c9 c10;obtain⟨c0,c1,c2,c3,c4,c5,c6,c7,c8,c9,c10⟩:=Zg (m:=m) (zCl MB B_X0);go_wp2_with fail;refine (f2.out _ _ BW.out P1.out).mono ?_;rintro e w2 ⟨rfl,b2⟩;replace BW:=zAf BW b2;replace B_X0:=zAf B_X0 b2;have B_w1:=qH b2;clear b2 c0 c1 c2 c3 c4 c5 c6 c7 c8 c9 c10;have zB:X0.heap.size<=w2.heap.size:=B_X0.out.size;have zw:w.heap.size+2<=X0.heap.size:=by have:=HZ0.out;omega
 have zw1:w1.heap.size<=w2.heap.size:=B_w1.out.size;go_upto_region 6 with fail
 generalize hXX1:qV w2 _=X1;obtain⟨q0,hA,hzX1⟩:=box1 hXX1;clear hXX1;replace BW:=zAf BW hA;replace B_X0:=zAf B_X0 hA;replace B_w1:=zAf B_w1 hA;clear hA;have OB:=qH q0;clear q0;have HZ1:=qH hzX1;clear hzX1;have M0:=qH (World.ownsMap_made X1 Tryz.prog 3 fnR);have BM:=qH ((qK X1.heap.size X1).alloc (qN _) (.map #[] 0));go_upto_region 7 with (first | (refine ZC (H:=Value) _ rfl _ _ _ 82 rfl 3 78 keyInt Tryz.underlying82 fnR X1.heap.size _ _ rfl M0.out (by unfold maxLen;omega) (.int .i64 1) (.func (.func 34) #[] #[]) (.int .i64 1) rfl rfl (keyOf_int_mk Tryz.underlying3 rfl) (.held (.func (.func 34) #[] #[])) [] rfl ?_;intro w9 h9 g9;have M0':=qH h9;replace BM:=qH (BM.out.grown g9 BM.out.size (fun j hj=>by cases hj;exact qN _));clear M0 h9 g9;have M0:=M0';clear M0') | (refine ZC (H:=Value) _ rfl _ _ _ 82 rfl 3 78 keyInt Tryz.underlying82 fnR X1.heap.size _ _ rfl M0.out (by unfold maxLen;omega) (.int .i64 5) (.func (.func 35) #[] #[]) (.int .i64 5) rfl rfl (keyOf_int_mk Tryz.underlying3 rfl) (.held (.func (.func 35) #[] #[])) [] rfl ?_;intro w9 h9 g9;have M0':=qH h9;replace BM:=qH (BM.out.grown g9 BM.out.size (fun j hj=>by cases hj;exact qN _));clear M0 h9 g9;have M0:=M0';clear M0') | (refine ZC (H:=Value) _ rfl _ _ _ 82 rfl 3 78 keyInt Tryz.underlying82 fnR X1.heap.size _ _ rfl M0.out (by unfold maxLen;omega) (.int .i64 2) (.func (.func 36) #[] #[]) (.int .i64 2) rfl rfl (keyOf_int_mk Tryz.underlying3 rfl) (.held (.func (.func 36) #[] #[])) [] rfl ?_;intro w9 h9 g9;have M0':=qH h9;replace BM:=qH (BM.out.grown g9 BM.out.size (fun j hj=>by cases hj;exact qN _));clear M0 h9 g9;have M0:=M0';clear M0') | go_in)
 obtain⟨X5,hX5,-⟩:=Z3M BM.out;subst hX5;have b5:=BM.out;clear BM;replace BW:=zAf BW b5;replace B_X0:=zAf B_X0 b5;replace B_w1:=zAf B_w1 b5;have B_X1:=qH b5;clear b5;obtain⟨c0,c1,c2,c3,c4,c5,c6,c7,c8,c9,c10⟩:=Zg (m:=m) (zCl MB B_X0);have HC0:=qH HZ0.out;clear HZ0;rcases hK5 with rfl | rfl | rfl | rfl | rfl
 ·skip
  have hat9:=HA.out.1;have has9:=HH.out.1;have hwf:(Lit.int .i64 1).wf=true:=rfl;go_wp2_with (at_lookup;refine wpList_lookup_own_ok (H:=Value) _ rfl _ _ 82 rfl 3 78 keyInt Tryz.underlying82 fnR (zeroF1 _) (.held .nilFunc) [] rfl X1.heap.size _ _ rfl M0.out _ _ rfl (keyOf_int_mk Tryz.underlying3 hwf) ?_;intro v9 ps9 h9;replace h9:=ZT h9 hat9;subst h9;rw [has9]);refine (f3.out _ X5 BW.out ((P1.out.below B_w1.out).mono B_w1.out.size)).mono ?_;rintro e w3 ⟨vb,va,rfl,t6,b3,-,-⟩;replace BW:=zAf BW b3;replace B_X0:=zAf B_X0 b3;replace B_w1:=zAf B_w1 b3;replace B_X1:=zAf B_X1 b3;clear b3;have T6:=qH t6;clear t6 hat9 has9 c0 c1 c2 c3 c4 c5 c6 c7 c8 c9 c10;obtain⟨-,ab,cb,hvb,-⟩:=T6.out.bef;subst hvb;obtain⟨-,aa,ca,hva,-⟩:=T6.out.aft;subst hva;have gs:=g1.out _ _ w3 T6.out _ _ (zCl OB B_X1) (by first | rfl | trivial)
  unfold stgC at gs ⊢;go_wp2_with fail;refine gs.mono ?_;clear gs;rintro e w7 ⟨cs,er,rfl,hq,hO7,g7⟩;obtain⟨ra,rx,ry,hcs⟩:=hq.shape;subst hcs;have hRB:=(zCl RB B_X0);have lR:=hRB.lt;have hR:Has w7 (w.heap.size+1) _ 38:=(g7.block _ lR (fun e=>by simp only [Option.some.injEq] at e;omega)).trans hRB
  clear hRB;have HI:=qH (show Z8 w7.heap.size w7 _ l from (P1.out.below (grown_low' B_w1.out g7 (by omega) (qN _))).mono (Nat.le_trans B_w1.out.size g7.size))
  have HB:=qH (grown_low' BW.out g7 (by omega) (qN _))
  have HR:=qH hR;have HQ7:=qH hq;have z7:=g7.size;clear hq g7;have u0:=hR.cell (i:=0) rfl;have y0:=Ze hR 0;have u1:=hR.cell (i:=1) rfl;have y1:=Ze hR 1;have u2:=hR.cell (i:=2) rfl;have y2:=Ze hR 2;have u3:=hR.cell (i:=3) rfl;have y3:=Ze hR 3;have u4:=hR.cell (i:=4) rfl;have y4:=Ze hR 4;have u5:=hR.cell (i:=5) rfl;have y5:=Ze hR 5;clear hR;have o0:=hO7.cell (i:=0) rfl;have o1:=hO7.cell (i:=1) rfl;have o2:=hO7.cell (i:=2) rfl;have o3:=hO7.cell (i:=3) rfl;have o4:=hO7.cell (i:=4) rfl;have o5:=hO7.cell (i:=5) rfl;clear hO7;by_cases er0:er=0
  ·subst er0
   go_wp2;clear o0 o1 o2 o3 o4 o5 u0 y0 u1 y1 u2 y2 u3 y3 u4 y4 u5 y5;generalize hZ:qU (qU (qU (qU (qU (qU w7 _ _) _ _) _ _) _ _) _ _) _ _=Z;obtain⟨HZ,hl2,hs2,he2⟩:=set6 HR.out rfl hZ;clear hZ;have hg9:w7.grownBy Z (some (w.heap.size+1)):=⟨(hl2 0 (Nat.zero_le _)).os,(hl2 0 (Nat.zero_le _)).tape,(hl2 0 (Nat.zero_le _)).output,by omega,fun i _ hne=>he2 i (fun e=>hne (by rw [e]))⟩
   have u0:=HZ.cell (i:=0) rfl;have u1:=HZ.cell (i:=1) rfl;have u2:=HZ.cell (i:=2) rfl;have u3:=HZ.cell (i:=3) rfl;have u4:=HZ.cell (i:=4) rfl;have u5:=HZ.cell (i:=5) rfl;have hI9:Z8 Z.heap.size Z _ l:=HI.out.offG hg9 (fun r e=>.inr fun e2=>by cases e;have:=N1.out _ e2;omega)
   exact bodyPost_ret (v:=qT #[qA #[qS h1 l.length (l.length+d1),O qL (k:Int),O qL 1,O qL ra,O qL rx,O qL ry],qB true,O qL 0]) (by simp [results,scZ,Tryz.f10,go_sem,u0,u1,u2,u3,u4,u5]) rfl ⟨_,_,0,HQ7.out,hI9,HB.out.trans (hl2 _ (by omega)),by rw [if_pos rfl]⟩
  ·have e1:(er != 0)=true:=by simpa using er0
   clear o0 o1 o2 o3 o4 o5;go_wp2;clear u0 y0 u1 y1 u2 y2 u3 y3 u4 y4 u5 y5;generalize hZ:qU (qU (qU (qU (qU (qU w7 _ _) _ _) _ _) _ _) _ _) _ _=Z;obtain⟨HZ,hl2,hs2,he2⟩:=set6 HR.out rfl hZ;clear hZ;have hg9:w7.grownBy Z (some (w.heap.size+1)):=⟨(hl2 0 (Nat.zero_le _)).os,(hl2 0 (Nat.zero_le _)).tape,(hl2 0 (Nat.zero_le _)).output,by omega,fun i _ hne=>he2 i (fun e=>hne (by rw [e]))⟩
   have u0:=HZ.cell (i:=0) rfl;have u1:=HZ.cell (i:=1) rfl;have u2:=HZ.cell (i:=2) rfl;have u3:=HZ.cell (i:=3) rfl;have u4:=HZ.cell (i:=4) rfl;have u5:=HZ.cell (i:=5) rfl;have hI9:Z8 Z.heap.size Z _ l:=HI.out.offG hg9 (fun r e=>.inr fun e2=>by cases e;have:=N1.out _ e2;omega)
   exact bodyPost_ret (v:=qT #[qA scZ,qB false,O qL er]) (by simp [results,scZ,Tryz.f10,go_sem,u0,u1,u2,u3,u4,u5]) rfl ⟨_,_,er,HQ7.out,hI9,HB.out.trans (hl2 _ (by omega)),by rw [if_neg er0]⟩
 ·skip
  have hat9:=HA.out.2.1;have has9:=HH.out.2.1;have hwf:(Lit.int .i64 5).wf=true:=rfl;go_wp2_with (at_lookup;refine wpList_lookup_own_ok (H:=Value) _ rfl _ _ 82 rfl 3 78 keyInt Tryz.underlying82 fnR (zeroF1 _) (.held .nilFunc) [] rfl X1.heap.size _ _ rfl M0.out _ _ rfl (keyOf_int_mk Tryz.underlying3 hwf) ?_;intro v9 ps9 h9;replace h9:=ZT h9 hat9;subst h9;rw [has9]);refine (f3.out _ X5 BW.out ((P1.out.below B_w1.out).mono B_w1.out.size)).mono ?_;rintro e w3 ⟨vb,va,rfl,t6,b3,-,-⟩;replace BW:=zAf BW b3;replace B_X0:=zAf B_X0 b3;replace B_w1:=zAf B_w1 b3;replace B_X1:=zAf B_X1 b3;clear b3;have T6:=qH t6;clear t6 hat9 has9 c0 c1 c2 c3 c4 c5 c6 c7 c8 c9 c10;obtain⟨-,ab,cb,hvb,-⟩:=T6.out.bef;subst hvb;obtain⟨-,aa,ca,hva,-⟩:=T6.out.aft;subst hva;have gs:=g5.out _ _ w3 T6.out _ _ (zCl OB B_X1) (by first | rfl | trivial)
  unfold stgC at gs ⊢;go_wp2_with fail;refine gs.mono ?_;clear gs;rintro e w7 ⟨cs,er,rfl,hq,hO7,g7⟩;obtain⟨ra,rx,ry,hcs⟩:=hq.shape;subst hcs;have hRB:=(zCl RB B_X0);have lR:=hRB.lt;have hR:Has w7 (w.heap.size+1) _ 38:=(g7.block _ lR (fun e=>by simp only [Option.some.injEq] at e;omega)).trans hRB
  clear hRB;have HI:=qH (show Z8 w7.heap.size w7 _ l from (P1.out.below (grown_low' B_w1.out g7 (by omega) (qN _))).mono (Nat.le_trans B_w1.out.size g7.size))
  have HB:=qH (grown_low' BW.out g7 (by omega) (qN _))
  have HR:=qH hR;have HQ7:=qH hq;have z7:=g7.size;clear hq g7;have u0:=hR.cell (i:=0) rfl;have y0:=Ze hR 0;have u1:=hR.cell (i:=1) rfl;have y1:=Ze hR 1;have u2:=hR.cell (i:=2) rfl;have y2:=Ze hR 2;have u3:=hR.cell (i:=3) rfl;have y3:=Ze hR 3;have u4:=hR.cell (i:=4) rfl;have y4:=Ze hR 4;have u5:=hR.cell (i:=5) rfl;have y5:=Ze hR 5;clear hR;have o0:=hO7.cell (i:=0) rfl;have o1:=hO7.cell (i:=1) rfl;have o2:=hO7.cell (i:=2) rfl;have o3:=hO7.cell (i:=3) rfl;have o4:=hO7.cell (i:=4) rfl;have o5:=hO7.cell (i:=5) rfl;clear hO7;by_cases er0:er=0
  ·subst er0
   go_wp2;clear o0 o1 o2 o3 o4 o5 u0 y0 u1 y1 u2 y2 u3 y3 u4 y4 u5 y5;generalize hZ:qU (qU (qU (qU (qU (qU w7 _ _) _ _) _ _) _ _) _ _) _ _=Z;obtain⟨HZ,hl2,hs2,he2⟩:=set6 HR.out rfl hZ;clear hZ;have hg9:w7.grownBy Z (some (w.heap.size+1)):=⟨(hl2 0 (Nat.zero_le _)).os,(hl2 0 (Nat.zero_le _)).tape,(hl2 0 (Nat.zero_le _)).output,by omega,fun i _ hne=>he2 i (fun e=>hne (by rw [e]))⟩
   have u0:=HZ.cell (i:=0) rfl;have u1:=HZ.cell (i:=1) rfl;have u2:=HZ.cell (i:=2) rfl;have u3:=HZ.cell (i:=3) rfl;have u4:=HZ.cell (i:=4) rfl;have u5:=HZ.cell (i:=5) rfl;have hI9:Z8 Z.heap.size Z _ l:=HI.out.offG hg9 (fun r e=>.inr fun e2=>by cases e;have:=N1.out _ e2;omega)
   exact bodyPost_ret (v:=qT #[qA #[qS h1 l.length (l.length+d1),O qL (k:Int),O qL 5,O qL ra,O qL rx,O qL ry],qB true,O qL 0]) (by simp [results,scZ,Tryz.f10,go_sem,u0,u1,u2,u3,u4,u5]) rfl ⟨_,_,0,HQ7.out,hI9,HB.out.trans (hl2 _ (by omega)),by rw [if_pos rfl]⟩
  ·have e1:(er != 0)=true:=by simpa using er0
   clear o0 o1 o2 o3 o4 o5;go_wp2;clear u0 y0 u1 y1 u2 y2 u3 y3 u4 y4 u5 y5;generalize hZ:qU (qU (qU (qU (qU (qU w7 _ _) _ _) _ _) _ _) _ _) _ _=Z;obtain⟨HZ,hl2,hs2,he2⟩:=set6 HR.out rfl hZ;clear hZ;have hg9:w7.grownBy Z (some (w.heap.size+1)):=⟨(hl2 0 (Nat.zero_le _)).os,(hl2 0 (Nat.zero_le _)).tape,(hl2 0 (Nat.zero_le _)).output,by omega,fun i _ hne=>he2 i (fun e=>hne (by rw [e]))⟩
   have u0:=HZ.cell (i:=0) rfl;have u1:=HZ.cell (i:=1) rfl;have u2:=HZ.cell (i:=2) rfl;have u3:=HZ.cell (i:=3) rfl;have u4:=HZ.cell (i:=4) rfl;have u5:=HZ.cell (i:=5) rfl;have hI9:Z8 Z.heap.size Z _ l:=HI.out.offG hg9 (fun r e=>.inr fun e2=>by cases e;have:=N1.out _ e2;omega)
   exact bodyPost_ret (v:=qT #[qA scZ,qB false,O qL er]) (by simp [results,scZ,Tryz.f10,go_sem,u0,u1,u2,u3,u4,u5]) rfl ⟨_,_,er,HQ7.out,hI9,HB.out.trans (hl2 _ (by omega)),by rw [if_neg er0]⟩
 ·skip
  have hat9:=HA.out.2.2.1;have has9:=HH.out.2.2.1;have hwf:(Lit.int .i64 2).wf=true:=rfl;go_wp2_with (at_lookup;refine wpList_lookup_own_ok (H:=Value) _ rfl _ _ 82 rfl 3 78 keyInt Tryz.underlying82 fnR (zeroF1 _) (.held .nilFunc) [] rfl X1.heap.size _ _ rfl M0.out _ _ rfl (keyOf_int_mk Tryz.underlying3 hwf) ?_;intro v9 ps9 h9;replace h9:=ZT h9 hat9;subst h9;rw [has9]);refine (f3.out _ X5 BW.out ((P1.out.below B_w1.out).mono B_w1.out.size)).mono ?_;rintro e w3 ⟨vb,va,rfl,t6,b3,-,-⟩;replace BW:=zAf BW b3;replace B_X0:=zAf B_X0 b3;replace B_w1:=zAf B_w1 b3;replace B_X1:=zAf B_X1 b3;clear b3;have T6:=qH t6;clear t6 hat9 has9 c0 c1 c2 c3 c4 c5 c6 c7 c8 c9 c10;obtain⟨-,ab,cb,hvb,-⟩:=T6.out.bef;subst hvb;obtain⟨-,aa,ca,hva,-⟩:=T6.out.aft;subst hva;have gs:=g2.out _ _ w3 T6.out _ _ (zCl OB B_X1) (by first | rfl | trivial)
  unfold stgC at gs ⊢;go_wp2_with fail;refine gs.mono ?_;clear gs;rintro e w7 ⟨cs,er,rfl,hq,hO7,g7⟩;obtain⟨ra,rx,ry,hcs⟩:=hq.shape;subst hcs;have hRB:=(zCl RB B_X0);have lR:=hRB.lt;have hR:Has w7 (w.heap.size+1) _ 38:=(g7.block _ lR (fun e=>by simp only [Option.some.injEq] at e;omega)).trans hRB
  clear hRB;have HI:=qH (show Z8 w7.heap.size w7 _ l from (P1.out.below (grown_low' B_w1.out g7 (by omega) (qN _))).mono (Nat.le_trans B_w1.out.size g7.size))
  have HB:=qH (grown_low' BW.out g7 (by omega) (qN _))
  have HR:=qH hR;have HQ7:=qH hq;have z7:=g7.size;clear hq g7;have u0:=hR.cell (i:=0) rfl;have y0:=Ze hR 0;have u1:=hR.cell (i:=1) rfl;have y1:=Ze hR 1;have u2:=hR.cell (i:=2) rfl;have y2:=Ze hR 2;have u3:=hR.cell (i:=3) rfl;have y3:=Ze hR 3;have u4:=hR.cell (i:=4) rfl;have y4:=Ze hR 4;have u5:=hR.cell (i:=5) rfl;have y5:=Ze hR 5;clear hR;have o0:=hO7.cell (i:=0) rfl;have o1:=hO7.cell (i:=1) rfl;have o2:=hO7.cell (i:=2) rfl;have o3:=hO7.cell (i:=3) rfl;have o4:=hO7.cell (i:=4) rfl;have o5:=hO7.cell (i:=5) rfl;clear hO7;by_cases er0:er=0
  ·subst er0
   go_wp2;clear o0 o1 o2 o3 o4 o5 u0 y0 u1 y1 u2 y2 u3 y3 u4 y4 u5 y5;generalize hZ:qU (qU (qU (qU (qU (qU w7 _ _) _ _) _ _) _ _) _ _) _ _=Z;obtain⟨HZ,hl2,hs2,he2⟩:=set6 HR.out rfl hZ;clear hZ;have hg9:w7.grownBy Z (some (w.heap.size+1)):=⟨(hl2 0 (Nat.zero_le _)).os,(hl2 0 (Nat.zero_le _)).tape,(hl2 0 (Nat.zero_le _)).output,by omega,fun i _ hne=>he2 i (fun e=>hne (by rw [e]))⟩
   have u0:=HZ.cell (i:=0) rfl;have u1:=HZ.cell (i:=1) rfl;have u2:=HZ.cell (i:=2) rfl;have u3:=HZ.cell (i:=3) rfl;have u4:=HZ.cell (i:=4) rfl;have u5:=HZ.cell (i:=5) rfl;have hI9:Z8 Z.heap.size Z _ l:=HI.out.offG hg9 (fun r e=>.inr fun e2=>by cases e;have:=N1.out _ e2;omega)
   exact bodyPost_ret (v:=qT #[qA #[qS h1 l.length (l.length+d1),O qL (k:Int),O qL 2,O qL ra,O qL rx,O qL ry],qB true,O qL 0]) (by simp [results,scZ,Tryz.f10,go_sem,u0,u1,u2,u3,u4,u5]) rfl ⟨_,_,0,HQ7.out,hI9,HB.out.trans (hl2 _ (by omega)),by rw [if_pos rfl]⟩
  ·have e1:(er != 0)=true:=by simpa using er0
   clear o0 o1 o2 o3 o4 o5;go_wp2;clear u0 y0 u1 y1 u2 y2 u3 y3 u4 y4 u5 y5;generalize hZ:qU (qU (qU (qU (qU (qU w7 _ _) _ _) _ _) _ _) _ _) _ _=Z;obtain⟨HZ,hl2,hs2,he2⟩:=set6 HR.out rfl hZ;clear hZ;have hg9:w7.grownBy Z (some (w.heap.size+1)):=⟨(hl2 0 (Nat.zero_le _)).os,(hl2 0 (Nat.zero_le _)).tape,(hl2 0 (Nat.zero_le _)).output,by omega,fun i _ hne=>he2 i (fun e=>hne (by rw [e]))⟩
   have u0:=HZ.cell (i:=0) rfl;have u1:=HZ.cell (i:=1) rfl;have u2:=HZ.cell (i:=2) rfl;have u3:=HZ.cell (i:=3) rfl;have u4:=HZ.cell (i:=4) rfl;have u5:=HZ.cell (i:=5) rfl;have hI9:Z8 Z.heap.size Z _ l:=HI.out.offG hg9 (fun r e=>.inr fun e2=>by cases e;have:=N1.out _ e2;omega)
   exact bodyPost_ret (v:=qT #[qA scZ,qB false,O qL er]) (by simp [results,scZ,Tryz.f10,go_sem,u0,u1,u2,u3,u4,u5]) rfl ⟨_,_,er,HQ7.out,hI9,HB.out.trans (hl2 _ (by omega)),by rw [if_neg er0]⟩
 ·skip
  have hat9:=HA.out.2.2.2.1;have has9:=HH.out.2.2.2.1;have hwf:(Lit.int .i64 3).wf=true:=rfl;have hR:=(zCl RB B_X0);have HR:=qH hR;have hO7:=(zCl OB B_X1);have HI:=qH ((P1.out.below B_w1.out).mono B_w1.out.size);have HB:=BW;have HQ7:=qH (HQ.out (.slice h1 l.length (l.length+d1)) (by omega))
  have u0:=hR.cell (i:=0) rfl;have y0:=Ze hR 0;have u1:=hR.cell (i:=1) rfl;have y1:=Ze hR 1;have u2:=hR.cell (i:=2) rfl;have y2:=Ze hR 2;have u3:=hR.cell (i:=3) rfl;have y3:=Ze hR 3;have u4:=hR.cell (i:=4) rfl;have y4:=Ze hR 4;have u5:=hR.cell (i:=5) rfl;have y5:=Ze hR 5;clear hR;have o0:=hO7.cell (i:=0) rfl;have o1:=hO7.cell (i:=1) rfl;have o2:=hO7.cell (i:=2) rfl;have o3:=hO7.cell (i:=3) rfl;have o4:=hO7.cell (i:=4) rfl;have o5:=hO7.cell (i:=5) rfl;clear hO7;go_wp2_with (at_lookup;refine wpList_lookup_own_ok (H:=Value) _ rfl _ _ 82 rfl 3 78 keyInt Tryz.underlying82 fnR (zeroF1 _) (.held .nilFunc) [] rfl X1.heap.size _ _ rfl M0.out _ _ rfl (keyOf_int_mk Tryz.underlying3 hwf) ?_;intro v9 ps9 h9;replace h9:=ZT h9 hat9;subst h9;rw [has9]);clear o0 o1 o2 o3 o4 o5 u0 y0 u1 y1 u2 y2 u3 y3 u4 y4 u5 y5;generalize hZ:qU (qU (qU (qU (qU (qU X5 _ _) _ _) _ _) _ _) _ _) _ _=Z;obtain⟨HZ,hl2,hs2,he2⟩:=set6 HR.out rfl hZ;clear hZ;have hg9:X5.grownBy Z (some (w.heap.size+1)):=⟨(hl2 0 (Nat.zero_le _)).os,(hl2 0 (Nat.zero_le _)).tape,(hl2 0 (Nat.zero_le _)).output,by omega,fun i _ hne=>he2 i (fun e=>hne (by rw [e]))⟩
  have u0:=HZ.cell (i:=0) rfl;have u1:=HZ.cell (i:=1) rfl;have u2:=HZ.cell (i:=2) rfl;have u3:=HZ.cell (i:=3) rfl;have u4:=HZ.cell (i:=4) rfl;have u5:=HZ.cell (i:=5) rfl;have hI9:Z8 Z.heap.size Z _ l:=HI.out.offG hg9 (fun r e=>.inr fun e2=>by cases e;have:=N1.out _ e2;omega)
  exact bodyPost_ret (v:=qT #[qA #[qS h1 l.length (l.length+d1),O qL (k:Int),O qL 3,O qL 0,O qL 0,O qL 0],qB true,O qL 0]) (by simp [results,scZ,Tryz.f10,go_sem,u0,u1,u2,u3,u4,u5]) rfl ⟨_,_,0,HQ7.out,hI9,HB.out.trans (hl2 _ (by omega)),by rw [if_pos rfl]⟩
 ·skip
  have hat9:=HA.out.2.2.2.2;have has9:=HH.out.2.2.2.2;have hwf:(Lit.int .i64 4).wf=true:=rfl;have hR:=(zCl RB B_X0);have HR:=qH hR;have hO7:=(zCl OB B_X1);have HI:=qH ((P1.out.below B_w1.out).mono B_w1.out.size);have HB:=BW;have HQ7:=qH (HQ.out (.slice h1 l.length (l.length+d1)) (by omega))
  have u0:=hR.cell (i:=0) rfl;have y0:=Ze hR 0;have u1:=hR.cell (i:=1) rfl;have y1:=Ze hR 1;have u2:=hR.cell (i:=2) rfl;have y2:=Ze hR 2;have u3:=hR.cell (i:=3) rfl;have y3:=Ze hR 3;have u4:=hR.cell (i:=4) rfl;have y4:=Ze hR 4;have u5:=hR.cell (i:=5) rfl;have y5:=Ze hR 5;clear hR;have o0:=hO7.cell (i:=0) rfl;have o1:=hO7.cell (i:=1) rfl;have o2:=hO7.cell (i:=2) rfl;have o3:=hO7.cell (i:=3) rfl;have o4:=hO7.cell (i:=4) rfl;have o5:=hO7.cell (i:=5) rfl;clear hO7;go_wp2_with (at_lookup;refine wpList_lookup_own_ok (H:=Value) _ rfl _ _ 82 rfl 3 78 keyInt Tryz.underlying82 fnR (zeroF1 _) (.held .nilFunc) [] rfl X1.heap.size _ _ rfl M0.out _ _ rfl (keyOf_int_mk Tryz.underlying3 hwf) ?_;intro v9 ps9 h9;replace h9:=ZT h9 hat9;subst h9;rw [has9]);clear o0 o1 o2 o3 o4 o5 u0 y0 u1 y1 u2 y2 u3 y3 u4 y4 u5 y5;generalize hZ:qU (qU (qU (qU (qU (qU X5 _ _) _ _) _ _) _ _) _ _) _ _=Z;obtain⟨HZ,hl2,hs2,he2⟩:=set6 HR.out rfl hZ;clear hZ;have hg9:X5.grownBy Z (some (w.heap.size+1)):=⟨(hl2 0 (Nat.zero_le _)).os,(hl2 0 (Nat.zero_le _)).tape,(hl2 0 (Nat.zero_le _)).output,by omega,fun i _ hne=>he2 i (fun e=>hne (by rw [e]))⟩
  have u0:=HZ.cell (i:=0) rfl;have u1:=HZ.cell (i:=1) rfl;have u2:=HZ.cell (i:=2) rfl;have u3:=HZ.cell (i:=3) rfl;have u4:=HZ.cell (i:=4) rfl;have u5:=HZ.cell (i:=5) rfl;have hI9:Z8 Z.heap.size Z _ l:=HI.out.offG hg9 (fun r e=>.inr fun e2=>by cases e;have:=N1.out _ e2;omega)
  exact bodyPost_ret (v:=qT #[qA #[qS h1 l.length (l.length+d1),O qL (k:Int),O qL 4,O qL 0,O qL 0,O qL 0],qB true,O qL 0]) (by simp [results,scZ,Tryz.f10,go_sem,u0,u1,u2,u3,u4,u5]) rfl ⟨_,_,0,HQ7.out,hI9,HB.out.trans (hl2 _ (by omega)),by rw [if_pos rfl]⟩
theorem zeroF0 (w:World):(zeroValue 105).run Tryz.prog w=.ok .nilFunc w:=by kernel_rfl
def askD:DataW Value:=(((((DataW.map []).put (.int .i64 1) (.held (.func (.func 54) #[] #[]))).put (.int .i64 5) (.held (.func (.func 55) #[] #[]))).put (.int .i64 2) (.held (.func (.func 56) #[] #[]))).put (.int .i64 3) (.held (.func (.func 57) #[] #[]))).put (.int .i64 4) (.held (.func (.func 57) #[] #[]))
theorem ZcH:askD.atKey (.int .i64 0) (.held .nilFunc)=.held .nilFunc/\askD.atKey (.int .i64 1) (.held .nilFunc)=.held (.func (.func 54) #[] #[])/\askD.atKey (.int .i64 5) (.held .nilFunc)=.held (.func (.func 55) #[] #[])/\askD.atKey (.int .i64 2) (.held .nilFunc)=.held (.func (.func 56) #[] #[])/\askD.atKey (.int .i64 3) (.held .nilFunc)=.held (.func (.func 57) #[] #[])/\askD.atKey (.int .i64 4) (.held .nilFunc)=.held (.func (.func 57) #[] #[]):=⟨rfl,rfl,rfl,rfl,rfl,rfl⟩
theorem ZbH:Maps.has askD (.int .i64 0)=false/\Maps.has askD (.int .i64 1)=true/\Maps.has askD (.int .i64 5)=true/\Maps.has askD (.int .i64 2)=true/\Maps.has askD (.int .i64 3)=true/\Maps.has askD (.int .i64 4)=true:=⟨rfl,rfl,rfl,rfl,rfl,rfl⟩
noncomputable def askB (m:Msn) (l:List Int) (k:Nat) (K q3:Int) (x:Pt):Bool:=if K=1 then inO m l k q3 x else if K=5 then (bkAny m l k x && onR m q3 x) else if K=2 then ntH m l k q3 x else if K=3\/K=4 then notB q3 x else false
noncomputable def brB (m:Msn) (l:List Int) (q1 q2 q3:Int) (x:Pt):Bool:=radOkB m l && (decide (kpL m l=q1) && (decide (kpK m l=q2) && askB m l (leadN m l) (kpK m l) q3 x))
theorem Zav (m:Msn) (vw vh vr vs:Value) (l:List Int) (q1 q2 q3:Int) (x:Pt) (w:World) (hm:MsnAt w.heap.size w m vw vh vr) (hl:Z8 w.heap.size w vs l) (hok:radOkB m l=false) :
  Calls Tryz.prog 16 #[qA (Zc m vw vh vr),qA #[vs,O qL q1,O qL q2,O qL q3,O qL x.x,O qL x.y]] w fun e w'=>e=.returned (qT #[qB false,O qL 1])/\Below w.heap.size w w':=by
 have f2:=fun w1 (B:Below w.heap.size w w1)=>Z0N m vw vh vr vs l w1 ((hm.below B).mono B.size) ((hl.below B).mono B.size)
 simp only [kpE,hok,Bool.false_eq_true,if_false] at f2;obtain⟨-,al,cl,rfl,-⟩:=hl;obtain⟨⟨-,a1,c1,rfl,-⟩,⟨-,a2,c2,rfl,-⟩,⟨-,a3,c3,rfl,-⟩⟩:=hm;unfold Zc at *;generalize kpL m l=kl at *;generalize kpK m l=kk at *;obtain⟨px,py⟩:=x;clear hok;replace f2:=qH f2;have BW:=qH (qK w.heap.size w);go_enter Tryz.func16,Tryz.ntmps16;go_upto_region 1 with fail
 generalize hXX0:qV (qV w _) _=X0;obtain⟨q0,q1,hA,hzX0⟩:=box2 hXX0;clear hXX0;have BW:=qH hA;clear hA;have MB:=qH q0;clear q0;have XB:=qH q1;clear q1 hzX0;obtain⟨c0,c1,c2,c3,c4,c5,c6,c7,c8,c9,c10⟩:=Zg (m:=m) MB.out;have y0:=XB.out.cell (i:=0) rfl;go_wp2_with fail;refine (f2.out _ BW.out).mono ?_;rintro e w1 ⟨rfl,b1⟩;replace BW:=zAf BW b1;have B_X0:=qH b1;clear b1 y0 c0 c1 c2 c3 c4 c5 c6 c7 c8 c9 c10;go_wp2;go_ret2;exact⟨rfl,BW.out⟩
theorem Z8E (m:Msn) (vw vh vr vs:Value) (l:List Int) (q1 q2 q3:Int) (x:Pt) (w:World) (hm:MsnAt w.heap.size w m vw vh vr) (hl:Z8 w.heap.size w vs l) (hok:radOkB m l=true) :
  Calls Tryz.prog 16 #[qA (Zc m vw vh vr),qA #[vs,O qL q1,O qL q2,O qL q3,O qL x.x,O qL x.y]] w fun e w'=>e=.returned (qT #[qB (decide ((leadN m l:Int)=q1) && (decide (leadK m l=q2) && askB m l (leadN m l) (leadK m l) q3 x)),O qL 0])/\Below w.heap.size w w':=by
 have hvs:validB m=true/\stopsB m l=true:=by simpa [radOkB] using hok
 have V:=(Zj m).1 hvs.1;have n41:=V.n41;have f2:=fun w1 (B:Below w.heap.size w w1)=>Z0N m vw vh vr vs l w1 ((hm.below B).mono B.size) ((hl.below B).mono B.size)
 have hkk:(leadK m l=0\/leadK m l=1\/leadK m l=5\/leadK m l=2\/leadK m l=3\/leadK m l=4)/\(leadK m l≠0->leadN m l+1<m.ways.length):=by
  have hb:=Z4T m l (leadN m l);unfold leadK
  split
  ·exact⟨by omega,fun _=>by omega⟩
  ·exact⟨.inl rfl,fun h=>(h rfl).elim⟩
 obtain⟨k1,k2,k3⟩:=kp_of hok;rw [k1,k2,k3,show leadV m l=(leadN m l:Int) from rfl] at f2
 have hln:=(Z0x m l).1;generalize leadN m l=k at *;have f3:=fun w1 (B:Below w.heap.size w w1)=>Z5f m l vw vh vr vs k w1 ((hm.below B).mono B.size) ((hl.below B).mono B.size) hok
 obtain⟨K,hK⟩:∃ K,leadK m l=K:=⟨_,rfl⟩;simp only [hK] at *;clear hK hok hvs k1 k2 k3;obtain⟨hK6,hkw⟩:=hkk;have g1:=fun vb va W T hk=>Z82 m l vw vh vr vb va W T V k hk vs q1 q2 q3 x
 have g5:=fun vb va W T hk=>Z6l m l vw vh vr vb va W T V k hk vs q1 q2 q3 x
 have g2:=fun vb va W T hk=>Z5h m l vw vh vr vb va W T V k hk vs q1 q2 q3 x
 have g3:=fun vb va W=>Z5g (stgC m vw vh vr vb va k) _ _ _ _ _ _ _ _ _ _ _ _ _ _ rfl vs q1 q2 q3 x W
 obtain⟨-,al,cl,rfl,-⟩:=hl;obtain⟨⟨-,a1,c1,rfl,-⟩,⟨-,a2,c2,rfl,-⟩,⟨-,a3,c3,rfl,-⟩⟩:=hm;unfold Zc at *;obtain⟨px,py⟩:=x;simp only at g1 g5 g2 g3;replace f2:=qH f2;replace f3:=qH f3;replace g1:=qH g1;replace g2:=qH g2;replace g3:=qH g3;replace g5:=qH g5;have HA:=ZcH;have HH:=ZbH;unfold askD at HA HH;replace HA:=qH HA;replace HH:=qH HH;have hmm:=@run_makeMap Tryz.prog;clear V;have BW:=qH (qK w.heap.size w);go_enter Tryz.func16,Tryz.ntmps16;go_upto_region 1 with fail
 generalize hXX0:qV (qV w _) _=X0;obtain⟨q0,q1,hA,hzX0⟩:=box2 hXX0;clear hXX0;have BW:=qH hA;clear hA;have MB:=qH q0;clear q0;have XB:=qH q1;clear q1 hzX0;obtain⟨c0,c1,c2,c3,c4,c5,c6,c7,c8,c9,c10⟩:=Zg (m:=m) MB.out;have y0:=XB.out.cell (i:=0) rfl;go_wp2_with fail;refine (f2.out _ BW.out).mono ?_;rintro e w1 ⟨rfl,b1⟩;replace BW:=zAf BW b1;have B_X0:=qH b1;clear b1 y0 c0 c1 c2 c3 c4 c5 c6 c7 c8 c9 c10;have M0:=qH (World.ownsMap_made w1 Tryz.prog 3 fnR);have BM:=qH ((qK w1.heap.size w1).alloc (qN _) (.map #[] 0));go_upto_region 5 with (first | (refine ZC (H:=Value) _ rfl _ _ _ 107 rfl 3 105 keyInt Tryz.underlying107 fnR w1.heap.size _ _ rfl M0.out (by unfold maxLen;omega) (.int .i64 1) (.func (.func 54) #[] #[]) (.int .i64 1) rfl rfl (keyOf_int_mk Tryz.underlying3 rfl) (.held (.func (.func 54) #[] #[])) [] rfl ?_;intro w9 h9 g9;have M0':=qH h9;replace BM:=qH (BM.out.grown g9 BM.out.size (fun j hj=>by cases hj;exact qN _));clear M0 h9 g9;have M0:=M0';clear M0') | (refine ZC (H:=Value) _ rfl _ _ _ 107 rfl 3 105 keyInt Tryz.underlying107 fnR w1.heap.size _ _ rfl M0.out (by unfold maxLen;omega) (.int .i64 5) (.func (.func 55) #[] #[]) (.int .i64 5) rfl rfl (keyOf_int_mk Tryz.underlying3 rfl) (.held (.func (.func 55) #[] #[])) [] rfl ?_;intro w9 h9 g9;have M0':=qH h9;replace BM:=qH (BM.out.grown g9 BM.out.size (fun j hj=>by cases hj;exact qN _));clear M0 h9 g9;have M0:=M0';clear M0') | (refine ZC (H:=Value) _ rfl _ _ _ 107 rfl 3 105 keyInt Tryz.underlying107 fnR w1.heap.size _ _ rfl M0.out (by unfold maxLen;omega) (.int .i64 2) (.func (.func 56) #[] #[]) (.int .i64 2) rfl rfl (keyOf_int_mk Tryz.underlying3 rfl) (.held (.func (.func 56) #[] #[])) [] rfl ?_;intro w9 h9 g9;have M0':=qH h9;replace BM:=qH (BM.out.grown g9 BM.out.size (fun j hj=>by cases hj;exact qN _));clear M0 h9 g9;have M0:=M0';clear M0') | (refine ZC (H:=Value) _ rfl _ _ _ 107 rfl 3 105 keyInt Tryz.underlying107 fnR w1.heap.size _ _ rfl M0.out (by unfold maxLen;omega) (.int .i64 3) (.func (.func 57) #[] #[]) (.int .i64 3) rfl rfl (keyOf_int_mk Tryz.underlying3 rfl) (.held (.func (.func 57) #[] #[])) [] rfl ?_;intro w9 h9 g9;have M0':=qH h9;replace BM:=qH (BM.out.grown g9 BM.out.size (fun j hj=>by cases hj;exact qN _));clear M0 h9 g9;have M0:=M0';clear M0') | (refine ZC (H:=Value) _ rfl _ _ _ 107 rfl 3 105 keyInt Tryz.underlying107 fnR w1.heap.size _ _ rfl M0.out (by unfold maxLen;omega) (.int .i64 4) (.func (.func 57) #[] #[]) (.int .i64 4) rfl rfl (keyOf_int_mk Tryz.underlying3 rfl) (.held (.func (.func 57) #[] #[])) [] rfl ?_;intro w9 h9 g9;have M0':=qH h9;replace BM:=qH (BM.out.grown g9 BM.out.size (fun j hj=>by cases hj;exact qN _));clear M0 h9 g9;have M0:=M0';clear M0') | go_in)
 obtain⟨X5,hX5,-⟩:=Z3M BM.out;subst hX5;have b5:=BM.out;clear BM;replace BW:=zAf BW b5;replace B_X0:=zAf B_X0 b5;clear b5;have MB5:=qH (zCl MB B_X0);have XB5:=qH (zCl XB B_X0);have y1:=XB5.out.cell (i:=1) rfl;have y2:=XB5.out.cell (i:=2) rfl;rcases hK6 with rfl | rfl | rfl | rfl | rfl | rfl
 ·skip
  have hat9:=HA.out.1;have has9:=HH.out.1;have hwf:(Lit.int .i64 0).wf=true:=rfl;go_wp2_with (at_lookup;refine wpList_lookup_own_ok (H:=Value) _ rfl _ _ 107 rfl 3 105 keyInt Tryz.underlying107 fnR (zeroF0 _) (.held .nilFunc) [] rfl w1.heap.size _ _ rfl M0.out _ _ rfl (keyOf_int_mk Tryz.underlying3 hwf) ?_;intro v9 ps9 h9;replace h9:=ZT h9 hat9;subst h9;rw [has9]);go_ret2;exact⟨by simp [askB],BW.out⟩
 ·skip
  have hat9:=HA.out.2.1;have has9:=HH.out.2.1;have hwf:(Lit.int .i64 1).wf=true:=rfl;have hk:=hkw (by decide)
  by_cases h1:(k:Int)=q1;rotate_left
  ·have d1:((k:Int) != q1)=true:=by simpa using h1
   go_wp2_with (at_lookup;refine wpList_lookup_own_ok (H:=Value) _ rfl _ _ 107 rfl 3 105 keyInt Tryz.underlying107 fnR (zeroF0 _) (.held .nilFunc) [] rfl w1.heap.size _ _ rfl M0.out _ _ rfl (keyOf_int_mk Tryz.underlying3 hwf) ?_;intro v9 ps9 h9;replace h9:=ZT h9 hat9;subst h9;rw [has9]);go_ret2;exact⟨by simp [h1],BW.out⟩
  by_cases h2:(1:Int)=q2;rotate_left
  ·have d2:((1:Int) != q2)=true:=by simpa using h2
   subst h1;go_wp2_with (at_lookup;refine wpList_lookup_own_ok (H:=Value) _ rfl _ _ 107 rfl 3 105 keyInt Tryz.underlying107 fnR (zeroF0 _) (.held .nilFunc) [] rfl w1.heap.size _ _ rfl M0.out _ _ rfl (keyOf_int_mk Tryz.underlying3 hwf) ?_;intro v9 ps9 h9;replace h9:=ZT h9 hat9;subst h9;rw [has9]);go_ret2;exact⟨by simp [h2],BW.out⟩
  subst h1 h2;have d1:((k:Int) != (k:Int))=false:=by simp
  go_upto_region 8 with (at_lookup;refine wpList_lookup_own_ok (H:=Value) _ rfl _ _ 107 rfl 3 105 keyInt Tryz.underlying107 fnR (zeroF0 _) (.held .nilFunc) [] rfl w1.heap.size _ _ rfl M0.out _ _ rfl (keyOf_int_mk Tryz.underlying3 hwf) ?_;intro v9 ps9 h9;replace h9:=ZT h9 hat9;subst h9;rw [has9])
  clear y1 y2 hat9 has9;refine (wpIn_wide (n:=9)).1 ?_;refine Zi (Zk _) 9 (fun X=>Below X5.heap.size X5 X) (by kernel_rfl) (by kernel_rfl) (by kernel_rfl) fun hH inv0=>?_
  have hD:=Below.drew (qK X5.heap.size X5);generalize hXX9:X5.drew=X9 at *;clear hXX9;replace BW:=zAf BW hD;replace B_X0:=zAf B_X0 hD;have B_X5:=qH hD;clear hD;refine sk hH (i:=0) (v:=.func (.func 54) #[] #[]) (Zd rfl) inv0 (fun X hX=>?_) fun inv1=>?_
  ·go_simp
  simp only [qJ,zq4,zr4,zs4];clear inv0;refine sk hH (i:=1) (v:=qA #[qS a1 m.ways.length (m.ways.length+c1),qS a2 m.home.length (m.home.length+c2),O qL m.start,qS a3 m.rocks.length (m.rocks.length+c3),O qL m.speed,O qL m.part,O qL m.flow,O qL m.idle,O qL m.drive,O qL m.battery,O qL m.deadline]) (Zd rfl) inv1 (fun X hX=>?_) fun inv2=>?_
  ·have hh:=MB5.out.below hX MB5.out.lt;obtain⟨c0,c1,c2,c3,c4,c5,c6,c7,c8,c9,c10⟩:=Zg (m:=m) hh;go_simp
  simp only [qJ,zq4,zr4,zs4];clear inv1;refine sk hH (i:=2) (v:=.pointer (some ⟨w.heap.size+1,0,none⟩)) (Zd rfl) inv2 (fun X hX=>?_) fun inv3=>?_
  ·go_simp
  simp only [qJ,zq4,zr4,zs4];clear inv2;refine sk hH (i:=3) (v:=qS al l.length (l.length+cl)) (Zd rfl) inv3 (fun X hX=>?_) fun inv4=>?_
  ·have hh:=XB5.out.below hX XB5.out.lt;have t0:=hh.cell (i:=0) rfl;have t1:=hh.cell (i:=1) rfl;have t2:=hh.cell (i:=2) rfl;have t3:=hh.cell (i:=3) rfl;have t4:=hh.cell (i:=4) rfl;have t5:=hh.cell (i:=5) rfl;go_simp
  simp only [qJ,zq4,zr4,zs4];clear inv3;refine sk hH (i:=4) (v:=O qL (k:Int)) (Zd rfl) inv4 (fun X hX=>?_) fun inv5=>?_
  ·go_simp
  simp only [qJ,zq4,zr4,zs4];clear inv4;refine sk hH (i:=6) (v:=qA #[qS al l.length (l.length+cl),O qL (k:Int),O qL 1,O qL q3,O qL px,O qL py]) (Zd rfl) inv5 (fun X hX=>?_) fun inv6=>?_
  ·have hh:=XB5.out.below hX XB5.out.lt;have t0:=hh.cell (i:=0) rfl;have t1:=hh.cell (i:=1) rfl;have t2:=hh.cell (i:=2) rfl;have t3:=hh.cell (i:=3) rfl;have t4:=hh.cell (i:=4) rfl;have t5:=hh.cell (i:=5) rfl;go_simp
  simp only [qJ,zq4,zr4,zs4];clear inv5;have inv7:=HeadInv.put2 inv6 (j:=5) (by kernel_rfl) (by omega)
  clear inv6;refine sa1 (r:=5) B_X5.out ?_;refine Zr (Zd rfl) rfl (f:=37) (args:=#[qA #[qS a1 m.ways.length (m.ways.length+c1),qS a2 m.home.length (m.home.length+c2),O qL m.start,qS a3 m.rocks.length (m.rocks.length+c3),O qL m.speed,O qL m.part,O qL m.flow,O qL m.idle,O qL m.drive,O qL m.battery,O qL m.deadline],qS al l.length (l.length+cl),O qL (k:Int)]) (by go_simp) (f3.out X9 BW.out) ?_
  rintro e w2 ⟨vb,va,rfl,t6,b2,-,-⟩;refine⟨_,rfl,?_⟩;simp only [qJ,zq4,zr4,zs4];replace BW:=zAf BW b2;replace B_X0:=zAf B_X0 b2;replace B_X5:=zAf B_X5 b2;clear b2;have T6:=qH t6;clear t6;obtain⟨-,ab,cb,hvb,-⟩:=T6.out.bef;subst hvb;obtain⟨-,aa,ca,hva,-⟩:=T6.out.aft;subst hva;have inv8:=HeadInv.put2 inv7 (j:=7) (by kernel_rfl) (by omega)
  clear inv7;refine sa1 (r:=7) B_X5.out ?_;refine Zr (Zd rfl) rfl (f:=54) (args:=#[qA (stgC m (qS a1 m.ways.length (m.ways.length+c1)) (qS a2 m.home.length (m.home.length+c2)) (qS a3 m.rocks.length (m.rocks.length+c3)) (qS ab (rdBU m l).length ((rdBU m l).length+cb)) (qS aa (rdAU m l).length ((rdAU m l).length+ca)) k),qA #[qS al l.length (l.length+cl),O qL (k:Int),O qL 1,O qL q3,O qL px,O qL py]]) (by go_simp) (g1.out _ _ w2 T6.out hk) ?_
  rintro e w3 ⟨rfl,b3⟩;refine⟨_,rfl,?_⟩;simp only [qJ,zq4,zr4,zs4];replace BW:=zAf BW b3;replace B_X0:=zAf B_X0 b3;replace B_X5:=zAf B_X5 b3;clear b3;refine sk hH (i:=8) (v:=qB (inO m l k q3 ⟨px,py⟩)) (Zd rfl) inv8 (fun X hX=>?_) fun inv9=>?_
  ·go_simp
  simp only [qJ,zq4,zr4,zs4];clear inv8 inv9 hH;refine Zm (by kernel_rfl) B_X5.out ?_
  simp only [List.drop_succ_cons,List.drop_zero];clear B_X5;gi_wp2;go_wp2;go_ret2;exact⟨by simp [askB],BW.out⟩
 ·skip
  have hat9:=HA.out.2.2.1;have has9:=HH.out.2.2.1;have hwf:(Lit.int .i64 5).wf=true:=rfl;have hk:=hkw (by decide)
  by_cases h1:(k:Int)=q1;rotate_left
  ·have d1:((k:Int) != q1)=true:=by simpa using h1
   go_wp2_with (at_lookup;refine wpList_lookup_own_ok (H:=Value) _ rfl _ _ 107 rfl 3 105 keyInt Tryz.underlying107 fnR (zeroF0 _) (.held .nilFunc) [] rfl w1.heap.size _ _ rfl M0.out _ _ rfl (keyOf_int_mk Tryz.underlying3 hwf) ?_;intro v9 ps9 h9;replace h9:=ZT h9 hat9;subst h9;rw [has9]);go_ret2;exact⟨by simp [h1],BW.out⟩
  by_cases h2:(5:Int)=q2;rotate_left
  ·have d2:((5:Int) != q2)=true:=by simpa using h2
   subst h1;go_wp2_with (at_lookup;refine wpList_lookup_own_ok (H:=Value) _ rfl _ _ 107 rfl 3 105 keyInt Tryz.underlying107 fnR (zeroF0 _) (.held .nilFunc) [] rfl w1.heap.size _ _ rfl M0.out _ _ rfl (keyOf_int_mk Tryz.underlying3 hwf) ?_;intro v9 ps9 h9;replace h9:=ZT h9 hat9;subst h9;rw [has9]);go_ret2;exact⟨by simp [h2],BW.out⟩
  subst h1 h2;have d1:((k:Int) != (k:Int))=false:=by simp
  go_upto_region 8 with (at_lookup;refine wpList_lookup_own_ok (H:=Value) _ rfl _ _ 107 rfl 3 105 keyInt Tryz.underlying107 fnR (zeroF0 _) (.held .nilFunc) [] rfl w1.heap.size _ _ rfl M0.out _ _ rfl (keyOf_int_mk Tryz.underlying3 hwf) ?_;intro v9 ps9 h9;replace h9:=ZT h9 hat9;subst h9;rw [has9])
  clear y1 y2 hat9 has9;refine (wpIn_wide (n:=9)).1 ?_;refine Zi (Zk _) 9 (fun X=>Below X5.heap.size X5 X) (by kernel_rfl) (by kernel_rfl) (by kernel_rfl) fun hH inv0=>?_
  have hD:=Below.drew (qK X5.heap.size X5);generalize hXX9:X5.drew=X9 at *;clear hXX9;replace BW:=zAf BW hD;replace B_X0:=zAf B_X0 hD;have B_X5:=qH hD;clear hD;refine sk hH (i:=0) (v:=.func (.func 55) #[] #[]) (Zd rfl) inv0 (fun X hX=>?_) fun inv1=>?_
  ·go_simp
  simp only [qJ,zq4,zr4,zs4];clear inv0;refine sk hH (i:=1) (v:=qA #[qS a1 m.ways.length (m.ways.length+c1),qS a2 m.home.length (m.home.length+c2),O qL m.start,qS a3 m.rocks.length (m.rocks.length+c3),O qL m.speed,O qL m.part,O qL m.flow,O qL m.idle,O qL m.drive,O qL m.battery,O qL m.deadline]) (Zd rfl) inv1 (fun X hX=>?_) fun inv2=>?_
  ·have hh:=MB5.out.below hX MB5.out.lt;obtain⟨c0,c1,c2,c3,c4,c5,c6,c7,c8,c9,c10⟩:=Zg (m:=m) hh;go_simp
  simp only [qJ,zq4,zr4,zs4];clear inv1;refine sk hH (i:=2) (v:=.pointer (some ⟨w.heap.size+1,0,none⟩)) (Zd rfl) inv2 (fun X hX=>?_) fun inv3=>?_
  ·go_simp
  simp only [qJ,zq4,zr4,zs4];clear inv2;refine sk hH (i:=3) (v:=qS al l.length (l.length+cl)) (Zd rfl) inv3 (fun X hX=>?_) fun inv4=>?_
  ·have hh:=XB5.out.below hX XB5.out.lt;have t0:=hh.cell (i:=0) rfl;have t1:=hh.cell (i:=1) rfl;have t2:=hh.cell (i:=2) rfl;have t3:=hh.cell (i:=3) rfl;have t4:=hh.cell (i:=4) rfl;have t5:=hh.cell (i:=5) rfl;go_simp
  simp only [qJ,zq4,zr4,zs4];clear inv3;refine sk hH (i:=4) (v:=O qL (k:Int)) (Zd rfl) inv4 (fun X hX=>?_) fun inv5=>?_
  ·go_simp
  simp only [qJ,zq4,zr4,zs4];clear inv4;refine sk hH (i:=6) (v:=qA #[qS al l.length (l.length+cl),O qL (k:Int),O qL 5,O qL q3,O qL px,O qL py]) (Zd rfl) inv5 (fun X hX=>?_) fun inv6=>?_
  ·have hh:=XB5.out.below hX XB5.out.lt;have t0:=hh.cell (i:=0) rfl;have t1:=hh.cell (i:=1) rfl;have t2:=hh.cell (i:=2) rfl;have t3:=hh.cell (i:=3) rfl;have t4:=hh.cell (i:=4) rfl;have t5:=hh.cell (i:=5) rfl;go_simp
  simp only [qJ,zq4,zr4,zs4];clear inv5;have inv7:=HeadInv.put2 inv6 (j:=5) (by kernel_rfl) (by omega)
  clear inv6;refine sa1 (r:=5) B_X5.out ?_;refine Zr (Zd rfl) rfl (f:=37) (args:=#[qA #[qS a1 m.ways.length (m.ways.length+c1),qS a2 m.home.length (m.home.length+c2),O qL m.start,qS a3 m.rocks.length (m.rocks.length+c3),O qL m.speed,O qL m.part,O qL m.flow,O qL m.idle,O qL m.drive,O qL m.battery,O qL m.deadline],qS al l.length (l.length+cl),O qL (k:Int)]) (by go_simp) (f3.out X9 BW.out) ?_
  rintro e w2 ⟨vb,va,rfl,t6,b2,-,-⟩;refine⟨_,rfl,?_⟩;simp only [qJ,zq4,zr4,zs4];replace BW:=zAf BW b2;replace B_X0:=zAf B_X0 b2;replace B_X5:=zAf B_X5 b2;clear b2;have T6:=qH t6;clear t6;obtain⟨-,ab,cb,hvb,-⟩:=T6.out.bef;subst hvb;obtain⟨-,aa,ca,hva,-⟩:=T6.out.aft;subst hva;have inv8:=HeadInv.put2 inv7 (j:=7) (by kernel_rfl) (by omega)
  clear inv7;refine sa1 (r:=7) B_X5.out ?_;refine Zr (Zd rfl) rfl (f:=55) (args:=#[qA (stgC m (qS a1 m.ways.length (m.ways.length+c1)) (qS a2 m.home.length (m.home.length+c2)) (qS a3 m.rocks.length (m.rocks.length+c3)) (qS ab (rdBU m l).length ((rdBU m l).length+cb)) (qS aa (rdAU m l).length ((rdAU m l).length+ca)) k),qA #[qS al l.length (l.length+cl),O qL (k:Int),O qL 5,O qL q3,O qL px,O qL py]]) (by go_simp) (g5.out _ _ w2 T6.out hk) ?_
  rintro e w3 ⟨rfl,b3⟩;refine⟨_,rfl,?_⟩;simp only [qJ,zq4,zr4,zs4];replace BW:=zAf BW b3;replace B_X0:=zAf B_X0 b3;replace B_X5:=zAf B_X5 b3;clear b3;refine sk hH (i:=8) (v:=qB (bkAny m l k ⟨px,py⟩ && onR m q3 ⟨px,py⟩)) (Zd rfl) inv8 (fun X hX=>?_) fun inv9=>?_
  ·go_simp
  simp only [qJ,zq4,zr4,zs4];clear inv8 inv9 hH;refine Zm (by kernel_rfl) B_X5.out ?_
  simp only [List.drop_succ_cons,List.drop_zero];clear B_X5;gi_wp2;go_wp2;go_ret2;exact⟨by simp [askB],BW.out⟩
 ·skip
  have hat9:=HA.out.2.2.2.1;have has9:=HH.out.2.2.2.1;have hwf:(Lit.int .i64 2).wf=true:=rfl;have hk:=hkw (by decide)
  by_cases h1:(k:Int)=q1;rotate_left
  ·have d1:((k:Int) != q1)=true:=by simpa using h1
   go_wp2_with (at_lookup;refine wpList_lookup_own_ok (H:=Value) _ rfl _ _ 107 rfl 3 105 keyInt Tryz.underlying107 fnR (zeroF0 _) (.held .nilFunc) [] rfl w1.heap.size _ _ rfl M0.out _ _ rfl (keyOf_int_mk Tryz.underlying3 hwf) ?_;intro v9 ps9 h9;replace h9:=ZT h9 hat9;subst h9;rw [has9]);go_ret2;exact⟨by simp [h1],BW.out⟩
  by_cases h2:(2:Int)=q2;rotate_left
  ·have d2:((2:Int) != q2)=true:=by simpa using h2
   subst h1;go_wp2_with (at_lookup;refine wpList_lookup_own_ok (H:=Value) _ rfl _ _ 107 rfl 3 105 keyInt Tryz.underlying107 fnR (zeroF0 _) (.held .nilFunc) [] rfl w1.heap.size _ _ rfl M0.out _ _ rfl (keyOf_int_mk Tryz.underlying3 hwf) ?_;intro v9 ps9 h9;replace h9:=ZT h9 hat9;subst h9;rw [has9]);go_ret2;exact⟨by simp [h2],BW.out⟩
  subst h1 h2;have d1:((k:Int) != (k:Int))=false:=by simp
  go_upto_region 8 with (at_lookup;refine wpList_lookup_own_ok (H:=Value) _ rfl _ _ 107 rfl 3 105 keyInt Tryz.underlying107 fnR (zeroF0 _) (.held .nilFunc) [] rfl w1.heap.size _ _ rfl M0.out _ _ rfl (keyOf_int_mk Tryz.underlying3 hwf) ?_;intro v9 ps9 h9;replace h9:=ZT h9 hat9;subst h9;rw [has9])
  clear y1 y2 hat9 has9;refine (wpIn_wide (n:=9)).1 ?_;refine Zi (Zk _) 9 (fun X=>Below X5.heap.size X5 X) (by kernel_rfl) (by kernel_rfl) (by kernel_rfl) fun hH inv0=>?_
  have hD:=Below.drew (qK X5.heap.size X5);generalize hXX9:X5.drew=X9 at *;clear hXX9;replace BW:=zAf BW hD;replace B_X0:=zAf B_X0 hD;have B_X5:=qH hD;clear hD;refine sk hH (i:=0) (v:=.func (.func 56) #[] #[]) (Zd rfl) inv0 (fun X hX=>?_) fun inv1=>?_
  ·go_simp
  simp only [qJ,zq4,zr4,zs4];clear inv0;refine sk hH (i:=1) (v:=qA #[qS a1 m.ways.length (m.ways.length+c1),qS a2 m.home.length (m.home.length+c2),O qL m.start,qS a3 m.rocks.length (m.rocks.length+c3),O qL m.speed,O qL m.part,O qL m.flow,O qL m.idle,O qL m.drive,O qL m.battery,O qL m.deadline]) (Zd rfl) inv1 (fun X hX=>?_) fun inv2=>?_
  ·have hh:=MB5.out.below hX MB5.out.lt;obtain⟨c0,c1,c2,c3,c4,c5,c6,c7,c8,c9,c10⟩:=Zg (m:=m) hh;go_simp
  simp only [qJ,zq4,zr4,zs4];clear inv1;refine sk hH (i:=2) (v:=.pointer (some ⟨w.heap.size+1,0,none⟩)) (Zd rfl) inv2 (fun X hX=>?_) fun inv3=>?_
  ·go_simp
  simp only [qJ,zq4,zr4,zs4];clear inv2;refine sk hH (i:=3) (v:=qS al l.length (l.length+cl)) (Zd rfl) inv3 (fun X hX=>?_) fun inv4=>?_
  ·have hh:=XB5.out.below hX XB5.out.lt;have t0:=hh.cell (i:=0) rfl;have t1:=hh.cell (i:=1) rfl;have t2:=hh.cell (i:=2) rfl;have t3:=hh.cell (i:=3) rfl;have t4:=hh.cell (i:=4) rfl;have t5:=hh.cell (i:=5) rfl;go_simp
  simp only [qJ,zq4,zr4,zs4];clear inv3;refine sk hH (i:=4) (v:=O qL (k:Int)) (Zd rfl) inv4 (fun X hX=>?_) fun inv5=>?_
  ·go_simp
  simp only [qJ,zq4,zr4,zs4];clear inv4;refine sk hH (i:=6) (v:=qA #[qS al l.length (l.length+cl),O qL (k:Int),O qL 2,O qL q3,O qL px,O qL py]) (Zd rfl) inv5 (fun X hX=>?_) fun inv6=>?_
  ·have hh:=XB5.out.below hX XB5.out.lt;have t0:=hh.cell (i:=0) rfl;have t1:=hh.cell (i:=1) rfl;have t2:=hh.cell (i:=2) rfl;have t3:=hh.cell (i:=3) rfl;have t4:=hh.cell (i:=4) rfl;have t5:=hh.cell (i:=5) rfl;go_simp
  simp only [qJ,zq4,zr4,zs4];clear inv5;have inv7:=HeadInv.put2 inv6 (j:=5) (by kernel_rfl) (by omega)
  clear inv6;refine sa1 (r:=5) B_X5.out ?_;refine Zr (Zd rfl) rfl (f:=37) (args:=#[qA #[qS a1 m.ways.length (m.ways.length+c1),qS a2 m.home.length (m.home.length+c2),O qL m.start,qS a3 m.rocks.length (m.rocks.length+c3),O qL m.speed,O qL m.part,O qL m.flow,O qL m.idle,O qL m.drive,O qL m.battery,O qL m.deadline],qS al l.length (l.length+cl),O qL (k:Int)]) (by go_simp) (f3.out X9 BW.out) ?_
  rintro e w2 ⟨vb,va,rfl,t6,b2,-,-⟩;refine⟨_,rfl,?_⟩;simp only [qJ,zq4,zr4,zs4];replace BW:=zAf BW b2;replace B_X0:=zAf B_X0 b2;replace B_X5:=zAf B_X5 b2;clear b2;have T6:=qH t6;clear t6;obtain⟨-,ab,cb,hvb,-⟩:=T6.out.bef;subst hvb;obtain⟨-,aa,ca,hva,-⟩:=T6.out.aft;subst hva;have inv8:=HeadInv.put2 inv7 (j:=7) (by kernel_rfl) (by omega)
  clear inv7;refine sa1 (r:=7) B_X5.out ?_;refine Zr (Zd rfl) rfl (f:=56) (args:=#[qA (stgC m (qS a1 m.ways.length (m.ways.length+c1)) (qS a2 m.home.length (m.home.length+c2)) (qS a3 m.rocks.length (m.rocks.length+c3)) (qS ab (rdBU m l).length ((rdBU m l).length+cb)) (qS aa (rdAU m l).length ((rdAU m l).length+ca)) k),qA #[qS al l.length (l.length+cl),O qL (k:Int),O qL 2,O qL q3,O qL px,O qL py]]) (by go_simp) (g2.out _ _ w2 T6.out hk) ?_
  rintro e w3 ⟨rfl,b3⟩;refine⟨_,rfl,?_⟩;simp only [qJ,zq4,zr4,zs4];replace BW:=zAf BW b3;replace B_X0:=zAf B_X0 b3;replace B_X5:=zAf B_X5 b3;clear b3;refine sk hH (i:=8) (v:=qB (ntH m l k q3 ⟨px,py⟩)) (Zd rfl) inv8 (fun X hX=>?_) fun inv9=>?_
  ·go_simp
  simp only [qJ,zq4,zr4,zs4];clear inv8 inv9 hH;refine Zm (by kernel_rfl) B_X5.out ?_
  simp only [List.drop_succ_cons,List.drop_zero];clear B_X5;gi_wp2;go_wp2;go_ret2;exact⟨by simp [askB],BW.out⟩
 ·skip
  have hat9:=HA.out.2.2.2.2.1;have has9:=HH.out.2.2.2.2.1;have hwf:(Lit.int .i64 3).wf=true:=rfl;have hk:=hkw (by decide)
  by_cases h1:(k:Int)=q1;rotate_left
  ·have d1:((k:Int) != q1)=true:=by simpa using h1
   go_wp2_with (at_lookup;refine wpList_lookup_own_ok (H:=Value) _ rfl _ _ 107 rfl 3 105 keyInt Tryz.underlying107 fnR (zeroF0 _) (.held .nilFunc) [] rfl w1.heap.size _ _ rfl M0.out _ _ rfl (keyOf_int_mk Tryz.underlying3 hwf) ?_;intro v9 ps9 h9;replace h9:=ZT h9 hat9;subst h9;rw [has9]);go_ret2;exact⟨by simp [h1],BW.out⟩
  by_cases h2:(3:Int)=q2;rotate_left
  ·have d2:((3:Int) != q2)=true:=by simpa using h2
   subst h1;go_wp2_with (at_lookup;refine wpList_lookup_own_ok (H:=Value) _ rfl _ _ 107 rfl 3 105 keyInt Tryz.underlying107 fnR (zeroF0 _) (.held .nilFunc) [] rfl w1.heap.size _ _ rfl M0.out _ _ rfl (keyOf_int_mk Tryz.underlying3 hwf) ?_;intro v9 ps9 h9;replace h9:=ZT h9 hat9;subst h9;rw [has9]);go_ret2;exact⟨by simp [h2],BW.out⟩
  subst h1 h2;have d1:((k:Int) != (k:Int))=false:=by simp
  go_upto_region 8 with (at_lookup;refine wpList_lookup_own_ok (H:=Value) _ rfl _ _ 107 rfl 3 105 keyInt Tryz.underlying107 fnR (zeroF0 _) (.held .nilFunc) [] rfl w1.heap.size _ _ rfl M0.out _ _ rfl (keyOf_int_mk Tryz.underlying3 hwf) ?_;intro v9 ps9 h9;replace h9:=ZT h9 hat9;subst h9;rw [has9])
  clear y1 y2 hat9 has9;refine (wpIn_wide (n:=9)).1 ?_;refine Zi (Zk _) 9 (fun X=>Below X5.heap.size X5 X) (by kernel_rfl) (by kernel_rfl) (by kernel_rfl) fun hH inv0=>?_
  have hD:=Below.drew (qK X5.heap.size X5);generalize hXX9:X5.drew=X9 at *;clear hXX9;replace BW:=zAf BW hD;replace B_X0:=zAf B_X0 hD;have B_X5:=qH hD;clear hD;refine sk hH (i:=0) (v:=.func (.func 57) #[] #[]) (Zd rfl) inv0 (fun X hX=>?_) fun inv1=>?_
  ·go_simp
  simp only [qJ,zq4,zr4,zs4];clear inv0;refine sk hH (i:=1) (v:=qA #[qS a1 m.ways.length (m.ways.length+c1),qS a2 m.home.length (m.home.length+c2),O qL m.start,qS a3 m.rocks.length (m.rocks.length+c3),O qL m.speed,O qL m.part,O qL m.flow,O qL m.idle,O qL m.drive,O qL m.battery,O qL m.deadline]) (Zd rfl) inv1 (fun X hX=>?_) fun inv2=>?_
  ·have hh:=MB5.out.below hX MB5.out.lt;obtain⟨c0,c1,c2,c3,c4,c5,c6,c7,c8,c9,c10⟩:=Zg (m:=m) hh;go_simp
  simp only [qJ,zq4,zr4,zs4];clear inv1;refine sk hH (i:=2) (v:=.pointer (some ⟨w.heap.size+1,0,none⟩)) (Zd rfl) inv2 (fun X hX=>?_) fun inv3=>?_
  ·go_simp
  simp only [qJ,zq4,zr4,zs4];clear inv2;refine sk hH (i:=3) (v:=qS al l.length (l.length+cl)) (Zd rfl) inv3 (fun X hX=>?_) fun inv4=>?_
  ·have hh:=XB5.out.below hX XB5.out.lt;have t0:=hh.cell (i:=0) rfl;have t1:=hh.cell (i:=1) rfl;have t2:=hh.cell (i:=2) rfl;have t3:=hh.cell (i:=3) rfl;have t4:=hh.cell (i:=4) rfl;have t5:=hh.cell (i:=5) rfl;go_simp
  simp only [qJ,zq4,zr4,zs4];clear inv3;refine sk hH (i:=4) (v:=O qL (k:Int)) (Zd rfl) inv4 (fun X hX=>?_) fun inv5=>?_
  ·go_simp
  simp only [qJ,zq4,zr4,zs4];clear inv4;refine sk hH (i:=6) (v:=qA #[qS al l.length (l.length+cl),O qL (k:Int),O qL 3,O qL q3,O qL px,O qL py]) (Zd rfl) inv5 (fun X hX=>?_) fun inv6=>?_
  ·have hh:=XB5.out.below hX XB5.out.lt;have t0:=hh.cell (i:=0) rfl;have t1:=hh.cell (i:=1) rfl;have t2:=hh.cell (i:=2) rfl;have t3:=hh.cell (i:=3) rfl;have t4:=hh.cell (i:=4) rfl;have t5:=hh.cell (i:=5) rfl;go_simp
  simp only [qJ,zq4,zr4,zs4];clear inv5;have inv7:=HeadInv.put2 inv6 (j:=5) (by kernel_rfl) (by omega)
  clear inv6;refine sa1 (r:=5) B_X5.out ?_;refine Zr (Zd rfl) rfl (f:=37) (args:=#[qA #[qS a1 m.ways.length (m.ways.length+c1),qS a2 m.home.length (m.home.length+c2),O qL m.start,qS a3 m.rocks.length (m.rocks.length+c3),O qL m.speed,O qL m.part,O qL m.flow,O qL m.idle,O qL m.drive,O qL m.battery,O qL m.deadline],qS al l.length (l.length+cl),O qL (k:Int)]) (by go_simp) (f3.out X9 BW.out) ?_
  rintro e w2 ⟨vb,va,rfl,t6,b2,-,-⟩;refine⟨_,rfl,?_⟩;simp only [qJ,zq4,zr4,zs4];replace BW:=zAf BW b2;replace B_X0:=zAf B_X0 b2;replace B_X5:=zAf B_X5 b2;clear b2;have T6:=qH t6;clear t6;obtain⟨-,ab,cb,hvb,-⟩:=T6.out.bef;subst hvb;obtain⟨-,aa,ca,hva,-⟩:=T6.out.aft;subst hva;have inv8:=HeadInv.put2 inv7 (j:=7) (by kernel_rfl) (by omega)
  clear inv7;refine sa1 (r:=7) B_X5.out ?_;refine Zr (Zd rfl) rfl (f:=57) (args:=#[qA (stgC m (qS a1 m.ways.length (m.ways.length+c1)) (qS a2 m.home.length (m.home.length+c2)) (qS a3 m.rocks.length (m.rocks.length+c3)) (qS ab (rdBU m l).length ((rdBU m l).length+cb)) (qS aa (rdAU m l).length ((rdAU m l).length+ca)) k),qA #[qS al l.length (l.length+cl),O qL (k:Int),O qL 3,O qL q3,O qL px,O qL py]]) (by go_simp) (g3.out _ _ w2) ?_
  rintro e w3 ⟨rfl,b3⟩;refine⟨_,rfl,?_⟩;simp only [qJ,zq4,zr4,zs4];replace BW:=zAf BW b3;replace B_X0:=zAf B_X0 b3;replace B_X5:=zAf B_X5 b3;clear b3;refine sk hH (i:=8) (v:=qB (notB q3 ⟨px,py⟩)) (Zd rfl) inv8 (fun X hX=>?_) fun inv9=>?_
  ·go_simp
  simp only [qJ,zq4,zr4,zs4];clear inv8 inv9 hH;refine Zm (by kernel_rfl) B_X5.out ?_
  simp only [List.drop_succ_cons,List.drop_zero];clear B_X5;gi_wp2;go_wp2;go_ret2;exact⟨by simp [askB],BW.out⟩
 ·skip
  have hat9:=HA.out.2.2.2.2.2;have has9:=HH.out.2.2.2.2.2;have hwf:(Lit.int .i64 4).wf=true:=rfl;have hk:=hkw (by decide)
  by_cases h1:(k:Int)=q1;rotate_left
  ·have d1:((k:Int) != q1)=true:=by simpa using h1
   go_wp2_with (at_lookup;refine wpList_lookup_own_ok (H:=Value) _ rfl _ _ 107 rfl 3 105 keyInt Tryz.underlying107 fnR (zeroF0 _) (.held .nilFunc) [] rfl w1.heap.size _ _ rfl M0.out _ _ rfl (keyOf_int_mk Tryz.underlying3 hwf) ?_;intro v9 ps9 h9;replace h9:=ZT h9 hat9;subst h9;rw [has9]);go_ret2;exact⟨by simp [h1],BW.out⟩
  by_cases h2:(4:Int)=q2;rotate_left
  ·have d2:((4:Int) != q2)=true:=by simpa using h2
   subst h1;go_wp2_with (at_lookup;refine wpList_lookup_own_ok (H:=Value) _ rfl _ _ 107 rfl 3 105 keyInt Tryz.underlying107 fnR (zeroF0 _) (.held .nilFunc) [] rfl w1.heap.size _ _ rfl M0.out _ _ rfl (keyOf_int_mk Tryz.underlying3 hwf) ?_;intro v9 ps9 h9;replace h9:=ZT h9 hat9;subst h9;rw [has9]);go_ret2;exact⟨by simp [h2],BW.out⟩
  subst h1 h2;have d1:((k:Int) != (k:Int))=false:=by simp
  go_upto_region 8 with (at_lookup;refine wpList_lookup_own_ok (H:=Value) _ rfl _ _ 107 rfl 3 105 keyInt Tryz.underlying107 fnR (zeroF0 _) (.held .nilFunc) [] rfl w1.heap.size _ _ rfl M0.out _ _ rfl (keyOf_int_mk Tryz.underlying3 hwf) ?_;intro v9 ps9 h9;replace h9:=ZT h9 hat9;subst h9;rw [has9])
  clear y1 y2 hat9 has9;refine (wpIn_wide (n:=9)).1 ?_;refine Zi (Zk _) 9 (fun X=>Below X5.heap.size X5 X) (by kernel_rfl) (by kernel_rfl) (by kernel_rfl) fun hH inv0=>?_
  have hD:=Below.drew (qK X5.heap.size X5);generalize hXX9:X5.drew=X9 at *;clear hXX9;replace BW:=zAf BW hD;replace B_X0:=zAf B_X0 hD;have B_X5:=qH hD;clear hD;refine sk hH (i:=0) (v:=.func (.func 57) #[] #[]) (Zd rfl) inv0 (fun X hX=>?_) fun inv1=>?_
  ·go_simp
  simp only [qJ,zq4,zr4,zs4];clear inv0;refine sk hH (i:=1) (v:=qA #[qS a1 m.ways.length (m.ways.length+c1),qS a2 m.home.length (m.home.length+c2),O qL m.start,qS a3 m.rocks.length (m.rocks.length+c3),O qL m.speed,O qL m.part,O qL m.flow,O qL m.idle,O qL m.drive,O qL m.battery,O qL m.deadline]) (Zd rfl) inv1 (fun X hX=>?_) fun inv2=>?_
  ·have hh:=MB5.out.below hX MB5.out.lt;obtain⟨c0,c1,c2,c3,c4,c5,c6,c7,c8,c9,c10⟩:=Zg (m:=m) hh;go_simp
  simp only [qJ,zq4,zr4,zs4];clear inv1;refine sk hH (i:=2) (v:=.pointer (some ⟨w.heap.size+1,0,none⟩)) (Zd rfl) inv2 (fun X hX=>?_) fun inv3=>?_
  ·go_simp
  simp only [qJ,zq4,zr4,zs4];clear inv2;refine sk hH (i:=3) (v:=qS al l.length (l.length+cl)) (Zd rfl) inv3 (fun X hX=>?_) fun inv4=>?_
  ·have hh:=XB5.out.below hX XB5.out.lt;have t0:=hh.cell (i:=0) rfl;have t1:=hh.cell (i:=1) rfl;have t2:=hh.cell (i:=2) rfl;have t3:=hh.cell (i:=3) rfl;have t4:=hh.cell (i:=4) rfl;have t5:=hh.cell (i:=5) rfl;go_simp
  simp only [qJ,zq4,zr4,zs4];clear inv3;refine sk hH (i:=4) (v:=O qL (k:Int)) (Zd rfl) inv4 (fun X hX=>?_) fun inv5=>?_
  ·go_simp
  simp only [qJ,zq4,zr4,zs4];clear inv4;refine sk hH (i:=6) (v:=qA #[qS al l.length (l.length+cl),O qL (k:Int),O qL 4,O qL q3,O qL px,O qL py]) (Zd rfl) inv5 (fun X hX=>?_) fun inv6=>?_
  ·have hh:=XB5.out.below hX XB5.out.lt;have t0:=hh.cell (i:=0) rfl;have t1:=hh.cell (i:=1) rfl;have t2:=hh.cell (i:=2) rfl;have t3:=hh.cell (i:=3) rfl;have t4:=hh.cell (i:=4) rfl;have t5:=hh.cell (i:=5) rfl;go_simp
  simp only [qJ,zq4,zr4,zs4];clear inv5;have inv7:=HeadInv.put2 inv6 (j:=5) (by kernel_rfl) (by omega)
  clear inv6;refine sa1 (r:=5) B_X5.out ?_;refine Zr (Zd rfl) rfl (f:=37) (args:=#[qA #[qS a1 m.ways.length (m.ways.length+c1),qS a2 m.home.length (m.home.length+c2),O qL m.start,qS a3 m.rocks.length (m.rocks.length+c3),O qL m.speed,O qL m.part,O qL m.flow,O qL m.idle,O qL m.drive,O qL m.battery,O qL m.deadline],qS al l.length (l.length+cl),O qL (k:Int)]) (by go_simp) (f3.out X9 BW.out) ?_
  rintro e w2 ⟨vb,va,rfl,t6,b2,-,-⟩;refine⟨_,rfl,?_⟩;simp only [qJ,zq4,zr4,zs4];replace BW:=zAf BW b2;replace B_X0:=zAf B_X0 b2;replace B_X5:=zAf B_X5 b2;clear b2;have T6:=qH t6;clear t6;obtain⟨-,ab,cb,hvb,-⟩:=T6.out.bef;subst hvb;obtain⟨-,aa,ca,hva,-⟩:=T6.out.aft;subst hva;have inv8:=HeadInv.put2 inv7 (j:=7) (by kernel_rfl) (by omega)
  clear inv7;refine sa1 (r:=7) B_X5.out ?_;refine Zr (Zd rfl) rfl (f:=57) (args:=#[qA (stgC m (qS a1 m.ways.length (m.ways.length+c1)) (qS a2 m.home.length (m.home.length+c2)) (qS a3 m.rocks.length (m.rocks.length+c3)) (qS ab (rdBU m l).length ((rdBU m l).length+cb)) (qS aa (rdAU m l).length ((rdAU m l).length+ca)) k),qA #[qS al l.length (l.length+cl),O qL (k:Int),O qL 4,O qL q3,O qL px,O qL py]]) (by go_simp) (g3.out _ _ w2) ?_
  rintro e w3 ⟨rfl,b3⟩;refine⟨_,rfl,?_⟩;simp only [qJ,zq4,zr4,zs4];replace BW:=zAf BW b3;replace B_X0:=zAf B_X0 b3;replace B_X5:=zAf B_X5 b3;clear b3;refine sk hH (i:=8) (v:=qB (notB q3 ⟨px,py⟩)) (Zd rfl) inv8 (fun X hX=>?_) fun inv9=>?_
  ·go_simp
  simp only [qJ,zq4,zr4,zs4];clear inv8 inv9 hH;refine Zm (by kernel_rfl) B_X5.out ?_
  simp only [List.drop_succ_cons,List.drop_zero];clear B_X5;gi_wp2;go_wp2;go_ret2;exact⟨by simp [askB],BW.out⟩
theorem Z4w (m:Msn) (vw vh vr vs:Value) (l:List Int) (q1 q2 q3:Int) (x:Pt) (w:World) (hm:MsnAt w.heap.size w m vw vh vr) (hl:Z8 w.heap.size w vs l) :
  Calls Tryz.prog 16 #[qA (Zc m vw vh vr),qA #[vs,O qL q1,O qL q2,O qL q3,O qL x.x,O qL x.y]] w fun e w'=>e=.returned (qT #[qB (brB m l q1 q2 q3 x),O qL (kpE m l)])/\Below w.heap.size w w':=by
 unfold brB;cases hok:radOkB m l
 ·have:=Zav m vw vh vr vs l q1 q2 q3 x w hm hl hok
  simpa [kpE,hok] using this
 ·have:=Z8E m vw vh vr vs l q1 q2 q3 x w hm hl hok
  obtain⟨k1,k2,k3⟩:=kp_of hok;rw [k1,k2,k3];simp only [Bool.true_and];exact this
end
section
open Go.RowKit
theorem sub_of {l L : List Int} (h1 : l.Pairwise (· < ·)) (h2 : L.Pairwise (· < ·)) (h : ∀ x ∈ l, x ∈ L) : l.Sublist L := by
 induction L generalizing l with
 | nil =>
  cases l with
  | nil=>exact List.nil_sublist _
  | cons a t=>exact absurd (h a (by simp)) (by simp)
 | cons b L ih =>
  cases l with
  | nil=>exact List.nil_sublist _
  | cons a t =>
   have g1:=List.pairwise_cons.1 h1;have g2:=List.pairwise_cons.1 h2;by_cases e:a=b
   ·subst e
    refine List.Sublist.cons_cons _ (ih g1.2 g2.2 fun x hx=>?_)
    rcases List.mem_cons.1 (h x (by simp [hx])) with r | r
    ·have:=g1.1 x hx;omega
    ·exact r
   ·refine List.Sublist.cons _ (ih h1 g2.2 fun x hx=>?_)
    rcases List.mem_cons.1 (h x hx) with r | r
    ·subst r
     have ha:a ∈ L:=(List.mem_cons.1 (h a (by simp))).resolve_left e
     have:=g2.1 a ha;rcases List.mem_cons.1 hx with r | r
     ·omega
     ·have:=g1.1 _ r;omega
    ·exact r
theorem Z5e {m:Msn} (V:VMsn m) {l:List Int} (h:stopsB m l=true):l.Sublist (fixL m):=by
 refine sub_of (List.pairwise_iff_getElem.2 fun i j hi hj hij=>?_) (Z1h m _) fun x hx=>?_
 ·have:=Z1v h j i hij hj
  simpa [List.getD,List.getElem?_eq_getElem hi,List.getElem?_eq_getElem hj] using this
 ·obtain⟨k,hk,rfl⟩:=Z5y hx
  obtain⟨p1,p2,p3⟩:=Z48 h hk;refine (Z0W m _ _).2 ⟨(l.getD k 0).toNat,by omega,by omega,by omega,?_⟩
  have:=ZO (Z06 V.ways (j:=(l.getD k 0).toNat) (by omega))
  omega
theorem far_le {m:Msn} (hr:rfB m=true) {l:List Int} (hok:radOkB m l=true):kpL m l<=(leadN m (rfL m):Int)/\0<kpK m l:=by
 obtain⟨hV,-,hk,hg,-,-,-,-,-,hl⟩:=Z01 hr;have hvs:validB m=true/\stopsB m l=true:=by simpa [radOkB] using hok
 have hs:=Z5e ((Zj m).1 hV) hvs.2;have hb:(bestP m).1=(leadN m (rfL m):Int):=by rw [<- hg];simp [rfG,hr]
 have h1:kpL m l<=(bestP m).1:=by rcases ZcG hs with h | ⟨h,-⟩ <;> omega
 exact⟨by omega,Z23 hok (by omega)⟩
theorem ZaZ {c:List Pt} {ls:List (List Pt)} (h:okRocks c ls=true):Zb c=true/\∀ j,j<ls.length->Zb (rk ls j)=true:=by
 unfold okRocks at h;rw [Bool.and_eq_true] at h;exact⟨h.1,of_decide_eq_true h.2⟩
theorem Z4M {m:Msn} {p:List Pt} (h:firB p m.rocks=true):(outE m p=0\/outE m p=20)/\(outE m p=0->hasB p ⟨hitX p (rk m.rocks (firI p m.rocks).toNat),hitY p (rk m.rocks (firI p m.rocks).toNat)⟩=true/\onR m (firI p m.rocks) ⟨hitX p (rk m.rocks (firI p m.rocks).toNat),hitY p (rk m.rocks (firI p m.rocks).toNat)⟩=true):=by
 have hc:m.rocks.length<=100/\okRocks p m.rocks=true:=by
  unfold firB at h
  split at h
  ·assumption
  ·cases h
 obtain⟨v1,v2⟩:=ZaZ hc.2;obtain⟨f1,f2,-⟩:=fir_ok hc.1 hc.2;rw [f2] at h;cases hh:hitTo p m.rocks m.rocks.length with
 | none=>rw [hh] at h;cases h
 | some i =>
  rw [hh] at f1;obtain⟨g1,g2,-⟩:=Z2r hh;have e:firI p m.rocks=(i:Int):=f1;unfold outE;rw [e,Int.toNat_natCast];have vi:=v2 i g1;unfold hitE hitX hitY;rw [v1,vi];simp only [Bool.and_self,if_true];cases hx:comX p (rk m.rocks i) with
  | none=>simp [g2]
  | some q =>
   obtain⟨a1,a2⟩:=Zcz v1 vi hx;refine⟨.inl rfl,fun _=>⟨a1,?_⟩⟩
   have hd:decide ((i:Int)<m.rocks.length)=true:=decide_eq_true (by omega)
   have hd0:decide (0<=(i:Int))=true:=decide_eq_true (by omega)
   unfold onR;rw [hd,hd0,Int.toNat_natCast];exact a2
theorem Zbg {m:Msn} (V:VMsn m) {l:List Int} {k:Nat} (hk:k+1<m.ways.length):Zb (hmP m l k)=true:=by
 rw [ZbL V hk];exact (hm_eq V (bk_bd V l hk (qN _))).2
theorem Zcq {p:List Pt} (h:Zb p=true) {x:Pt} (hx:x ∈ p):hasB p x=true:=by
 obtain⟨k,hk,rfl⟩:=List.getElem_of_mem hx;have:=Z12 h hk
 rwa [Z4P hk] at this
theorem Z9M {p:List Pt} {x:Pt} (h:hasB p x=true):Z3 x=true:=by
 unfold hasB at h;simp only [Bool.and_eq_true] at h;exact h.1.2
theorem Z9G {x:Pt} (h:Z3 x=true):insB x=true:=by
 unfold Z3 placeB at h;have:=of_decide_eq_true h;unfold insB;simp only [Bool.and_eq_true,decide_eq_true_eq];omega
theorem Z79 {m:Msn} (V:VMsn m) {l:List Int} {k:Nat} (hk:k+1<m.ways.length) {K:Int} {v:Value} {cs:Array Value} (h:ShowQ m l k K v cs 0):∃ (r:Int) (x:Pt),cs=#[v,O qL (k:Int),O qL K,O qL r,O qL x.x,O qL x.y]/\askB m l k K r x=true:=by
 rcases h with⟨rfl,rfl,he,hf⟩ | ⟨rfl,j,hj,hf,rfl,he⟩ | ⟨rfl,-,x,hx,hh,rfl⟩ | ⟨hK,-,rfl⟩
 ·obtain⟨a1,a2⟩:=(Z4M hf).2 he.symm
  refine⟨firI (ownC m l k) m.rocks,⟨hitX (ownC m l k) (rk m.rocks (firI (ownC m l k) m.rocks).toNat),hitY (ownC m l k) (rk m.rocks (firI (ownC m l k) m.rocks).toNat)⟩,rfl,?_⟩;unfold askB inO;rw [if_pos rfl,a1,a2];rfl
 ·obtain⟨a1,a2⟩:=(Z4M hf).2 he.symm
  refine⟨firI (bkP m l k j) m.rocks,⟨hitX (bkP m l k j) (rk m.rocks (firI (bkP m l k j) m.rocks).toNat),hitY (bkP m l k j) (rk m.rocks (firI (bkP m l k j) m.rocks).toNat)⟩,rfl,?_⟩;unfold askB;rw [if_neg (by decide),if_pos rfl,Z7S hj a1,a2];rfl
 ·refine⟨0,x,rfl,?_⟩
  have h1:=Zcq (Zbg V hk) hx;unfold askB ntH;rw [if_neg (by decide),if_neg (by decide),if_pos rfl,h1,hh,Z9G (Z9M h1)]
  rfl
 ·refine⟨0,⟨0,0⟩,rfl,?_⟩
  unfold askB notB;rw [if_neg (by omega),if_neg (by omega),if_neg (by omega),if_pos hK]
  rfl
theorem ZaL {m:Msn} {l:List Int} {k:Nat} {K:Int} {v:Value} {cs:Array Value} {er:Int} (h:ShowQ m l k K v cs er):er=0\/(er=20/\(K=1\/K=5)):=by
 rcases h with⟨rfl,-,rfl,hf⟩ | ⟨rfl,j,-,hf,-,rfl⟩ | ⟨-,rfl,-⟩ | ⟨-,rfl,-⟩
 ·exact (Z4M hf).1.imp id fun h=>⟨h,.inl rfl⟩
 ·exact (Z4M hf).1.imp id fun h=>⟨h,.inr rfl⟩
 ·exact .inl rfl
 ·exact .inl rfl
theorem bs_rf {m:Msn}:(rfB m=true/\bsB m=false/\plE m=0)\/(rfB m=false/\((plE m=1/\bsB m=false)\/(plE m=0/\bsB m=true))):=by
 unfold rfB bsB plE;cases validB m
 ·exact .inr ⟨rfl,.inl ⟨rfl,rfl⟩⟩
 ·by_cases h:(bestP m).1=((m.ways.length-1:Nat):Int)
  ·exact .inr ⟨by simp [h],.inr ⟨rfl,by simp [h]⟩⟩
  ·exact .inl ⟨by simp [h],by simp [h],rfl⟩
end
def cutM (m:Msn) (n:Nat):Msn:={ m with ways:=m.ways.take n }
def cutS (l:List Int) (n:Nat):List Int:=l.filter fun x=>decide (x<(n:Int))
section
variable {m:Msn} {n:Nat} (hn:n<=m.ways.length)
include hn
theorem Z0t:(cutM m n).ways.length=n:=by simp [cutM];omega
omit hn in
theorem Z1j {k:Nat} (hk:k<n):wy (cutM m n).ways k=wy m.ways k:=by
 simp only [wy,cutM,List.getD_eq_getElem?_getD,List.getElem?_take,hk,if_true]
omit hn in
theorem cut_d {i j:Nat} (hi:i<n) (hj:j<n):dLeg (cutM m n) i j=dLeg m i j:=by unfold dLeg;rw [Z1j hi,Z1j hj]
omit hn in
theorem cut_t {i j:Nat} (hi:i<n) (hj:j<n):tLeg (cutM m n) i j=tLeg m i j:=by unfold tLeg;rw [cut_d hi hj];rfl
omit hn in
theorem cut_g {i j:Nat} (hi:i<n) (hj:j<n):gLeg (cutM m n) i j=gLeg m i j:=by unfold gLeg;rw [cut_d hi hj];rfl
omit hn in
theorem cut_e {i j:Nat} (hi:i<n) (hj:j<n):eLeg (cutM m n) i j=eLeg m i j:=by unfold eLeg;rw [cut_d hi hj,cut_t hi hj];rfl
omit hn in
theorem Z5X {k:Nat} (hk:k<n):atW (cutM m n) k=atW m k:=by unfold atW;rw [Z1j hk]
omit hn in
theorem Z7p {l:List Int} {k:Nat} (hk:k<n):(k:Int) ∈ cutS l n↔(k:Int) ∈ l:=by
 simp only [cutS,List.mem_filter,decide_eq_true_eq];exact⟨fun h=>h.1,fun h=>⟨h,by omega⟩⟩
omit hn in
theorem Zai (l:List Int):∀ k,k<n->rdB (cutM m n) (cutS l n) k=rdB m l k/\rdA (cutM m n) (cutS l n) k=rdA m l k
 | 0,_=>⟨rfl,rfl⟩
 | k + 1, hk => by
  obtain⟨-,ia⟩:=Zai l k (by omega)
  have eb:rdB (cutM m n) (cutS l n) (k+1)=rdB m l (k+1):=by rw [Z0F,Z0F,ia,cut_g (by omega) hk]
  refine⟨eb,?_⟩;rw [Z0G,Z0G,eb,Z1j hk];simp only [Z7p (l:=l) hk]
omit hn in
theorem ZbQ (l:List Int):∀ k,k<n->usT (cutM m n) (cutS l n) k=usT m l k/\usE (cutM m n) (cutS l n) k=usE m l k
 | 0,_=>⟨rfl,rfl⟩
 | k + 1, hk => by
  obtain⟨it,ie⟩:=ZbQ l k (by omega)
  have ew:waitT (cutM m n) (cutS l n) k=waitT m l k:=by unfold waitT;rw [Z1j (show k<n by omega)];simp only [Z7p (l:=l) (show k<n by omega)]
  simp only [usT,usE,it,ie,ew,cut_t (show k<n by omega) hk,cut_e (show k<n by omega) hk]
  exact⟨trivial,rfl⟩
theorem Zbp (hw:waysB m.ways=true):waysB (cutM m n).ways=true:=by
 refine decide_eq_true fun j hj=>?_
 rw [Z0t hn] at hj;rw [Z1j hj];exact Z06 hw (by omega)
omit hn in
theorem Z7F (hn:n<=m.ways.length) (hw:waysB m.ways=true):∀ f k,k<n->depF (cutM m n) f k=depF m f k
 | 0,_,_=>rfl
 | f + 1, k, hk => by
  simp only [depF];by_cases h0:k=0
  ·rw [if_pos h0,if_pos h0]
  ·rw [if_neg h0,if_neg h0,Z1j hk]
   have:=Z3O hw (k:=k) (by omega) (by omega)
   rw [Z7F hn hw f _ (by omega)]
omit hn in
theorem Z4h (hw:waysB m.ways=true) {a:Nat} (ha:a<m.ways.length):∀ j,j<=dep m a->itB m a j<=a
 | 0,_=>qN _
 | j + 1, h => by
  have:=Z9B hw ha (j:=j) (by omega)
  have:=Z4h hw ha j (by omega)
  omega
theorem Z3H (hw:waysB m.ways=true) {a:Nat} (ha:a<n):∀ j,j<=dep m a->itB (cutM m n) a j=itB m a j
 | 0,_=>rfl
 | j + 1, h => by
  have ih:=Z3H hw ha j (by omega)
  have:=Z4h hw (a:=a) (by omega) j (by omega)
  show (wy (cutM m n).ways (itB (cutM m n) a j)).back.toNat=(wy m.ways (itB m a j)).back.toNat
  rw [ih,Z1j (by omega)]
theorem ZbR (hw:waysB m.ways=true) {a:Nat} (ha:a<n) (r:Int):∀ j,j<=dep m a->bkR (cutM m n) a r j=bkR m a r j/\bkC (cutM m n) a r j=bkC m a r j
 | 0,_=>⟨rfl,rfl⟩
 | j + 1, h => by
  obtain⟨i1,i2⟩:=ZbR hw ha r j (by omega)
  have l1:=Z4h hw (a:=a) (by omega) j (by omega)
  have l2:=Z4h hw (a:=a) (by omega) (j+1) h
  have e1:bkR (cutM m n) a r (j+1)=bkR m a r (j+1):=by
   show bkR (cutM m n) a r j+gLeg (cutM m n) (itB (cutM m n) a j) (itB (cutM m n) a (j+1))=bkR m a r j+gLeg m (itB m a j) (itB m a (j+1))
   rw [i1,Z3H hn hw ha j (by omega),Z3H hn hw ha (j+1) h,cut_g (by omega) (by omega)]
  refine⟨e1,?_⟩
  show (bkC (cutM m n) a r j && clrB (cutM m n) (itB (cutM m n) a j) (bkR (cutM m n) a r j) (itB (cutM m n) a (j+1)) (bkR (cutM m n) a r (j+1)))=(bkC m a r j && clrB m (itB m a j) (bkR m a r j) (itB m a (j+1)) (bkR m a r (j+1)))
  rw [i1,i2,e1,Z3H hn hw ha j (by omega),Z3H hn hw ha (j+1) h]
  unfold clrB;rw [Z5X (m:=m) (n:=n) (k:=itB m a j) (by omega),Z5X (m:=m) (n:=n) (k:=itB m a (j+1)) (by omega)]
  rfl
theorem Z7E (hw:waysB m.ways=true) {a:Nat} (ha:a<n):∀ j,j<=dep m a->homeT (cutM m n) a j=homeT m a j/\homeE (cutM m n) a j=homeE m a j
 | 0,_=>⟨rfl,rfl⟩
 | j + 1, h => by
  obtain⟨i1,i2⟩:=Z7E hw ha j (by omega)
  have l1:=Z4h hw (a:=a) (by omega) j (by omega)
  have l2:=Z4h hw (a:=a) (by omega) (j+1) h
  simp only [homeT,homeE,i1,i2,Z3H hn hw ha j (by omega),Z3H hn hw ha (j+1) h,cut_t (show itB m a j<n by omega) (show itB m a (j+1)<n by omega),cut_e (show itB m a j<n by omega) (show itB m a (j+1)<n by omega)]
  exact⟨trivial,trivial⟩
theorem Z54 (hw:waysB m.ways=true) (l:List Int) {k:Nat} (hk:k+1<n):kindV (cutM m n) (cutS l n) k=kindV m l k:=by
 obtain⟨b1,b2⟩:=Zai (m:=m) (n:=n) l (k+1) hk;obtain⟨a1,a2⟩:=Zai (m:=m) (n:=n) l k (by omega)
 obtain⟨u1,u2⟩:=ZbQ (m:=m) (n:=n) l (k+1) hk;have hd:dep (cutM m n) (k+1)=dep m (k+1):=Z7F hn hw _ _ hk;obtain⟨c1,c2⟩:=ZbR hn hw hk (rdB m l (k+1)) (dep m (k+1)) (qN _);obtain⟨h1,h2⟩:=Z7E hn hw hk (dep m (k+1)) (qN _);unfold kindV;rw [b1,a2,u1,u2,hd,c1,c2,h1,h2];have e1:clrB (cutM m n) k (rdA m l k) (k+1) (rdB m l (k+1))=clrB m k (rdA m l k) (k+1) (rdB m l (k+1)):=by
  unfold clrB;rw [Z5X (m:=m) (n:=n) (k:=k) (by omega),Z5X (m:=m) (n:=n) hk];rfl
 have e2:∀ r,lieB (cutM m n) r=lieB m r:=fun r=>by unfold lieB;rw [Z5X (m:=m) (n:=n) (k:=0) (by omega)];rfl
 rw [e1,e2]
 rfl
theorem Zaj (V:VMsn m) (h2:2<=n):grownV (cutM m n)<=100000:=by
 have e:∀ k,k<n->grownTo (cutM m n) k=grownTo m k:=by
  intro k
  induction k with
  | zero=>intro _;rfl
  | succ k ih =>
   intro hk;have hb:=Z3O V.ways (k:=k+1) (by omega) (by omega)
   show grownTo (cutM m n) k+(gLeg (cutM m n) k (k+1)+gLeg (cutM m n) (k+1) (wy (cutM m n).ways (k+1)).back.toNat)=grownTo m k+(gLeg m k (k+1)+gLeg m (k+1) (wy m.ways (k+1)).back.toNat)
   rw [ih (by omega),Z1j hk,cut_g (by omega) hk,cut_g hk (by omega)]
 unfold grownV;rw [Z0t hn,e _ (by omega)]
 have a:=Z0J V.leg V.start V.ways (n-1) (m.ways.length-1) (by omega) (by omega)
 have:=V.grown;unfold grownV at this;omega
theorem Zag (hV:validB m=true) (h2:2<=n):validB (cutM m n)=true:=by
 have V:=(Zj m).1 hV;refine (Zj _).2 ⟨by rw [Z0t hn];exact h2,by rw [Z0t hn];have:=V.n41;omega,V.nr,Zbp hn V.ways,V.home,V.rocks,V.start,V.leg,V.idle,V.drive,V.battery,V.deadline,Zaj hn V h2⟩
theorem Zah {l:List Int} (hS:stopsB m l=true):stopsB (cutM m n) (cutS l n)=true:=by
 have hasc:l.Pairwise (·<·):=by
  rw [List.pairwise_iff_getElem];intro i j hi hj hij;have:=Z1v hS j i hij hj
  simpa [List.getD,List.getElem?_eq_getElem hi,List.getElem?_eq_getElem hj] using this
 refine Z5w (List.Pairwise.sublist List.filter_sublist hasc) fun x hx=>?_
 simp only [cutS,List.mem_filter,decide_eq_true_eq] at hx;obtain⟨k,hk,rfl⟩:=Z5y hx.1;obtain⟨p1,p2,p3⟩:=Z48 hS hk;rw [Z0t hn,Z1j (by omega)]
 exact⟨p1,hx.2,p3⟩
theorem Zbq (hw:waysB m.ways=true) (h2:2<=n) (l:List Int):(leadN m l<n-1->leadN (cutM m n) (cutS l n)=leadN m l)/\(¬ leadN m l<n-1->leadN (cutM m n) (cutS l n)=n-1):=by
 obtain⟨p1,p2,p3⟩:=Z0x m l;constructor
 ·intro h
  refine Z1w (by rw [Z0t hn];omega) (fun j hj=>?_) (fun _=>?_)
  ·rw [Z54 hn hw l (by omega)];exact p2 j hj
  ·rw [Z54 hn hw l (by omega)];exact p3 (by omega)
 ·intro h
  refine Z1w (by rw [Z0t hn];omega) (fun j hj=>?_) (fun h3=>by rw [Z0t hn] at h3;omega)
  rw [Z54 hn hw l (by omega)];exact p2 j (by omega)
end
end Go.Proofs.YthipcinibldgnaaGreat
