/- the example of the top's laws, walked. | what the top's laws want of plans, certificates and shorter missions. No program here. -/
import Derived.Test.YthipcinibldgnaaGreatBin34
open Go.Value renaming int->O,slice->qS
open Go.IntKind renaming i64->qL
open Go.Lib renaming hid->qH
open Go.World renaming setCell->qU,alloc->qV
set_option linter.unusedSimpArgs false
set_option linter.unusedVariables false
namespace Go.Proofs.YthipcinibldgnaaGreat
section
attribute [local irreducible] wpQuiet
open Go.RowKit
theorem ZaT (x y:Int) (w:World) :
  Calls Tryz.prog 60 #[O qL x,O qL y] w fun e w'=>e=.returned (.agg #[O qL x,O qL y])/\Below w.heap.size w w':=by
 go_enter Tryz.func60,Tryz.ntmps60;go_wp2;exact bodyPost_ret (v:=.agg #[O qL x,O qL y]) (by simp [results,Tryz.f60,go_sem]) rfl ⟨rfl,zB2⟩
theorem exP_at {W:World} {a b c d:Nat} (h1:Has W a #[O qL 0,O qL 0,O qL 0,O qL 0,O qL 0,O qL 100,O qL 0,O qL 2,O qL 0,O qL 0,O qL 200,O qL 0,O qL 0,O qL 0,O qL 0] 65) (h2:Has W b #[O qL (-100),O qL (-100),O qL 100,O qL (-100),O qL 100,O qL 100,O qL (-100),O qL 100] 36) (h3:Has W c #[O qL 185,O qL 90,O qL 190,O qL 15,O qL 195,O qL 90] 36) (h4:Has W d #[qS (some ⟨c,0,none⟩) 3 3] 23) :
  MsnAt W.heap.size W (exP hmA) (qS (some ⟨a,0,none⟩) 3 3) (qS (some ⟨b,0,none⟩) 4 4) (qS (some ⟨d,0,none⟩) 1 1):=by
 refine⟨⟨by simp [exP],some ⟨a,0,none⟩,0,rfl,.inr ⟨a,0,rfl,h1.lt,fun j hj=>?_⟩⟩,Z7.has (l:=hmA) (cap:=0) h2 (by simp [hmA]) rfl,Z6.has (ls:=[roX]) (cap:=0) h4 (by simp) fun j hj=>?_⟩
 ·rcases (show j=0\/j=1\/j=2 by simp [exP] at hj;omega) with rfl | rfl | rfl
  ·exact⟨h1.cell (i:=0) rfl,h1.cell (i:=1) rfl,h1.cell (i:=2) rfl,h1.cell (i:=3) rfl,h1.cell (i:=4) rfl⟩
  ·exact⟨h1.cell (i:=5) rfl,h1.cell (i:=6) rfl,h1.cell (i:=7) rfl,h1.cell (i:=8) rfl,h1.cell (i:=9) rfl⟩
  ·exact⟨h1.cell (i:=10) rfl,h1.cell (i:=11) rfl,h1.cell (i:=12) rfl,h1.cell (i:=13) rfl,h1.cell (i:=14) rfl⟩
 ·obtain rfl:j=0:=by simp at hj;omega
  exact⟨_,rfl,Z7.has (l:=roX) (cap:=0) h3 (by simp [roX]) rfl⟩
theorem exQ_at {W:World} {a b c d:Nat} (h1:Has W a #[O qL 0,O qL 0,O qL 0,O qL 0,O qL 0,O qL 100,O qL 0,O qL 0,O qL 0,O qL 0,O qL 200,O qL 0,O qL 0,O qL 0,O qL 0] 65) (h2:Has W b #[O qL (-100),O qL (-100),O qL 100,O qL (-100),O qL 100,O qL 100,O qL (-100),O qL 100] 36) (h3:Has W c #[O qL 185,O qL 90,O qL 190,O qL 15,O qL 195,O qL 90] 36) (h4:Has W d #[qS (some ⟨c,0,none⟩) 3 3] 23) :
  MsnAt W.heap.size W exQ (qS (some ⟨a,0,none⟩) 3 3) (qS (some ⟨b,0,none⟩) 4 4) (qS (some ⟨d,0,none⟩) 1 1):=by
 refine⟨⟨by simp [exQ],some ⟨a,0,none⟩,0,rfl,.inr ⟨a,0,rfl,h1.lt,fun j hj=>?_⟩⟩,Z7.has (l:=hmA) (cap:=0) h2 (by simp [hmA]) rfl,Z6.has (ls:=[roX]) (cap:=0) h4 (by simp) fun j hj=>?_⟩
 ·rcases (show j=0\/j=1\/j=2 by simp [exQ] at hj;omega) with rfl | rfl | rfl
  ·exact⟨h1.cell (i:=0) rfl,h1.cell (i:=1) rfl,h1.cell (i:=2) rfl,h1.cell (i:=3) rfl,h1.cell (i:=4) rfl⟩
  ·exact⟨h1.cell (i:=5) rfl,h1.cell (i:=6) rfl,h1.cell (i:=7) rfl,h1.cell (i:=8) rfl,h1.cell (i:=9) rfl⟩
  ·exact⟨h1.cell (i:=10) rfl,h1.cell (i:=11) rfl,h1.cell (i:=12) rfl,h1.cell (i:=13) rfl,h1.cell (i:=14) rfl⟩
 ·obtain rfl:j=0:=by simp at hj;omega
  exact⟨_,rfl,Z7.has (l:=roX) (cap:=0) h3 (by simp [roX]) rfl⟩
theorem set11 {X Z:World} {B:Nat} {cs:Array Value} {T:TypeId} {v0 v1 v2 v3 v4 v5 v6 v7 v8 v9 v10:Value} (H:Has X B cs T) (hs:cs.size=11) (hz:(((((((((((X.setCell ⟨B,0,none⟩ v0).setCell ⟨B,1,none⟩ v1).setCell ⟨B,2,none⟩ v2).setCell ⟨B,3,none⟩ v3).setCell ⟨B,4,none⟩ v4).setCell ⟨B,5,none⟩ v5).setCell ⟨B,6,none⟩ v6).setCell ⟨B,7,none⟩ v7).setCell ⟨B,8,none⟩ v8).setCell ⟨B,9,none⟩ v9).setCell ⟨B,10,none⟩ v10)=Z) :
  Has Z B #[v0,v1,v2,v3,v4,v5,v6,v7,v8,v9,v10] T/\(∀ n,n<=B->Below n X Z)/\Z.heap.size=X.heap.size/\∀ b,b≠B->Z.heap[b]?=X.heap[b]?:=by
 subst hz;obtain⟨l,rfl⟩:∃ l:List Value,cs=l.toArray:=⟨cs.toList,by simp⟩
 obtain⟨u0,u1,u2,u3,u4,u5,u6,u7,u8,u9,u10,rfl⟩:∃ u0 u1 u2 u3 u4 u5 u6 u7 u8 u9 u10,l=[u0,u1,u2,u3,u4,u5,u6,u7,u8,u9,u10]:=by
  match l,hs with
  | [u0,u1,u2,u3,u4,u5,u6,u7,u8,u9,u10],_=>exact⟨_,_,_,_,_,_,_,_,_,_,_,rfl⟩
 refine⟨?_,fun n hn=>?_,by simp,fun b hb=>?_⟩
 ·have:=(((((((((((H.set 0 v0).set 1 v1).set 2 v2).set 3 v3).set 4 v4).set 5 v5).set 6 v6).set 7 v7).set 8 v8).set 9 v9).set 10 v10)
  simpa only [zq4,zr4,zs4] using this
 ·exact ((((((((((((Below.refl n X).setCell (p:=⟨B,0,none⟩) hn v0).setCell (p:=⟨B,1,none⟩) hn v1).setCell (p:=⟨B,2,none⟩) hn v2).setCell (p:=⟨B,3,none⟩) hn v3).setCell (p:=⟨B,4,none⟩) hn v4).setCell (p:=⟨B,5,none⟩) hn v5).setCell (p:=⟨B,6,none⟩) hn v6).setCell (p:=⟨B,7,none⟩) hn v7).setCell (p:=⟨B,8,none⟩) hn v8).setCell (p:=⟨B,9,none⟩) hn v9).setCell (p:=⟨B,10,none⟩) hn v10)
 ·iterate 11 (rw [Below.heap_setCell _ _ _ _ (by exact hb)])
set_option maxRecDepth 8000 in
set_option maxHeartbeats 3200000 in
theorem ZaI (w:World):Calls Tryz.prog 28 #[] w fun e w'=>∃ a b c d,e=.returned (.agg (Zc (exP hmA) (qS (some ⟨a,0,none⟩) 3 3) (qS (some ⟨b,0,none⟩) 4 4) (qS (some ⟨d,0,none⟩) 1 1)))/\Has w' a #[O qL 0,O qL 0,O qL 0,O qL 0,O qL 0,O qL 100,O qL 0,O qL 2,O qL 0,O qL 0,O qL 200,O qL 0,O qL 0,O qL 0,O qL 0] 65/\Has w' b #[O qL (-100),O qL (-100),O qL 100,O qL (-100),O qL 100,O qL 100,O qL (-100),O qL 100] 36/\Has w' c #[O qL 185,O qL 90,O qL 190,O qL 15,O qL 195,O qL 90] 36/\Has w' d #[qS (some ⟨c,0,none⟩) 3 3] 23/\(w.heap.size<=a/\b≠a/\c≠a/\d≠a)/\Below w.heap.size w w':=by
 have f1:=qH (fun x y w1=>ZaT x y w1)
 have BW:=qH (Below.refl w.heap.size w);go_enter Tryz.func28,Tryz.ntmps28;go_wp2_with fail;generalize hXX0:qV w _=X0;obtain⟨q0,hA,hzX0⟩:=box1 hXX0;clear hXX0;have BW:=qH hA;clear hA;have RV:=qH q0;clear q0;refine (f1.out (-100) (-100) X0).mono ?_;rintro e w1 ⟨rfl,b1⟩;replace BW:=zAf BW b1;have B_X0:=qH b1;clear b1;go_wp2_with fail;refine (f1.out 100 (-100) w1).mono ?_;rintro e w2 ⟨rfl,b2⟩;replace BW:=zAf BW b2;replace B_X0:=zAf B_X0 b2;clear b2;go_wp2_with fail;refine (f1.out 100 100 w2).mono ?_;rintro e w3 ⟨rfl,b3⟩;replace BW:=zAf BW b3;replace B_X0:=zAf B_X0 b3;clear b3;go_wp2_with fail;refine (f1.out (-100) 100 w3).mono ?_;rintro e w4 ⟨rfl,b4⟩;replace BW:=zAf BW b4;replace B_X0:=zAf B_X0 b4;clear b4;have nh:=qH (show w.heap.size<w4.heap.size by have:=B_X0.out.size;omega)
 go_upto_region 2 with fail
 generalize hXX1:qV w4 _=X1;obtain⟨q0,hA,hzX1⟩:=box1 hXX1;clear hXX1;replace BW:=zAf BW hA;replace B_X0:=zAf B_X0 hA;clear hA;have HB:=qH q0;clear q0;go_wp2_with fail;refine (f1.out 185 90 X1).mono ?_;rintro e w5 ⟨rfl,b5⟩;replace BW:=zAf BW b5;replace B_X0:=zAf B_X0 b5;have B_X1:=qH b5;clear b5;go_wp2_with fail;refine (f1.out 190 15 w5).mono ?_;rintro e w6 ⟨rfl,b6⟩;replace BW:=zAf BW b6;replace B_X0:=zAf B_X0 b6;replace B_X1:=zAf B_X1 b6;clear b6;go_wp2_with fail;refine (f1.out 195 90 w6).mono ?_;rintro e w7 ⟨rfl,b7⟩;replace BW:=zAf BW b7;replace B_X0:=zAf B_X0 b7;replace B_X1:=zAf B_X1 b7;clear b7;have nk:=qH (show w.heap.size<w7.heap.size by have:=B_X0.out.size;omega)
 go_upto_region 3 with fail
 generalize hXX2:qV w7 _=X2;obtain⟨q0,hA,hzX2⟩:=box1 hXX2;clear hXX2;replace BW:=zAf BW hA;replace B_X0:=zAf B_X0 hA;replace B_X1:=zAf B_X1 hA;clear hA;have KB:=qH q0;clear q0;go_wp2_with fail;refine (f1.out 100 0 X2).mono ?_;rintro e w8 ⟨rfl,b8⟩;replace BW:=zAf BW b8;replace B_X0:=zAf B_X0 b8;replace B_X1:=zAf B_X1 b8;have B_X2:=qH b8;clear b8;go_wp2_with fail;refine (f1.out 200 0 w8).mono ?_;rintro e w9 ⟨rfl,b9⟩;replace BW:=zAf BW b9;replace B_X0:=zAf B_X0 b9;replace B_X1:=zAf B_X1 b9;replace B_X2:=zAf B_X2 b9;clear b9 hzX1 hzX2;have hR:=(zCl RV B_X0);have ltR:=hR.lt;have HB9:=qH (zCl HB B_X1);have KB9:=qH (zCl KB B_X2);have bl:=qH HB9.out.lt;have kl:=qH KB9.out.lt;have r0:=hR.cell (i:=0) rfl;have z0:=Ze hR 0;have r1:=hR.cell (i:=1) rfl;have z1:=Ze hR 1;have r2:=hR.cell (i:=2) rfl;have z2:=Ze hR 2;have r3:=hR.cell (i:=3) rfl;have z3:=Ze hR 3;have r4:=hR.cell (i:=4) rfl;have z4:=Ze hR 4;have r5:=hR.cell (i:=5) rfl;have z5:=Ze hR 5;have r6:=hR.cell (i:=6) rfl;have z6:=Ze hR 6;have r7:=hR.cell (i:=7) rfl;have z7:=Ze hR 7;have r8:=hR.cell (i:=8) rfl;have z8:=Ze hR 8;have r9:=hR.cell (i:=9) rfl;have z9:=Ze hR 9;have r10:=hR.cell (i:=10) rfl;have z10:=Ze hR 10;have HR:=qH hR;clear hR;go_wp2;clear r0 z0 r1 z1 r2 z2 r3 z3 r4 z4 r5 z5 r6 z6 r7 z7 r8 z8 r9 z9 r10 z10;generalize hZ:qU (qU (qU (qU (qU (qU (qU (qU (qU (qU (qU w9 _ _) _ _) _ _) _ _) _ _) _ _) _ _) _ _) _ _) _ _) _ _=Z;obtain⟨HZ,hl2,hs2,he2⟩:=set11 HR.out rfl hZ;clear hZ;generalize hX9:qV (qV Z _) _=X;obtain⟨q0,q1,hA,-⟩:=box2 hX9;clear hX9;have ltZ:w.heap.size<Z.heap.size:=HZ.lt;have hR:=HZ.below hA ltZ;have hH:=(Has.eq HB9.out he2 (by have:=nh.out;omega)).below hA (by rw [hs2];exact HB9.out.lt)
 have hK:=(Has.eq KB9.out he2 (by have:=nk.out;omega)).below hA (by rw [hs2];exact KB9.out.lt)
 have BX:=BW.out.trans ((hl2 w.heap.size (Nat.le_refl _)).trans (hA.mono (by omega)))
 have nb:=bl.out;have nc:=kl.out;rw [hs2] at q0 q1;have r0:=hR.cell (i:=0) rfl;have r1:=hR.cell (i:=1) rfl;have r2:=hR.cell (i:=2) rfl;have r3:=hR.cell (i:=3) rfl;have r4:=hR.cell (i:=4) rfl;have r5:=hR.cell (i:=5) rfl;have r6:=hR.cell (i:=6) rfl;have r7:=hR.cell (i:=7) rfl;have r8:=hR.cell (i:=8) rfl;have r9:=hR.cell (i:=9) rfl;have r10:=hR.cell (i:=10) rfl;exact bodyPost_ret (v:=.agg (Zc (exP hmA) _ _ _)) (by simp [results,Zc,exP,Tryz.f28,go_sem,r0,r1,r2,r3,r4,r5,r6,r7,r8,r9,r10]) rfl ⟨_,_,_,_,rfl,q0,hH,hK,q1,⟨by omega,by omega,by omega,by omega⟩,BX⟩
theorem Has.noslice {W:World} {B:Nat} {cs:Array Value} {T:TypeId} (h:Has W B cs T) (hi:∀ i:Nat,∀ a n c,cs[i]?≠some (qS a n c)) {i:Nat} {a:Option Addr} {n c:Nat} (hc:W.cell? ⟨B,i,none⟩=some (qS a n c)):False:=by
 simp only [World.cell?,show W.heap[B]?=_ from h] at hc
 exact hi i a n c (by simpa using hc)
theorem Z4p {n:Nat} {W:World} {c:Crt} {v1 v2 v3:Value} (h:CrtAt n W c v1 v2 v3):∃ a1 n1 c1 a2 n2 c2 a3 n3 c3,v1=qS a1 n1 c1/\v2=qS a2 n2 c2/\v3=qS a3 n3 c3:=by
 obtain⟨⟨-,a1,c1,h1,-⟩,⟨-,a2,c2,h2,-⟩,⟨-,a3,c3,h3,-⟩⟩:=h;exact⟨_,_,_,_,_,_,_,_,_,h1,h2,h3⟩
theorem Zba {W:World} {B:Nat} {x:Int} {T:TypeId} (h:Has W B #[O qL x] T):Z8 W.heap.size W (qS (some ⟨B,0,none⟩) 1 1) [x]:=by
 refine⟨by simp,some ⟨B,0,none⟩,0,rfl,.inr ⟨B,0,rfl,h.lt,fun j hj=>?_⟩⟩
 obtain rfl:j=0:=by simp at hj;omega
 exact h.cell (i:=0) rfl
theorem Z8s (W:World) (a:Addr) (v:Value):W.grownBy (W.setCell a v) (some a.block):=⟨rfl,rfl,rfl,by simp [qU],fun k _ hk=>Below.heap_setCell _ _ _ k (fun e=>hk (by rw [e]))⟩
theorem Z7W (vw vh vr:Value) (w:World) (hm:MsnAt w.heap.size w exQ vw vh vr):Calls Tryz.prog 10 #[.agg (Zc exQ vw vh vr)] w fun e w'=>∃ v x y,e=.returned (.tuple #[.agg #[v,O qL 1,O qL 1,O qL 0,O qL x,O qL y],.bool true,O qL 0])/\Z8 w'.heap.size w' v []/\Below w.heap.size w w'/\brB exQ [] 1 1 0 ⟨x,y⟩=true:=by
 obtain⟨h1,h2⟩:=Zcw;refine (Z5b _ vw vh vr w hm (by show 3<=13;decide) h1).mono ?_
 rintro e w' ⟨v,cs,er,hq,hi,hb,rfl⟩;rw [h2,Z2Y,Za8] at hq;rw [h2] at hi;have he:er=0:=by
  rcases hq with⟨-,-,rfl,-⟩ | ⟨h,-⟩ | ⟨h,-⟩ | ⟨h,-⟩
  ·exact Zcv
  ·exact absurd h (by decide)
  ·exact absurd h (by decide)
  ·exact absurd h (by decide)
 subst he;rw [if_pos rfl];obtain⟨r,x,rfl,ha⟩:=Z79 ((Zj _).1 Z3A) (by show 1+1<3;decide) hq
 have h3:onR exQ r x=true/\hasB (ownC exQ [] 1) x=true:=by simpa [askB,inO] using ha
 have hr:r=0:=by
  have h4:=h3.1;unfold onR at h4;simp only [Bool.and_eq_true,decide_eq_true_eq] at h4;have:exQ.rocks.length=1:=rfl;omega
 subst hr;refine⟨v,x.x,x.y,rfl,hi,hb,?_⟩;obtain⟨k1,k2⟩:=Za7;unfold brB;rw [Z7y,k1,k2,Z2Y,ha]
 rfl
theorem Z7V (m:Msn) (vw vh vr:Value) (w:World) (hm:MsnAt w.heap.size w m vw vh vr) (hV:validB m=true) (h13:m.ways.length<=13) :
  Calls Tryz.prog 10 #[.agg (Zc m vw vh vr)] w fun e w'=>∃ (sa:Option Addr) (sn sc:Nat) (k K r x y:Int) (b:Bool) (er:Int),e=.returned (.tuple #[.agg #[qS sa sn sc,O qL k,O qL K,O qL r,O qL x,O qL y],.bool b,O qL er])/\Below w.heap.size w w' /\
   ((rfB m=false/\er=0/\b=false)\/(rfB m=true/\er=20/\b=false)\/(rfB m=true/\er=0/\b=true/\k=(leadN m (rfL m):Int)/\Z8 w'.heap.size w' (qS sa sn sc) (rfL m)/\brB m (rfL m) k K r ⟨x,y⟩=true)):=by
 cases hr:rfB m
 ·exact (ZaB m vw vh vr w hm h13 hr).mono fun e w' ⟨h1,h2⟩=>⟨none,0,0,0,0,0,0,0,false,_,h1,h2,.inl ⟨rfl,by unfold plE;rw [if_pos hV],rfl⟩⟩
 ·obtain⟨-,hok,hk,-,e2,e3,-⟩:=Z01 hr
  refine (Z5b m vw vh vr w hm h13 hr).mono ?_;rintro e w' ⟨v,cs,er,hq,hi,hb,rfl⟩;have hi':=hi;obtain⟨-,sa,sc,hv,-⟩:=hi';rcases ZaL hq with rfl | ⟨rfl,-⟩
  ·obtain⟨r,x,rfl,ha⟩:=Z79 ((Zj _).1 hV) hk hq
   rw [if_pos rfl];subst hv;refine⟨sa,_,_,_,_,r,x.x,x.y,true,0,rfl,hb,.inr (.inr ⟨rfl,rfl,rfl,rfl,hi,?_⟩)⟩;unfold brB;rw [hok,e2,e3,ha];simp
  ·rw [if_neg (by decide)]
   exact⟨none,0,0,0,0,0,0,0,false,20,rfl,hb,.inr (.inl ⟨rfl,rfl,rfl⟩)⟩
set_option maxRecDepth 8000 in
set_option maxHeartbeats 6400000 in
theorem Z6t (w:World):Calls Tryz.prog 5 #[] w fun e w'=>e=.returned (.bool true)/\Below w.heap.size w w':=by
 have fx:=qH (fun w1=>ZaI w1)
 have BW:=qH (Below.refl w.heap.size w);go_enter Tryz.func5,Tryz.ntmps5;go_wp2_with fail;refine (fx.out w).mono ?_;rintro e w1 ⟨a,b,c,d,rfl,ha,hb,hc,hd,⟨n0,n1,n2,n3⟩,b1⟩;have BW:=qH b1;clear b1;have HA:=qH ha;clear ha;have HB:=qH hb;clear hb;have HC:=qH hc;clear hc;have HD:=qH hd;clear hd;simp only [Zc,exP];have NN:=qH (And.intro n0 (And.intro n1 (And.intro n2 n3)));clear n0 n1 n2 n3;have MM:=qH (exP_at HA.out HB.out HC.out HD.out);go_wp2_with fail;generalize hXX1:qV w1 _=X1;obtain⟨q0,hA,hzX1⟩:=box1 hXX1;clear hXX1;replace BW:=zAf BW hA;have B_w1:=qH hA;clear hA;have MB:=qH q0;clear q0 hzX1;obtain⟨c0,c1,c2,c3,c4,c5,c6,c7,c8,c9,c10⟩:=Zg (m:=exP hmA) MB.out;have ltMB:=MB.out.lt;have g1:=Z5d (exP hmA) _ _ _ X1 ((MM.out.below B_w1.out).mono B_w1.out.size) (by rw [Z1O];decide)
 simp only [Z6O.1,Z6O.2.1,Z6O.2.2.1] at g1;refine (g1).mono ?_;rintro e w2 ⟨v1,rfl,p1,b2,n1'⟩;replace BW:=zAf BW b2;replace B_w1:=zAf B_w1 b2;have B_X1:=qH b2;clear b2;have P1:=qH p1;clear p1 g1;have NB:=qH n1';clear n1';obtain⟨-,ga,gk,hv1,-⟩:=P1.out;subst hv1;clear c0 c1 c2 c3 c4 c5 c6 c7 c8 c9 c10 ltMB;obtain⟨c0,c1,c2,c3,c4,c5,c6,c7,c8,c9,c10⟩:=Zg (m:=exP hmA) (zCl MB B_X1);have ltMB:=(zCl MB B_X1).lt;go_wp2_with fail;have g2:=Z2U (exP hmA) _ _ _ _ [1] w2 ((MM.out.below B_w1.out).mono B_w1.out.size) P1.out (by simp)
 rw [Z2G.1] at g2;refine (g2).mono ?_;rintro e w3 ⟨v1,v2,v3,rfl,p2,b3⟩;replace BW:=zAf BW b3;replace B_w1:=zAf B_w1 b3;replace B_X1:=zAf B_X1 b3;have B_w2:=qH b3;clear b3;have CC:=qH p2;clear p2 g2;obtain⟨ca1,cn1,cc1,ca2,cn2,cc2,ca3,cn3,cc3,rfl,rfl,rfl⟩:=Z4p CC.out;have yw3:=B_X1.out.size;go_upto_region 4 with fail
 generalize hXX3:qV w3 _=X3;obtain⟨q0,hA,hzX3⟩:=box1 hXX3;clear hXX3;replace BW:=zAf BW hA;replace B_w1:=zAf B_w1 hA;replace B_X1:=zAf B_X1 hA;replace B_w2:=zAf B_w2 hA;have B_w3:=qH hA;clear hA;have CB:=qH q0;clear q0 hzX3 c0 c1 c2 c3 c4 c5 c6 c7 c8 c9 c10 ltMB;obtain⟨c0,c1,c2,c3,c4,c5,c6,c7,c8,c9,c10⟩:=Zg (m:=exP hmA) (zCl MB B_X1);have ltMB:=(zCl MB B_X1).lt;have hk:=CB.out;have k0':=hk.cell (i:=0) rfl;have k1':=hk.cell (i:=1) rfl;have k2':=hk.cell (i:=2) rfl;go_wp2_with fail;have g3:=Z65 (exP hmA) _ _ _ (mkC (exP hmA) [1]) _ _ _ X3 ((MM.out.below B_w1.out).mono B_w1.out.size) ((CC.out.below B_w3.out).mono B_w3.out.size);rw [(Z2R Z2G.1).1,(Z2R Z2G.1).2] at g3;refine (g3).mono ?_;rintro e w4 ⟨rfl,b4⟩;replace BW:=zAf BW b4;replace B_w1:=zAf B_w1 b4;replace B_X1:=zAf B_X1 b4;replace B_w2:=zAf B_w2 b4;replace B_w3:=zAf B_w3 b4;have B_X3:=qH b4;clear b4 g3 c0 c1 c2 c3 c4 c5 c6 c7 c8 c9 c10 ltMB hk k0' k1' k2';have hA:=(zCl HA B_w1);have hMB:=(zCl MB B_X1);have l0:w4.cell? ⟨w1.heap.size,0,none⟩=some (qS (some ⟨a,0,none⟩) 3 3):=hMB.cell (i:=0) rfl;have l1:=hA.cell (i:=7) rfl;have l2:=Ze hA 7;have zA:=hA.lt;obtain⟨-,⟨-,pa,pk,hvp,hpc⟩,-⟩:=((CC.out.below B_w3.out).mono B_w3.out.size);simp only [Z2G.2.1,Value.slice.injEq] at hvp;obtain⟨rfl,rfl,rfl⟩:=hvp;obtain⟨pb,po,rfl,hpb,hpc⟩:=hpc.resolve_left (by intro h;have:=Z2G.2.1;rw [h] at this;exact absurd this (by decide))
 obtain⟨u0,hu0,hu1,-⟩:=hpc 0 (by rw [Z2G.2.1];decide)
 obtain⟨-,ua,uc,rfl,-⟩:=hu1;obtain⟨-,-,-,-,hp2,-⟩:=hpc 1 (by rw [Z2G.2.1];decide)
 rw [Z2G.2.2] at hp2;have npa:pb≠a:=by
  rintro rfl;refine hA.noslice (fun i a n c h=>?_) hu0
  match i with
  | 0 | 1 | 2 | 3 | 4 | 5 | 6 | 7 | 8 | 9 | 10 | 11 | 12 | 13 | 14=>simp at h
  | i+15=>simp at h
 have aw:=HA.out.lt;have xw:=MB.out.lt;have yw:=B_X1.out.size;have HP:=qH (And.intro npa hp2);have HA9:=qH hA;have HB9:=qH (zCl HB B_w1);have HC9:=qH (zCl HC B_w1);have HD9:=qH (zCl HD B_w1);have MB9:=qH hMB;have CB9:=qH (zCl CB B_X3);have P19:=qH ((P1.out.below B_w2.out).mono B_w2.out.size);have AW:=qH (And.intro aw xw);clear hA hMB hpc hu0 hp2 npa hpb;go_upto_region 6 with fail
 clear l0 l1 l2;generalize hZ:qU w4 _ _=Z;have nx:∀ b,b≠a->(w4.setCell ⟨a,7,none⟩ (O qL 0)).heap[b]?=w4.heap[b]?:=fun b h=>Below.heap_setCell w4 ⟨a,7,none⟩ (O qL 0) b h
 have s1:=HA9.out.set 7 (O qL 0);have s2:=(nx b NN.out.2.1).trans HB9.out;have s3:=(nx c NN.out.2.2.1).trans HC9.out;have s4:=(nx d NN.out.2.2.2).trans HD9.out;have s5:=(nx _ (by have:=AW.out.1;omega)).trans MB9.out
 have s6:=(nx _ (by have:=AW.out;have:=yw3;omega)).trans CB9.out
 have s7:=Z8.offG P19.out (Z8s w4 ⟨a,7,none⟩ (O qL 0)) (fun r e=>.inr fun e2=>by have h1:=NB.out _ e2;have h2:a=r:=(by simpa using e);have:=AW.out;omega)
 have s8:=BW.out.setCell (p:=⟨a,7,none⟩) NN.out.1 (O qL 0);have s9:(w4.setCell ⟨a,7,none⟩ (O qL 0)).cell? ⟨pb,po+1*5+2,none⟩=some (O qL 12):=by
  have:=HP.out.2;simp only [World.cell?,nx pb HP.out.1] at this ⊢;exact this
 rw [hZ] at s1 s2 s3 s4 s5 s6 s7 s8 s9;clear hZ nx;simp only [zq4,zr4,zs4] at s1;replace BW:=qH s8;have NA:=qH (show Has Z a _ _ from s1)
 have MQ:=qH (exQ_at (show Has Z a _ _ from s1) (show Has Z b _ _ from s2) (show Has Z c _ _ from s3) (show Has Z d _ _ from s4))
 have MZ:=qH (show Has Z _ _ _ from s5)
 have CZ:=qH (show Has Z _ _ _ from s6)
 have PZ:=qH s7;have HS:=qH s9;have hpz:=qH (show pb<Z.heap.size from World.block_lt_of_cell? _ _ s9)
 clear s1 s2 s3 s4 s5 s6 s7 s8 s9 NA HA HB HC HD MM HA9 HB9 HC9 HD9 MB9 CB9 P19 MB CB P1 CC HP AW NN NB B_w1 B_X1 B_w2 B_w3 B_X3 aw xw yw yw3 zA;obtain⟨c0,c1,c2,c3,c4,c5,c6,c7,c8,c9,c10⟩:=Zg (m:=exQ) MZ.out;have ltMZ:=MZ.out.lt;go_wp2_with fail;have g4:=Z2U exQ _ _ _ (qS none 0 0) [] Z MQ.out (Z8.nil _ _) (by simp)
 rw [Zbk] at g4;refine (g4).mono ?_;rintro e w5 ⟨v4,v5,v6,rfl,p4,b5⟩;replace BW:=zAf BW b5;have B_Z:=qH b5;clear b5 g4;obtain⟨da1,dn1,dc1,da2,dn2,dc2,da3,dn3,dc3,rfl,rfl,rfl⟩:=Z4p p4;clear p4 c0 c1 c2 c3 c4 c5 c6 c7 c8 c9 c10 ltMZ;go_upto_region 7 with fail
 generalize hXX6:qV w5 _=X6;obtain⟨-,hA,hzX6⟩:=box1 hXX6;clear hXX6;replace BW:=zAf BW hA;replace B_Z:=zAf B_Z hA;clear hA hzX6;obtain⟨c0,c1,c2,c3,c4,c5,c6,c7,c8,c9,c10⟩:=Zg (m:=exQ) (zCl MZ B_Z);have ltMZ:=(zCl MZ B_Z).lt;go_wp2_with fail;refine (Z7W _ _ _ X6 ((MQ.out.below B_Z.out).mono B_Z.out.size)).mono ?_;rintro e w6 ⟨v7,x7,y7,rfl,p7,b6,hbr⟩;replace BW:=zAf BW b6;replace B_Z:=zAf B_Z b6;clear b6;have P7:=qH p7;clear p7;obtain⟨-,g7,e7,hv7,-⟩:=P7.out;rw [List.length_nil,Nat.zero_add] at hv7;subst hv7;have HBR:=qH hbr;clear hbr c0 c1 c2 c3 c4 c5 c6 c7 c8 c9 c10 ltMZ;go_upto_region 8 with fail
 generalize hXX7:qV w6 _=X7;obtain⟨q0,hA,hzX7⟩:=box1 hXX7;clear hXX7;replace BW:=zAf BW hA;replace B_Z:=zAf B_Z hA;have B_w6:=qH hA;clear hA;have SB:=qH q0;clear q0 hzX7;obtain⟨c0,c1,c2,c3,c4,c5,c6,c7,c8,c9,c10⟩:=Zg (m:=exQ) (zCl MZ B_Z);have ltMZ:=(zCl MZ B_Z).lt;have s0:=SB.out.cell (i:=0) rfl;have s1:=SB.out.cell (i:=1) rfl;have s2:=SB.out.cell (i:=2) rfl;have s3:=SB.out.cell (i:=3) rfl;have s4:=SB.out.cell (i:=4) rfl;have s5:=SB.out.cell (i:=5) rfl;go_wp2_with fail;have g8:=Z4w exQ _ _ _ _ [] 1 1 0 ⟨x7,y7⟩ X7 ((MQ.out.below B_Z.out).mono B_Z.out.size) ((P7.out.below B_w6.out).mono B_w6.out.size);rw [HBR.out,(kp_of Z7y).2.2] at g8;refine (g8).mono ?_;rintro e w7 ⟨rfl,b7⟩;replace BW:=zAf BW b7;replace B_Z:=zAf B_Z b7;replace B_w6:=zAf B_w6 b7;have B_X7:=qH b7;clear b7 g8 c0 c1 c2 c3 c4 c5 c6 c7 c8 c9 c10 ltMZ s0 s1 s2 s3 s4 s5;go_upto_region 10 with fail
 go_wp2_with fail;generalize hXX9:qV w7 _=X9;obtain⟨q0,hA,hzX9⟩:=box1 hXX9;clear hXX9;replace BW:=zAf BW hA;replace B_Z:=zAf B_Z hA;replace B_w6:=zAf B_w6 hA;replace B_X7:=zAf B_X7 hA;clear hA;have IB:=qH q0;clear q0 hzX9;have g9:=Z2l _ _ [1] [1] X9 ((PZ.out.below B_Z.out).mono B_Z.out.size) (Zba IB.out);rw [decide_eq_true (rfl:([1]:List Int)=[1])] at g9;refine (g9).mono ?_;rintro e w8 ⟨rfl,b8⟩;replace BW:=zAf BW b8;replace B_Z:=zAf B_Z b8;replace B_w6:=zAf B_w6 b8;replace B_X7:=zAf B_X7 b8;have B_X9:=qH b8;clear b8 g9;have hk:=(zCl CZ B_Z);have k0':=hk.cell (i:=0) rfl;have k1':=hk.cell (i:=1) rfl;have k2':=hk.cell (i:=2) rfl;have s0:=(zCl SB B_X7).cell (i:=0) rfl;have s1:=(zCl SB B_X7).cell (i:=1) rfl;have s2:=(zCl SB B_X7).cell (i:=2) rfl;have s3:=(zCl SB B_X7).cell (i:=3) rfl;have s4:=(zCl SB B_X7).cell (i:=4) rfl;have s5:=(zCl SB B_X7).cell (i:=5) rfl;have t1:=(B_Z.out.cell (p:=⟨pb,po+1*5+2,none⟩) hpz.out).trans HS.out;go_wp2;go_ret;exact⟨rfl,BW.out⟩
end
theorem Z2N {m:Msn} {s:List Int} (h:radOkB m s=true):(mkE m s=0/\kpL m s=(m.ways.length:Int)-1)\/(mkE m s≠0/\kpL m s≠(m.ways.length:Int)-1):=by
 have V:=(Zj m).1 (Z05 h).1;have n2:=V.n2;rw [Z3j h];by_cases he:kpL m s=((m.ways.length-1:Nat):Int)
 ·exact .inl ⟨by rw [Z9t h he];decide,by omega⟩
 ·refine .inr ⟨?_,by omega⟩
  have k0:=Z23 h he;rcases kpk_in m s with e | e | e | e | e | e
  ·omega
  all_goals (rw [e];decide)
theorem top_ok {m:Msn} (hb:bsB m=true):mkE m (bsL m)=0:=by
 have hl:bsL m=(bestP m).2:=by simp [bsL,hb]
 simp only [bsB,Bool.and_eq_true,decide_eq_true_eq] at hb;have hok:=Z90 hb.1 (Z32 m);rw [hl];rcases Z2N hok with h | ⟨-,h⟩
 ·exact h.1
 ·have n2:=((Zj m).1 hb.1).n2
  rw [Z3L,hb.2] at h;omega
theorem top_no {m:Msn} (hr:rfB m=true):mkE m (rfL m)≠0:=by
 obtain⟨-,hok,hk,-,e2,-⟩:=Z01 hr;rcases Z2N hok with⟨-,h⟩ | ⟨h,-⟩
 ·omega
 ·exact h
theorem Z8T {m:Msn} (hr:rfB m=true) (h0:0<leadN m (rfL m)):mkE (cutM m (leadN m (rfL m)+1)) (cutS (rfL m) (leadN m (rfL m)+1))=0:=by
 obtain⟨hV,hok,hk,-⟩:=Z01 hr;have hS:=(Z05 hok).2;have hn:leadN m (rfL m)+1<=m.ways.length:=by omega
 have V:=(Zj m).1 hV;have o2:radOkB (cutM m (leadN m (rfL m)+1)) (cutS (rfL m) (leadN m (rfL m)+1))=true:=by unfold radOkB;rw [Zag hn hV (by omega),Zah hn hS];rfl
 have c2:=(Zbq hn V.ways (by omega) (rfL m)).2 (by omega)
 rcases Z2N o2 with h | ⟨-,h⟩
 ·exact h.1
 ·rw [(kp_of o2).1,Z0t hn] at h
  unfold leadV at h;rw [c2] at h;omega
theorem Z9Z {l:List Int} {k:Nat} (hk:k<l.length) (n:Nat):cutS (l.take (k+1)) n=if l.getD k 0<(n:Int) then cutS (l.take k) n++[l.getD k 0] else cutS (l.take k) n:=by
 unfold cutS;have e:l.getD k 0=l[k]:=by simp [List.getD,List.getElem?_eq_getElem hk]
 rw [List.take_add_one,List.filter_append,List.getElem?_eq_getElem hk,e];by_cases h:l[k]<(n:Int)
 ·simp [h]
 ·simp [h]
theorem Z55 (l:List Int) (n k:Nat):(cutS (l.take k) n).length<=k:=by
 unfold cutS;exact Nat.le_trans (List.length_filter_le _ _) (by rw [List.length_take];omega)
end Go.Proofs.YthipcinibldgnaaGreat
