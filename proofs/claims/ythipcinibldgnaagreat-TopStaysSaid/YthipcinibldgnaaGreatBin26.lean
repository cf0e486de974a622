/- package scene: open, own, back, has, hit. | package scene: the iterator over the corridors home, its contract. | package scene: disk, showRock, sho .. -/
import Derived.Test.YthipcinibldgnaaGreatBin22
open Go.Value renaming int->O,pointer->qP,slice->qS,agg->qA
open Go.Ending renaming returned->qR
open Go.IntKind renaming wrap->qW,i64->qL
open Go.Lib renaming hid->qH
open Go.RowKit.Below renaming refl->qK
open Go.World renaming setCell->qU,alloc->qV,block_lt_of_cell?->qO
open Nat renaming le_refl->qN
open And renaming intro->qI
open Go.Act renaming put->qJ
set_option linter.unusedSimpArgs false
set_option linter.unusedVariables false
set_option maxRecDepth 8000
set_option maxHeartbeats 6400000
namespace Go.Proofs.YthipcinibldgnaaGreat
section
attribute [local irreducible] wpQuiet
open Go.RowKit
def stgC (m:Msn) (vw vh vr vb va:Value) (k:Nat):Array Value:=#[vw,vh,O qL m.start,vr,O qL m.speed,O qL m.part,O qL m.flow,O qL m.idle,O qL m.drive,O qL m.battery,O qL m.deadline,vb,va,O qL (k:Int)]
structure StgAt (n0:Nat) (W:World) (m:Msn) (l:List Int) (vw vh vr vb va:Value):Prop where
 msn:MsnAt n0 W m vw vh vr
 bef:Z8 n0 W vb (rdBU m l)
 aft:Z8 n0 W va (rdAU m l)
theorem StgAt.up {A B:World} {m:Msn} {l:List Int} {vw vh vr vb va:Value} (h:StgAt A.heap.size A m l vw vh vr vb va) (k:Below A.heap.size A B):StgAt B.heap.size B m l vw vh vr vb va :=
 ⟨(h.msn.below k).mono k.size,(h.bef.below k).mono k.size,(h.aft.below k).mono k.size⟩
theorem ZN {W:World} {B:Nat} {m:Msn} {vw vh vr vb va:Value} {k:Nat} {T:TypeId} (H:Has W B (stgC m vw vh vr vb va k) T):W.cell? ⟨B,0,none⟩=some (vw)/\W.cell? ⟨B,1,none⟩=some (vh)/\W.cell? ⟨B,2,none⟩=some (O qL m.start)/\W.cell? ⟨B,3,none⟩=some (vr)/\W.cell? ⟨B,4,none⟩=some (O qL m.speed)/\W.cell? ⟨B,5,none⟩=some (O qL m.part)/\W.cell? ⟨B,6,none⟩=some (O qL m.flow)/\W.cell? ⟨B,7,none⟩=some (O qL m.idle)/\W.cell? ⟨B,8,none⟩=some (O qL m.drive)/\W.cell? ⟨B,9,none⟩=some (O qL m.battery)/\W.cell? ⟨B,10,none⟩=some (O qL m.deadline)/\W.cell? ⟨B,11,none⟩=some (vb)/\W.cell? ⟨B,12,none⟩=some (va)/\W.cell? ⟨B,13,none⟩=some (O qL (k:Int)) :=
 ⟨cX 0 H rfl,cX 1 H rfl,cX 2 H rfl,cX 3 H rfl,cX 4 H rfl,cX 5 H rfl,cX 6 H rfl,cX 7 H rfl,cX 8 H rfl,cX 9 H rfl,cX 10 H rfl,cX 11 H rfl,cX 12 H rfl,cX 13 H rfl⟩
theorem Z7N {A B C:World} {row:Option Nat} (h:Below A.heap.size A B) (k:B.grownBy C row):A.grownBy C row:=⟨k.os.trans h.os,k.tape.trans h.tape,k.output.trans h.output,Nat.le_trans h.size k.size,fun i hi hne=>(k.block i (Nat.lt_of_lt_of_le hi h.size) hne).trans (h.block i hi)⟩
theorem Z2f {A B C:World} {row:Option Nat} (h:A.grownBy B row) (k:B.grownBy C row):A.grownBy C row:=⟨k.os.trans h.os,k.tape.trans h.tape,k.output.trans h.output,Nat.le_trans h.size k.size,fun i hi hne=>(k.block i (Nat.lt_of_lt_of_le hi h.size) hne).trans (h.block i hi hne)⟩
theorem Z5m {A B:World} (h:Below A.heap.size A B) (row:Option Nat):A.grownBy B row:=⟨h.os,h.tape,h.output,h.size,fun i hi _=>h.block i hi⟩
theorem ZU (W:World) (b i:Nat) (v:Value):W.grownBy (W.setCell ⟨b,i,none⟩ v) (some b):=⟨rfl,rfl,rfl,by simp [qU],fun k _ hk=>Below.heap_setCell _ _ _ k (fun e=>hk (by rw [e]))⟩
theorem Z69 {A B:World} {b n:Nat} (h:A.grownBy B (some b)) (hn:n<=b) (hn2:n<=A.heap.size):Below n A B:=(qK n A).grown h hn2 (fun k e=>by cases e;exact hn)
theorem set14 {X Z:World} {B:Nat} {cs:Array Value} {T:TypeId} {v0 v1 v2 v3 v4 v5 v6 v7 v8 v9 v10 v11 v12 v13:Value} (H:Has X B cs T) (hs:cs.size=14) (hz:((((((((((((((X.setCell ⟨B,0,none⟩ v0).setCell ⟨B,1,none⟩ v1).setCell ⟨B,2,none⟩ v2).setCell ⟨B,3,none⟩ v3).setCell ⟨B,4,none⟩ v4).setCell ⟨B,5,none⟩ v5).setCell ⟨B,6,none⟩ v6).setCell ⟨B,7,none⟩ v7).setCell ⟨B,8,none⟩ v8).setCell ⟨B,9,none⟩ v9).setCell ⟨B,10,none⟩ v10).setCell ⟨B,11,none⟩ v11).setCell ⟨B,12,none⟩ v12).setCell ⟨B,13,none⟩ v13)=Z) :
  Has Z B #[v0,v1,v2,v3,v4,v5,v6,v7,v8,v9,v10,v11,v12,v13] T/\(∀ n,n<=B->Below n X Z)/\Z.heap.size=X.heap.size/\∀ b,b≠B->Z.heap[b]?=X.heap[b]?:=by
 subst hz;obtain⟨l,rfl⟩:∃ l:List Value,cs=l.toArray:=⟨cs.toList,by simp⟩
 obtain⟨r,o,j,f,s,q,g,k,m,t,e,a,c,d,rfl⟩:∃ r o j f s q g k m t e a c d,l=[r,o,j,f,s,q,g,k,m,t,e,a,c,d]:=by
  match l,hs with
  | [r,o,j,f,s,q,g,k,m,t,e,a,c,d],_=>exact⟨_,_,_,_,_,_,_,_,_,_,_,_,_,_,rfl⟩
 refine⟨?_,fun n hn=>?_,by simp,fun b hb=>?_⟩
 ·have:=((((((((((((((H.set 0 v0).set 1 v1).set 2 v2).set 3 v3).set 4 v4).set 5 v5).set 6 v6).set 7 v7).set 8 v8).set 9 v9).set 10 v10).set 11 v11).set 12 v12).set 13 v13)
  simpa only [zq4,zr4,zs4] using this
 ·exact (((((((((((((((qK n X).setCell (p:=⟨B,0,none⟩) hn v0).setCell (p:=⟨B,1,none⟩) hn v1).setCell (p:=⟨B,2,none⟩) hn v2).setCell (p:=⟨B,3,none⟩) hn v3).setCell (p:=⟨B,4,none⟩) hn v4).setCell (p:=⟨B,5,none⟩) hn v5).setCell (p:=⟨B,6,none⟩) hn v6).setCell (p:=⟨B,7,none⟩) hn v7).setCell (p:=⟨B,8,none⟩) hn v8).setCell (p:=⟨B,9,none⟩) hn v9).setCell (p:=⟨B,10,none⟩) hn v10).setCell (p:=⟨B,11,none⟩) hn v11).setCell (p:=⟨B,12,none⟩) hn v12).setCell (p:=⟨B,13,none⟩) hn v13)
 ·iterate 14 (rw [Below.heap_setCell _ _ _ _ (by exact hb)])
theorem Z5z (m:Msn) (l:List Int) (vw vh vr vl:Value) (k:Nat) (w:World) (hm:MsnAt w.heap.size w m vw vh vr) (hl:Z8 w.heap.size w vl l) (hok:radOkB m l=true) :
  Calls Tryz.prog 37 #[qA (Zc m vw vh vr),vl,O qL (k:Int)] w fun e w'=>∃ vb va,e=qR (qA (stgC m vw vh vr vb va k))/\StgAt w'.heap.size w' m l vw vh vr vb va/\Below w.heap.size w w'/\NewI w.heap.size vb/\NewI w.heap.size va:=by
 have u:validB m=true/\stopsB m l=true:=by simpa [radOkB] using hok
 have f1:=fun g (B:Below w.heap.size w g)=>Z26 m vw vh vr vl l g ((hm.below B).mono B.size) ((hl.below B).mono B.size) u.1 u.2
 have y:=fun g (B:Below w.heap.size w g)=>hm.below B
 obtain⟨⟨-,a1,c1,rfl,-⟩,⟨-,a2,R,rfl,-⟩,⟨-,a3,N,rfl,-⟩⟩:=hm;obtain⟨-,al,cl,rfl,-⟩:=hl;unfold Zc UsedN at *;replace f1:=qH f1;replace y:=qH y;clear hok u;have A:=qH (qK w.heap.size w);go_enter Tryz.func37,Tryz.ntmps37;go_wp2_with fail;generalize j:qV (qV w _) _=X0;obtain⟨q0,q1,hA,q⟩:=box2 j;clear j;have A:=qH hA;clear hA;have MB:=qH q0;clear q0;have RV:=qH q1;clear q1;have D:=qH q;clear q;obtain⟨c0,c1,R,N,c4,c5,c6,c7,c8,c9,C⟩:=Zh (m:=m) MB.out;refine (f1.out _ A.out).mono ?_;rintro e g ⟨vb,va,rfl,p1,p2,Q,n1,n2⟩;replace A:=zAd A Q;have p:=qH Q;clear Q;have P1:=qH p1;clear p1;have P2:=qH p2;clear p2;have N1:=qH (show NewI (w.heap.size+1+1) vb from n1.mono (by have:=D.out;omega))
 have N2:=qH (show NewI (w.heap.size+1+1) va from n2.mono (by have:=D.out;omega))
 clear n1 n2;have MM:=qH (y.out _ A.out);obtain⟨-,ab,cb,H,-⟩:=P1.out;subst H;obtain⟨-,aa,ca,hva,-⟩:=P2.out;subst hva;clear c0 c1 R N c4 c5 c6 c7 c8 c9 C;obtain⟨c0,c1,R,N,c4,c5,c6,c7,c8,c9,C⟩:=Zh (m:=m) (zCj MB p);have c:=(zCj RV p);have ltR:=c.lt;have W:=cX 0 c rfl;have z0:=Ze c 0;have I:=cX 1 c rfl;have z1:=Ze c 1;have r2:=cX 2 c rfl;have z2:=Ze c 2;have V:=cX 3 c rfl;have z3:=Ze c 3;have J:=cX 4 c rfl;have z4:=Ze c 4;have G:=cX 5 c rfl;have z5:=Ze c 5;have S:=cX 6 c rfl;have z6:=Ze c 6;have T:=cX 7 c rfl;have z7:=Ze c 7;have Y:=cX 8 c rfl;have z8:=Ze c 8;have r9:=cX 9 c rfl;have z9:=Ze c 9;have z:=cX 10 c rfl;have U:=Ze c 10;have x:=cX 11 c rfl;have z11:=Ze c 11;have t:=cX 12 c rfl;have P:=Ze c 12;have s:=cX 13 c rfl;have K:=Ze c 13;have HR:=qH c;clear c;go_wp2;clear W z0 I z1 r2 z2 V z3 J z4 G z5 S z6 T z7 Y z8 r9 z9 z U x z11 t P s K;generalize hZ:qU (qU (qU (qU (qU (qU (qU (qU (qU (qU (qU (qU (qU (qU g _ _) _ _) _ _) _ _) _ _) _ _) _ _) _ _) _ _) _ _) _ _) _ _) _ _) _ _=Z;obtain⟨d,f,hs2,F⟩:=set14 HR.out rfl hZ;clear hZ;have L:g.grownBy Z (some (w.heap.size+1)):=⟨(f 0 (Nat.zero_le _)).os,(f 0 (Nat.zero_le _)).tape,(f 0 (Nat.zero_le _)).output,by omega,fun i _ hne=>F i (fun e=>hne (by rw [e]))⟩
 have W:=cX 0 d rfl;have I:=cX 1 d rfl;have r2:=cX 2 d rfl;have V:=cX 3 d rfl;have J:=cX 4 d rfl;have G:=cX 5 d rfl;have S:=cX 6 d rfl;have T:=cX 7 d rfl;have Y:=cX 8 d rfl;have r9:=cX 9 d rfl;have z:=cX 10 d rfl;have x:=cX 11 d rfl;have t:=cX 12 d rfl;have s:=cX 13 d rfl;have E:∀ {v:Value} {l:List Int},Z8 g.heap.size g v l->NewI (w.heap.size+1+1) v->Z8 Z.heap.size Z v l:=fun h n=>Z8.offG h L (fun r e=>by
  obtain⟨_,a,cap,e1,M⟩:=h;rcases M with M | ⟨b,o,e3,hb,-⟩
  ·exact .inl M
  ·refine .inr fun e2=>?_
   have:=n b o _ _ (by rw [e1,e3])
   rw [e1,e3] at e2;simp [Value.ownBlock] at e2;cases e;omega)
 have X:=(MM.out.below (f w.heap.size (by omega))).mono (show w.heap.size<=Z.heap.size by omega)
 exact bodyPost_ret (v:=qA (stgC m _ _ _ _ _ k)) (by simp [results,stgC,Tryz.f37,go_sem,W,I,r2,V,J,G,S,T,Y,r9,z,x,t,s]) rfl ⟨_,_,rfl,⟨X,E P1.out N1.out,E P2.out N2.out⟩,A.out.trans (f _ (by omega)),N1.out.mono (by omega),N2.out.mono (by omega)⟩
noncomputable def ownC (m:Msn) (l:List Int) (k:Nat):List Pt:=corL (atW m k) (rdA m l k) (atW m (k+1)) (rdB m l (k+1))
theorem Z7p (m:Msn) (l:List Int) (vw vh vr vb va:Value) (w:World) (T:StgAt w.heap.size w m l vw vh vr vb va) (k:Nat) (hk:k+1<m.ways.length) (n41:m.ways.length<=41) :
  Calls Tryz.prog 78 #[qA (stgC m vw vh vr vb va k)] w (PtsQ (ownC m l k) w):=by
 have f1:=fun w1=>Z0z ⟨(wy m.ways k).x,(wy m.ways k).y⟩ ⟨(wy m.ways (k+1)).x,(wy m.ways (k+1)).y⟩ (rdA m l k) (rdB m l (k+1)) w1
 unfold ownC atW PtsQ;obtain⟨bb,ob,cb,rfl,hbb,hcb⟩:=ZI T.bef (by rw [ZG];omega)
 obtain⟨ba,oa,ca,rfl,hba,hca⟩:=ZI T.aft (by rw [Z0E];omega)
 have z1:=(hca k (by rw [Z0E];omega)).trans (by rw [Z4Y (by omega)])
 have z2:=(hcb (k+1) (by rw [ZG];omega)).trans (by rw [Z1H hk])
 simp only [ZG,Z0E] at *;obtain⟨⟨-,a1,c1,rfl,z⟩,⟨-,a2,c2,rfl,-⟩,⟨-,a3,c3,rfl,hcr⟩⟩:=T.msn;obtain⟨F,D,rfl,Y,z⟩:=z.resolve_left (by intro h;rw [h] at hk;simp at hk)
 obtain⟨x1,x2,-⟩:=z k (by omega)
 obtain⟨x3,x4,-⟩:=z (k+1) hk;clear T z hcr hcb hca;unfold stgC at *;generalize corL ⟨(wy m.ways k).x,(wy m.ways k).y⟩ (rdA m l k) ⟨(wy m.ways (k+1)).x,(wy m.ways (k+1)).y⟩ (rdB m l (k+1))=cl at *;generalize corE ⟨(wy m.ways k).x,(wy m.ways k).y⟩ (rdA m l k) ⟨(wy m.ways (k+1)).x,(wy m.ways (k+1)).y⟩ (rdB m l (k+1))=ce at *
 try simp only at f1
 generalize rdA m l k=ra at *;generalize rdB m l (k+1)=rb at *;obtain⟨K,hK⟩:∃ K,k+1=K:=⟨_,rfl⟩;have jw:qW qL ((k:Int)+1)=(K:Int):=by rw [<- hK];exact zW2
 simp only [hK] at x3 x4 z2 hk f1;generalize (wy m.ways k).x=px at *;generalize (wy m.ways k).y=py at *;generalize (wy m.ways K).x=qx at *;generalize (wy m.ways K).y=qy at *;replace f1:=qH f1;have hk':(k:Int)<m.ways.length:=by omega
 have hK':(K:Int)<m.ways.length:=by omega
 have hk0:(0:Int)<=k:=by omega
 have hK0:(0:Int)<=K:=by omega
 have hkn:k<m.ways.length:=by omega
 have c:=qH (qK w.heap.size w);go_enter Tryz.func78,Tryz.ntmps78;go_upto_region 1 with fail
 generalize aa:qV w _=X0;obtain⟨q0,hA,hzX0⟩:=box1 aa;clear aa;have c:=qH hA;clear hA;have RB:=qH q0;clear q0 hzX0;replace x1:=cY c.out x1 Y;replace x2:=cY c.out x2 Y;replace x3:=cY c.out x3 Y;replace x4:=cY c.out x4 Y;replace z1:=cY c.out z1 hba;replace z2:=cY c.out z2 hbb;have y0:X0.cell? ⟨w.heap.size,0,none⟩=some (qS (some ⟨F,D,none⟩) m.ways.length (m.ways.length+c1)):=cX 0 RB.out rfl;have ak:X0.cell? ⟨w.heap.size,11,none⟩=some (qS (some ⟨bb,ob,none⟩) m.ways.length (m.ways.length+cb)):=cX 11 RB.out rfl;have al:X0.cell? ⟨w.heap.size,12,none⟩=some (qS (some ⟨ba,oa,none⟩) m.ways.length (m.ways.length+ca)):=cX 12 RB.out rfl;have a:X0.cell? ⟨w.heap.size,13,none⟩=some (O qL (k:Int)):=cX 13 RB.out rfl;refine (wpIn_wide (n:=9)).1 ?_;refine Zi (Zk _) 35 (fun X=>Below X0.heap.size X0 X) (by kernel_rfl) (by kernel_rfl) (by kernel_rfl) fun hH inv0=>?_
 have hD:=Below.drew (qK X0.heap.size X0);generalize hXX1:X0.drew=X1 at *;clear hXX1;replace c:=zAd c hD;have b:=qH hD;clear hD;refine sk hH 0 (qP (some ⟨w.heap.size,0,none⟩)) (Zd rfl) inv0 (fun X hX=>?_) fun ai=>?_
 ·go_simp
 simp only [pT];clear inv0;refine sk hH 1 (qP (some ⟨w.heap.size,0,none⟩)) (Zd rfl) ai (fun X hX=>?_) fun ah=>?_
 ·go_simp
 simp only [pT];clear ai;refine sk hH 2 (qS (some ⟨F,D,none⟩) m.ways.length (m.ways.length+c1)) (Zd rfl) ah (fun X hX=>?_) fun ab=>?_
 ·have L:=(hX.cell (p:=⟨w.heap.size,0,none⟩) (qO _ _ y0)).trans y0;go_simp
 simp only [pT];clear ah;refine sk hH 3 (qP (some ⟨w.heap.size,13,none⟩)) (Zd rfl) ab (fun X hX=>?_) fun ag=>?_
 ·go_simp
 simp only [pT];clear ab;refine sk hH 4 (O qL (k:Int)) (Zd rfl) ag (fun X hX=>?_) fun ac=>?_
 ·have L:=(hX.cell (p:=⟨w.heap.size,13,none⟩) (qO _ _ a)).trans a;go_simp
 simp only [pT];clear ag;refine sk hH 5 (qP (some ⟨F,D+k*5,none⟩)) (Zd rfl) ac (fun X hX=>?_) fun af=>?_
 ·go_simp
 simp only [pT];clear ac;refine sk hH 6 (qP (some ⟨F,D+k*5,none⟩)) (Zd rfl) af (fun X hX=>?_) fun Z=>?_
 ·go_simp
 simp only [pT];clear af;refine sk hH 7 (qA #[O qL px,O qL py]) (Zd rfl) Z (fun X hX=>?_) fun ad=>?_
 ·have L:=(hX.cell (p:=⟨F,D+k*5,none⟩) (qO _ _ x1)).trans x1;have r1:=(hX.cell (p:=⟨F,D+k*5+1,none⟩) (qO _ _ x2)).trans x2;go_simp
 simp only [pT];clear Z;refine sk hH 8 (qP (some ⟨w.heap.size,12,none⟩)) (Zd rfl) ad (fun X hX=>?_) fun ae=>?_
 ·go_simp
 simp only [pT];clear ad;refine sk hH 9 (qS (some ⟨ba,oa,none⟩) m.ways.length (m.ways.length+ca)) (Zd rfl) ae (fun X hX=>?_) fun Q=>?_
 ·have L:=(hX.cell (p:=⟨w.heap.size,12,none⟩) (qO _ _ al)).trans al;go_simp
 simp only [pT];clear ae;refine sk hH 10 (qP (some ⟨w.heap.size,13,none⟩)) (Zd rfl) Q (fun X hX=>?_) fun W=>?_
 ·go_simp
 simp only [pT];clear Q;refine sk hH 11 (O qL (k:Int)) (Zd rfl) W (fun X hX=>?_) fun s=>?_
 ·have L:=(hX.cell (p:=⟨w.heap.size,13,none⟩) (qO _ _ a)).trans a;go_simp
 simp only [pT];clear W;refine sk hH 12 (qP (some ⟨ba,oa+k,none⟩)) (Zd rfl) s (fun X hX=>?_) fun U=>?_
 ·go_simp
 simp only [pT];clear s;refine sk hH 13 (O qL ra) (Zd rfl) U (fun X hX=>?_) fun v=>?_
 ·have L:=(hX.cell (p:=⟨ba,oa+k,none⟩) (qO _ _ z1)).trans z1;go_simp
 simp only [pT];clear U;refine sk hH 14 (qP (some ⟨w.heap.size,0,none⟩)) (Zd rfl) v (fun X hX=>?_) fun B=>?_
 ·go_simp
 simp only [pT];clear v;refine sk hH 15 (qP (some ⟨w.heap.size,0,none⟩)) (Zd rfl) B (fun X hX=>?_) fun H=>?_
 ·go_simp
 simp only [pT];clear B;refine sk hH 16 (qS (some ⟨F,D,none⟩) m.ways.length (m.ways.length+c1)) (Zd rfl) H (fun X hX=>?_) fun R=>?_
 ·have L:=(hX.cell (p:=⟨w.heap.size,0,none⟩) (qO _ _ y0)).trans y0;go_simp
 simp only [pT];clear H;refine sk hH 17 (qP (some ⟨w.heap.size,13,none⟩)) (Zd rfl) R (fun X hX=>?_) fun G=>?_
 ·go_simp
 simp only [pT];clear R;refine sk hH 18 (O qL (k:Int)) (Zd rfl) G (fun X hX=>?_) fun M=>?_
 ·have L:=(hX.cell (p:=⟨w.heap.size,13,none⟩) (qO _ _ a)).trans a;go_simp
 simp only [pT];clear G;refine sk hH 19 (O qL (K:Int)) (Zd rfl) M (fun X hX=>?_) fun N=>?_
 ·go_simp
 simp only [pT];clear M;refine sk hH 20 (qP (some ⟨F,D+K*5,none⟩)) (Zd rfl) N (fun X hX=>?_) fun o=>?_
 ·go_simp
 simp only [pT];clear N;refine sk hH 21 (qP (some ⟨F,D+K*5,none⟩)) (Zd rfl) o (fun X hX=>?_) fun C=>?_
 ·go_simp
 simp only [pT];clear o;refine sk hH 22 (qA #[O qL qx,O qL qy]) (Zd rfl) C (fun X hX=>?_) fun t=>?_
 ·have L:=(hX.cell (p:=⟨F,D+K*5,none⟩) (qO _ _ x3)).trans x3;have r1:=(hX.cell (p:=⟨F,D+K*5+1,none⟩) (qO _ _ x4)).trans x4;go_simp
 simp only [pT];clear C;refine sk hH 23 (qP (some ⟨w.heap.size,11,none⟩)) (Zd rfl) t (fun X hX=>?_) fun S=>?_
 ·go_simp
 simp only [pT];clear t;refine sk hH 24 (qS (some ⟨bb,ob,none⟩) m.ways.length (m.ways.length+cb)) (Zd rfl) S (fun X hX=>?_) fun g=>?_
 ·have L:=(hX.cell (p:=⟨w.heap.size,11,none⟩) (qO _ _ ak)).trans ak;go_simp
 simp only [pT];clear S;refine sk hH 25 (qP (some ⟨w.heap.size,13,none⟩)) (Zd rfl) g (fun X hX=>?_) fun d=>?_
 ·go_simp
 simp only [pT];clear g;refine sk hH 26 (O qL (k:Int)) (Zd rfl) d (fun X hX=>?_) fun P=>?_
 ·have L:=(hX.cell (p:=⟨w.heap.size,13,none⟩) (qO _ _ a)).trans a;go_simp
 simp only [pT];clear d;refine sk hH 27 (O qL (K:Int)) (Zd rfl) P (fun X hX=>?_) fun I=>?_
 ·go_simp
 simp only [pT];clear P;refine sk hH 28 (qP (some ⟨bb,ob+K,none⟩)) (Zd rfl) I (fun X hX=>?_) fun A=>?_
 ·go_simp
 simp only [pT];clear I;refine sk hH 29 (O qL rb) (Zd rfl) A (fun X hX=>?_) fun V=>?_
 ·have L:=(hX.cell (p:=⟨bb,ob+K,none⟩) (qO _ _ z2)).trans z2;go_simp
 simp only [pT];clear A;have J:=HeadInv.put2 V (j:=30) (by kernel_rfl) (by omega)
 clear V;refine sa1 (r:=30) b.out ?_;refine Zo (Zd rfl) rfl (f:=44) (args:=#[qA #[O qL px,O qL py],O qL ra,qA #[O qL qx,O qL qy],O qL rb]) (by go_simp) (f1.out X1) ?_
 rintro e w1 ⟨v1,rfl,p1,b1⟩;refine⟨_,rfl,?_⟩;simp only [pT];replace c:=zAd c b1;replace b:=zAd b b1;clear b1;have P1:=qH p1;clear p1;refine sk hH 31 (.tuple #[v1,O qL ce]) (Zd rfl) J (fun X hX=>?_) fun E=>?_
 ·go_simp
 simp only [pT];clear J;refine sk hH 32 v1 (Zd rfl) E (fun X hX=>?_) fun q=>?_
 ·go_simp
 simp only [pT];clear E;refine sk hH 33 (O qL ce) (Zd rfl) q (fun X hX=>?_) fun u=>?_
 ·go_simp
 simp only [pT];clear q;refine sk hH 34 v1 (Zd rfl) u (fun X hX=>?_) fun aj=>?_
 ·go_simp
 simp only [pT];clear u aj hH;refine Zj (by kernel_rfl) b.out ?_
 simp only [List.drop_succ_cons,List.drop_zero];obtain⟨g1,d1,hv1⟩:=P1.out.len;subst hv1;clear x1 x2 x3 x4 z1 z2 y0 ak al a;gi_wp2;go_wp2;go_ret;exact⟨_,rfl,P1.out,c.out⟩
theorem Z3o (m:Msn) (vw vh vr vb va:Value) (k:Nat) (w:World) :
  Calls Tryz.prog 79 #[qA (stgC m vw vh vr vb va k)] w fun e w'=>e=qR (.func (.func 141) #[] #[qP (some ⟨w.heap.size,0,none⟩)])/\w'=w.alloc (.cells (stgC m vw vh vr vb va k) 81):=by
 unfold stgC;go_enter Tryz.func79,Tryz.ntmps79;go_wp2;go_ret;exact⟨rfl,rfl⟩
theorem Z1G (v:Value) (p:List Pt) (x:Pt) (w:World) (hp:Z7 w.heap.size w v p) :
  Calls Tryz.prog 81 #[v,qA #[O qL x.x,O qL x.y]] w fun e w'=>e=qR (.bool (hasB p x))/\Below w.heap.size w w':=by
 have c:=fun f (B:Below w.heap.size w f)=>Z3O v p x f ((hp.below B).mono B.size)
 obtain⟨r,n,rfl⟩:=hp.len;generalize hasB p x=d at *;generalize hasE p x=b2 at *;obtain⟨q,m⟩:=x;simp only at c ⊢;replace c:=qH c;clear hp;have b:=qH (qK w.heap.size w);go_enter Tryz.func81,Tryz.ntmps81;go_wp2_with fail;generalize a:qV w _=X0;obtain⟨g,l,k⟩:=box1 a;clear a;have b:=qH l;clear l;have o:=qH g;clear g;refine (c.out _ b.out).mono ?_;rintro e f ⟨rfl,d⟩;replace b:=zAd b d;have j:=qH d;clear d;go_wp2;go_ret;exact⟨rfl,b.out⟩
theorem fir_at {c : List Pt} {ls : List (List Pt)} (h : firB c ls = true) : ∃ i : Nat, firI c ls = i /\ i < ls.length := by
 unfold firB at h;unfold firI;by_cases hc:ls.length<=100/\okRocks c ls=true
 ·rw [if_pos hc] at h ⊢
  have a:∀ n i,hitTo c ls n=some i->i<n:=by
   intro n
   induction n with
   | zero=>intro i h;simp [hitTo] at h
   | succ n ih =>
    intro i h;simp only [hitTo] at h
    split at h
    ·exact Nat.lt_succ_of_lt (ih i h)
    ·split at h
     ·cases h;exact Nat.lt_succ_self _
     ·cases h
  cases he:hitTo c ls ls.length with
  | none=>rw [he] at h;cases h
  | some i=>exact⟨i,rfl,a _ _ he⟩
 ·rw [if_neg hc] at h;cases h
theorem ZcF (m:Msn) (l:List Int) (vw vh vr vb va:Value) (w:World) (T:StgAt w.heap.size w m l vw vh vr vb va) (k:Nat) (vp:Value) (p:List Pt) (hp:Z7 w.heap.size w vp p) (Bo:Nat) (vs:Value) (q1 q2 q3 q4 q5:Int) (HO:Has w Bo #[vs,O qL q1,O qL q2,O qL q3,O qL q4,O qL q5] 38) (hf:firB p m.rocks=false) :
  Calls Tryz.prog 77 #[qA (stgC m vw vh vr vb va k),vp,qP (some ⟨Bo,0,none⟩)] w fun e w'=>e=qR (.tuple #[.bool false,O qL 0])/\Below w.heap.size w w':=by
 have f:=fun g (B:Below w.heap.size w g)=>Z1w vp vr p m.rocks g ((hp.below B).mono B.size) ((T.msn.2.2.below B).mono B.size)
 rw [hf] at f;obtain⟨H,v,rfl⟩:=hp.len;obtain⟨-,G,y,rfl,-⟩:=T.bef;obtain⟨-,E,C,rfl,-⟩:=T.aft;obtain⟨⟨-,z,A,rfl,n⟩,⟨-,F,D,rfl,-⟩,⟨-,u,x,rfl,j⟩⟩:=T.msn;generalize firE p m.rocks=e1 at *;generalize firI p m.rocks=i1 at *;unfold stgC at *;replace f:=qH f;clear T hp HO j n;have c:=qH (qK w.heap.size w);go_enter Tryz.func77,Tryz.ntmps77;go_wp2_with fail;generalize a:qV w _=X0;obtain⟨t,r,b⟩:=box1 a;clear a;have c:=qH r;clear r;have s:=qH t;clear t b;have q:=cX 3 s.out rfl;refine (f.out _ c.out).mono ?_;rintro e g ⟨rfl,o⟩;replace c:=zAd c o;have d:=qH o;clear o q;have q:=(zCj s d).cell (i:=3) rfl;clear q;go_wp2;go_ret2;exact⟨rfl,c.out⟩
theorem Z7q (m:Msn) (l:List Int) (vw vh vr vb va:Value) (w:World) (T:StgAt w.heap.size w m l vw vh vr vb va) (k:Nat) (vp:Value) (p:List Pt) (hp:Z7 w.heap.size w vp p) (Bo:Nat) (vs:Value) (q1 q2 q3 q4 q5:Int) (HO:Has w Bo #[vs,O qL q1,O qL q2,O qL q3,O qL q4,O qL q5] 38) (hf:firB p m.rocks=true) :
  Calls Tryz.prog 77 #[qA (stgC m vw vh vr vb va k),vp,qP (some ⟨Bo,0,none⟩)] w fun e w'=>e=qR (.tuple #[.bool true,O qL (hitE p (rk m.rocks (firI p m.rocks).toNat))])/\Has w' Bo #[vs,O qL q1,O qL q2,O qL (firI p m.rocks),O qL (hitX p (rk m.rocks (firI p m.rocks).toNat)),O qL (hitY p (rk m.rocks (firI p m.rocks).toNat))] 38/\w.grownBy w' (some Bo):=by
 have R:=fun d (B:Below w.heap.size w d)=>Z1w vp vr p m.rocks d ((hp.below B).mono B.size) ((T.msn.2.2.below B).mono B.size)
 rw [hf] at R;have M:=fun vq q d (B:Below w.heap.size w d) hq=>Zd2 vp vq p q d ((hp.below B).mono B.size) hq
 obtain⟨i,hi1,D⟩:=fir_at hf;rw [hi1] at R ⊢;rw [Int.toNat_natCast];obtain⟨ap,cp,rfl⟩:=hp.len;obtain⟨-,ab,cb,rfl,-⟩:=T.bef;obtain⟨-,aa,ca,rfl,-⟩:=T.aft;obtain⟨⟨-,a1,c1,rfl,W⟩,⟨-,a2,c2,rfl,-⟩,⟨-,a3,c3,rfl,g⟩⟩:=T.msn;obtain⟨br,or',rfl,ac,g⟩:=g.resolve_left (by intro h;rw [h] at D;simp at D)
 obtain⟨u,xu,Z⟩:=g i D;obtain⟨au,cu,rfl⟩:=Z.len;have hi2':(i:Int)<m.rocks.length:=by omega
 have hi0:(0:Int)<=i:=by omega
 replace M:=fun d (B:Below w.heap.size w d)=>M _ (rk m.rocks i) d B ((Z.below B).mono B.size)
 generalize hitX p (rk m.rocks i)=hx at *;generalize hitY p (rk m.rocks i)=hy at *;generalize hitB p (rk m.rocks i)=hb' at *;generalize hitE p (rk m.rocks i)=he at *;replace M:=qH M;have hlo:=HO.lt;have ad:=qH (fun d (B:Below w.heap.size w d)=>HO.below B hlo)
 generalize firE p m.rocks=e1 at *
 skip
 unfold stgC at *;replace R:=qH R;clear T hp HO g W Z;have c:=qH (qK w.heap.size w);go_enter Tryz.func77,Tryz.ntmps77;go_wp2_with fail;generalize r:qV w _=X0;obtain⟨L,G,U⟩:=box1 r;clear r;have c:=qH G;clear G;have SB:=qH L;clear L U;have s3:=cX 3 SB.out rfl;refine (R.out _ c.out).mono ?_;rintro e d ⟨rfl,b1⟩;replace c:=zAd c b1;have a:=qH b1;clear b1 s3;have s3:=(zCj SB a).cell (i:=3) rfl;have xu1:=cY c.out xu ac;go_wp2_with fail;refine (M.out _ c.out).mono ?_;rintro e H ⟨rfl,V⟩;replace c:=zAd c V;replace a:=zAd a V;clear V s3 xu1;have zw2:=c.out.size;go_upto_region 5 with fail
 generalize s:qV H _=X3;obtain⟨L,G,J⟩:=box1 s;clear s;replace c:=zAd c G;replace a:=zAd a G;clear G;have XB:=qH L;clear L;have S:=ad.out _ c.out;have lox:=S.lt;clear J;have Y:H.heap.size≠Bo:=by omega
 have XBX:=XB.out;refine (wpIn_wide (n:=9)).1 ?_;refine Zi (Zk _) 9 (fun X=>Has X H.heap.size #[O qL hx,O qL hy] 36) (by kernel_rfl) (by kernel_rfl) (by kernel_rfl) fun hH inv0=>?_
 refine sk hH 0 (qP (some ⟨Bo,0,none⟩)) (Zd rfl) inv0 (fun X hX=>?_) fun C=>?_
 ·go_simp
 simp only [pT];clear inv0;refine sk hH 1 (qP (some ⟨Bo,0,none⟩)) (Zd rfl) C (fun X hX=>?_) fun A=>?_
 ·go_simp
 simp only [pT];clear C;refine sk hH 2 (O qL (i:Int)) (Zd rfl) A (fun X hX=>?_) fun t=>?_
 ·go_simp
 simp only [pT];clear A;refine sk hH 3 (qA #[O qL hx,O qL hy]) (Zd rfl) t (fun X hX=>?_) fun z=>?_
 ·have r0:=cX 0 hX rfl;have r1:=cX 1 hX rfl;go_simp
 simp only [pT];clear t;refine sk hH 4 (qP (some ⟨Bo,0,none⟩)) (Zd rfl) z (fun X hX=>?_) fun v=>?_
 ·go_simp
 simp only [pT];clear z;refine sk hH 5 (qP (some ⟨Bo,3,none⟩)) (Zd rfl) v (fun X hX=>?_) fun y=>?_
 ·go_simp
 simp only [pT];clear v;have F:Has X3.drew H.heap.size #[O qL hx,O qL hy] 36:=XBX;have f:Has X3.drew Bo _ 38:=S;have Q:w.grownBy X3.drew (some Bo):=Z5m (c.out.trans ((Below.drew (qK _ _)).mono c.out.size)) _;generalize X3.drew=XD at *;have o:=HeadInv.put2 y (j:=6) (by kernel_rfl) (by omega)
 clear y;refine Zw (rs:=[6]) (by kernel_rfl) (by simp) F (by simp) (fun i' hi'=>?_)
 simp only [List.mem_cons,List.not_mem_nil,or_false] at hi';subst hi';have r1:=cX 3 f rfl;have r2:=Ze f 3;refine Z05 (Zd rfl) rfl (w':=XD.setCell ⟨Bo,3,none⟩ (O qL (i:Int))) (by go_simp) ?_
 simp only [pT];have b:=f.set 3 (O qL (i:Int));have K:Has (XD.setCell ⟨Bo,3,none⟩ (O qL (i:Int))) H.heap.size #[O qL hx,O qL hy] 36:=(Below.heap_setCell XD ⟨Bo,3,none⟩ _ H.heap.size Y).trans F;have N:=Z2f Q (ZU XD Bo 3 (O qL (i:Int)));simp only [zq4,zr4,zs4] at b;clear r1 r2 f F Q;generalize XD.setCell ⟨Bo,3,none⟩ (O qL (i:Int))=XE at *;refine sk hH 7 (qP (some ⟨Bo,0,none⟩)) (Zd rfl) o (fun X hX=>?_) fun x=>?_
 ·go_simp
 simp only [pT];clear o;refine sk hH 8 (qP (some ⟨Bo,4,none⟩)) (Zd rfl) x (fun X hX=>?_) fun P=>?_
 ·go_simp
 simp only [pT];clear x P hH;have r3:=cX 4 b rfl;have r4:=Ze b 4;have r5:=cX 5 b rfl;have r6:=Ze b 5;refine Zj (by kernel_rfl) K ?_
 simp only [List.drop_succ_cons,List.drop_zero];gi_wp2;clear r3 r4 r5 r6;have E:=(b.set 4 (O qL hx)).set 5 (O qL hy);have I:=Z2f (Z2f N (ZU XE Bo 4 (O qL hx))) (ZU (XE.setCell ⟨Bo,4,none⟩ (O qL hx)) Bo 5 (O qL hy));simp only [zq4,zr4,zs4] at E;generalize qU (qU XE _ _) _ _=XF at *;have HX:=qH (qI E I);clear E I b K N;go_wp2;go_ret2;exact⟨rfl,HX.out⟩
noncomputable def bkP (m:Msn) (l:List Int) (k j:Nat):List Pt:=corL (atW m (itB m (k+1) j)) (bkR m (k+1) (rdB m l (k+1)) j) (atW m (itB m (k+1) (j+1))) (bkR m (k+1) (rdB m l (k+1)) (j+1))
noncomputable def bkE (m:Msn) (l:List Int) (k j:Nat):Int:=corE (atW m (itB m (k+1) j)) (bkR m (k+1) (rdB m l (k+1)) j) (atW m (itB m (k+1) (j+1))) (bkR m (k+1) (rdB m l (k+1)) (j+1))
def bkX (m:Msn) (l:List Int) (k:Nat) (x:Value × Nat):Array Value:=#[x.1,O qL (bkR m (k+1) (rdB m l (k+1)) (x.2+1))]
def bkH (m:Msn) (l:List Int) (k:Nat) (x:Value × Nat) (W:World):Prop:=Z7 W.heap.size W x.1 (bkP m l k x.2)/\x.2<dep m (k+1)
def bkK (n0:Nat) (q:Nat->Prop) (_:Nat) (X Y:World):Prop:=Below n0 X Y/\X.heap.size<=Y.heap.size/\∀ b o,¬ q b->X.heap[b]?=some o->o.isCells=true->Y.heap[b]?=some o
theorem bkK.trans {n0:Nat} {q:Nat->Prop} {B:Nat} {X Y Z:World} (h:bkK n0 q B X Y) (k:bkK n0 q B Y Z):bkK n0 q B X Z:=⟨h.1.trans k.1,Nat.le_trans h.2.1 k.2.1,fun b o hq hb hc=>k.2.2 b o hq (h.2.2 b o hq hb hc) hc⟩
theorem bkK.refl (n0:Nat) (q:Nat->Prop) (B:Nat) (X:World):bkK n0 q B X X:=⟨qK _ _,qN _,fun _ _ _ h _=>h⟩
theorem bkK.low {n0:Nat} {q:Nat->Prop} {B:Nat} {X Y:World} (h:Below X.heap.size X Y) (hn:n0<=X.heap.size):bkK n0 q B X Y:=⟨h.mono hn,h.size,fun b _ _ hb _=>(h.block b (Array.getElem?_eq_some_iff.1 hb).1).trans hb⟩
theorem bkK.cell {n0:Nat} {q:Nat->Prop} {B:Nat} {X Y:World} (h:bkK n0 q B X Y) {b i:Nat} {v:Value} (hq:¬ q b) (hc:X.cell? ⟨b,i,none⟩=some v):Y.cell? ⟨b,i,none⟩=some v:=by
 obtain⟨o,a,c⟩:=cells_of_cell hc;exact (World.cell?_of_block ((h.2.2 b o hq a c).trans a.symm)).trans hc
theorem bkK.has {n0:Nat} {q:Nat->Prop} {B:Nat} {X Y:World} (h:bkK n0 q B X Y) {b:Nat} {cs:Array Value} {t:TypeId} (hq:¬ q b) (hc:Has X b cs t):Has Y b cs t:=h.2.2 b _ hq hc rfl
theorem bkK.put {n0:Nat} {q:Nat->Prop} {B:Nat} (W:World) (o o':Obj) {l:Nat} (hl:n0<=l) (h1:W.heap[l]?=some o) (h2:o.isCells=false):bkK n0 q B W (W.putObj l o') :=
 ⟨(qK n0 W).grown (grownBy_putObj' W l o') (by have:=(Array.getElem?_eq_some_iff.1 h1).1;omega) (fun k e=>by cases e;exact hl),by simp,fun b o2 _ hb hc=>(World.putObj_heap_other (fun e=>by subst e;rw [h1] at hb;cases hb;rw [h2] at hc;cases hc)).trans hb⟩
theorem bkH.put {m:Msn} {l:List Int} {k:Nat} (x:Value × Nat) (W:World) (j:Nat) (o o':Obj) (h:bkH m l k x W) (hl:W.heap[j]?=some o) (hc:o.isCells=false):bkH m l k x (W.putObj j o'):=by
 obtain⟨⟨w,a,n,y,f⟩,v⟩:=h;refine⟨⟨w,a,n,y,?_⟩,v⟩;rcases f with f | ⟨b,r,s,t,g⟩
 ·exact .inl f
 ·by_cases h0:bkP m l k x.2=[]
  ·exact .inl h0
  refine .inr ⟨b,r,s,by simpa using t,fun i hi=>?_⟩
  obtain⟨q,u⟩:=g i hi;have p:b≠j:=by
   obtain⟨z,c,d⟩:=cells_of_cell q;intro e;subst e;rw [show (⟨b,r+i*2,none⟩:Addr).block=b from rfl,hl] at c
   cases c;rw [hc] at d;cases d
  have hs:(W.putObj j o').heap[b]?=W.heap[b]?:=World.putObj_heap_other p;exact⟨(World.cell?_of_block hs).trans q,(World.cell?_of_block hs).trans u⟩
theorem cor_bk (m:Msn) (l:List Int) (k j:Nat) (w:World) :
  Calls Tryz.prog 44 #[qA #[O qL (wy m.ways (itB m (k+1) j)).x,O qL (wy m.ways (itB m (k+1) j)).y],O qL (bkR m (k+1) (rdB m l (k+1)) j),qA #[O qL (wy m.ways (itB m (k+1) (j+1))).x,O qL (wy m.ways (itB m (k+1) (j+1))).y],O qL (bkR m (k+1) (rdB m l (k+1)) (j+1))] w fun e w'=>∃ v,e=qR (.tuple #[v,O qL (bkE m l k j)])/\Z7 w'.heap.size w' v (bkP m l k j)/\Below w.heap.size w w' :=
 Z0z (atW m (itB m (k+1) j)) (atW m (itB m (k+1) (j+1))) (bkR m (k+1) (rdB m l (k+1)) j) (bkR m (k+1) (rdB m l (k+1)) (j+1)) w
attribute [local go_sem] Oper.semAt_some
theorem Z5u (m : Msn) (l : List Int) (vw vh vr vb va : Value) (k n0 : Nat) (q : Nat -> Prop) (Bs : Nat) (w : World) (T : StgAt n0 w m l vw vh vr vb va) (V : VMsn m) (hk : k + 1 < m.ways.length) (hn : n0 <= w.heap.size)
  (HB:Has w Bs (stgC m vw vh vr vb va k) 81) (hq:∀ b,q b->b<w.heap.size/\b≠Bs) :
  SeqE Tryz.prog 141 #[qP (some ⟨Bs,0,none⟩)] (bkX m l k) (bkH m l k) (bkK n0 q) (fun xs=>xs.map (·.2)=List.range (dep m (k+1))) (fun pre=>∃ j,j<=dep m (k+1)/\pre.map (·.2)=List.range j) w:=by
 intro n L J Jx W hW hJ hJx hY h0;have hV:=(Zm m).2 V;have n41:=V.n41;have hd:=Z2V V.ways hk;have hd1:0<dep m (k+1):=by
  rcases Nat.eq_zero_or_pos (dep m (k+1)) with h | h
  ·have h2:=Z78 V.ways hk
   rw [h] at h2;exact absurd (show k+1=0 from h2) (by omega)
  ·exact h
 have fr:=fun F (B:Below n0 w F) (z:n0<=F.heap.size)=>Z3q m vw vh vr (k+1) F ((T.msn.below B).mono z) hV hk
 have fl:=fun F (B:Below n0 w F) (z:n0<=F.heap.size) (i j:Nat) hi hj=>Z1T (m:=m) (a:=i) (b:=j) hV hi hj ▸ Z1U m vw vh vr i j F ((T.msn.below B).mono z)
 have fc:=fun j F=>cor_bk m l k j F
 have rb:=fun j (hj:j<=dep m (k+1))=>bk_bd V l hk hj
 have hlt:=fun j (hj:j<=dep m (k+1))=>Z0o V.ways hk hj
 have hgb:=fun i j hi hj=>ZW V.leg V.ways (i:=i) (j:=j) hi hj
 have hHx:∀ j v X,j<dep m (k+1)->Z7 X.heap.size X v (bkP m l k j)->bkH m l k (v,j) X:=fun j v X h1 h2=>⟨h2,h1⟩
 have hXx:∀ j v,bkX m l k (v,j)=#[v,O qL (bkR m (k+1) (rdB m l (k+1)) (j+1))]:=fun _ _=>rfl
 have hsR:∀ j,bkR m (k+1) (rdB m l (k+1)) (j+1)=bkR m (k+1) (rdB m l (k+1)) j+gLeg m (itB m (k+1) j) (itB m (k+1) (j+1)):=fun _=>rfl
 obtain⟨bb,ob,cb,rfl,hbb,hcb⟩:=ZI T.bef (by rw [ZG];omega)
 simp only [ZG] at *;have xb:=(hcb (k+1) hk).trans (by rw [Z1H hk])
 obtain⟨-,aa,ca,rfl,-⟩:=T.aft;obtain⟨⟨-,a1,c1,rfl,hcw⟩,⟨-,a2,c2,rfl,-⟩,⟨-,a3,c3,rfl,hcr⟩⟩:=T.msn;obtain⟨t,s,rfl,hbw,hcw⟩:=hcw.resolve_left (by intro h;rw [h] at hk;simp at hk)
 have hlen:(intL (upto (itB m (k+1)) (dep m (k+1)+1))).length=dep m (k+1)+1:=by simp [intL,upto]
 have hr0:Hid (bkR m (k+1) (rdB m l (k+1)) 0=rdB m l (k+1)):=rfl;have HC:=qH hcw;have HQ:=qH hq;have HJ:=qH hJ;have HJx:=qH hJx;have HY:=qH hY;have H0:=qH h0;clear T hcw hcr hcb hV V hq hJ hJx hY h0;replace fr:=qH fr;replace fl:=qH fl;replace fc:=qH fc;replace rb:=qH rb;replace hlt:=qH hlt;replace hgb:=qH hgb;replace hHx:=qH hHx;replace hXx:=qH hXx;replace hsR:=qH hsR;have hlen':=qH hlen;clear hlen;obtain⟨n9,hn9⟩:∃ x,dep m (k+1)=x:=⟨_,rfl⟩;simp only [hn9] at *;clear hn9;have hBs:=HB.lt;have BW:=qH (hW.mono hn);have zW:=hW.size;have c:=HB.below hW hBs;unfold stgC at HB c;unfold Zc at *;have HBX:=qH c;have nqB:¬ q Bs:=fun h=>(HQ.out _ h).2 rfl
 replace xb:=cY BW.out xb hbb;obtain⟨K,hK⟩:∃ K,k+1=K:=⟨_,rfl⟩;have jw:qW qL ((k:Int)+1)=(K:Int):=by rw [<- hK];exact zW2
 simp only [hK] at *;have hK':(K:Int)<m.ways.length:=by omega
 have hK0:(0:Int)<=K:=by omega
 clear HB hW
 change CallsIn Fence.wide n Tryz.prog _ #[.func (.yield L) #[] #[],qP (some ⟨Bs,0,none⟩)] W _
 refine callsIn_of_wp Tryz.func141 rfl trivial ?_ rfl;simp only [Tryz.ntmps141,List.size_toArray,List.length_cons,List.length_nil,Nat.reduceAdd,Nat.reduceSub,Array.replicate_succ,Array.replicate_zero,List.push_toArray,List.append_toArray,List.nil_append,List.cons_append];have s0:=cX 0 c rfl;have s1:=cX 1 c rfl;have s2:=cX 2 c rfl;have s3:=cX 3 c rfl;have s4:=cX 4 c rfl;have s5:=cX 5 c rfl;have s6:=cX 6 c rfl;have s7:=cX 7 c rfl;have s8:=cX 8 c rfl;have s9:=cX 9 c rfl;have s10:=cX 10 c rfl;have s11:=cX 11 c rfl;have s13:=cX 13 c rfl;clear c
 gi_wp2_with fail
 refine⟨trivial,(fun h=>by cases h),(callsIn_wide.2 (fr.out _ BW.out (by omega))).mono ?_⟩
 rintro e F ⟨v1,rfl,p1,b1,nw1⟩;obtain⟨b2,o2,cap4,hv1,hb2,hc2⟩:=Z12 p1 hlen'.out;subst hv1;have nq2:¬ q b2:=fun h=>by have:=nw1 _ _ _ _ rfl;have:=(HQ.out _ h).1;omega
 clear p1 nw1 fr xb s0 s1 s2 s3 s4 s5 s6 s7 s8 s9 s10 s11 s13;have HB1:=qH (HBX.out.below b1 (by omega))
 have BW1:=qH (BW.out.trans (b1.mono (by omega)))
 have J1:=qH (HJ.out _ _ _ H0.out b1);have z1:=b1.size;have C2:=qH hc2;clear b1 hc2;have sl1:¬ n9+1+cap4=1:=by omega
 gi_wp2
 gi_loopw [3,33] (fun r i wr=>∃ j:Nat,j<=n9/\r=O qL (bkR m K (rdB m l K) j)/\i=O qL (j:Int)/\(∃ pre,pre.map (·.2)=List.range j/\J pre wr)/\Below n0 w wr/\bkK n0 q 0 F wr) (fun _ i _=>n9-(intOf i).toNat)
 case atStart=>exact⟨0,Nat.zero_le _,by rw [hr0.out],rfl,⟨[],rfl,J1.out⟩,BW1.out,bkK.refl _ _ _ _⟩
 case round =>
  obtain⟨j,hj,rfl,rfl,⟨pre,u,hJs⟩,hB,o⟩:=hrel;obtain⟨wo,hwo⟩:∃ x,x=wr:=⟨_,rfl⟩;subst hwo;by_cases hjn:j<n9
  ·have d1:decide ((j:Int)<(n9:Int))=true:=by rw [decide_eq_true_eq];omega
   have h1:=hlt.out j (by omega)
   have h2:=hlt.out (j+1) (by omega)
   have r1:=rb.out j (by omega)
   have r2:=rb.out (j+1) (by omega)
   have A:=C2.out j (by omega)
   have y2:=C2.out (j+1) (by omega)
   rw [Z1m (by omega)] at A y2
   replace A:=o.cell nq2 A;replace y2:=o.cell nq2 y2;obtain⟨G,D,-⟩:=HC.out _ h1;obtain⟨E,H,-⟩:=HC.out _ h2;have C:=o.has nqB HB1.out;have zo:=o.2.1;have gl:=qH (fun w2 (B:Low wo w2)=>fl.out w2 (hB.trans (B.out.mono (by omega))) (by have:=B.out.size;omega) _ _ h1 h2)
   have gc:=qH (fc.out j);have s1:=hsR.out j;have gb:=hgb.out _ _ h1 h2;have hYj:=qH (fun v X hx hz hJ=>HY.out (n-1) pre (v,j) X hJ (hHx.out j v X hjn hx) hz)
   have EX:=qH (hXx.out j);obtain⟨ra,hra⟩:∃ x,bkR m K (rdB m l K) j=x:=⟨_,rfl⟩;obtain⟨rc,hrc⟩:∃ x,bkR m K (rdB m l K) (j+1)=x:=⟨_,rfl⟩;obtain⟨g,hp1⟩:∃ x,itB m K j=x:=⟨_,rfl⟩;obtain⟨d,hp2⟩:∃ x,itB m K (j+1)=x:=⟨_,rfl⟩;simp only [hra,hrc,hp1,hp2] at r1 r2 gc s1 A y2 G D E H gl gb h1 h2 EX ⊢;generalize bkE m l k j=be at gc;generalize (wy m.ways g).x=px at *;generalize (wy m.ways g).y=py at *;generalize (wy m.ways d).x=qx at *;generalize (wy m.ways d).y=qy at *;generalize gLeg m g d=gg at *;generalize dLeg m g d=dd at *;generalize tLeg m g d=tt at *;have rw1:qW qL (ra+gg)=rc:=by rw [<- s1];exact zW2
   have hrc':=qH hrc;have h1':(g:Int)<m.ways.length:=by omega
   have h2':(d:Int)<m.ways.length:=by omega
   have h10:(0:Int)<=g:=by omega
   have h20:(0:Int)<=d:=by omega
   have jl1:(j:Int)<(n9:Int)+1:=by omega
   have jl0:(0:Int)<=(j:Int):=by omega
   have jl2:j<n9+1:=by omega
   have jw1:qW qL (j:Int)=(j:Int):=zW2;replace G:=cY hB G hbw;replace D:=cY hB D hbw;replace E:=cY hB E hbw;replace H:=cY hB H hbw;have y2':wo.cell? ⟨b2,o2+1+j,none⟩=some (O qL (d:Int)):=by rw [show o2+1+j=o2+(j+1) by omega];exact y2
   have y2'':=y2;clear s1 hra hrc hp1 hp2 r1 r2 gb;have HR:=qH (qI hB (qI o (qI hJs u)));clear hB o hJs u;gi_wp2;have y1f:=Low.fact A;have q0:=Low.fact (cX 0 C rfl);have q1:=Low.fact (cX 1 C rfl);have q2:=Low.fact (cX 2 C rfl);have q3:=Low.fact (cX 3 C rfl);have q4:=Low.fact (cX 4 C rfl);have q5:=Low.fact (cX 5 C rfl);have q6:=Low.fact (cX 6 C rfl);have q7:=Low.fact (cX 7 C rfl);have q8:=Low.fact (cX 8 C rfl);have q9:=Low.fact (cX 9 C rfl);have q10:=Low.fact (cX 10 C rfl);have HXo:=qH C;have XF:=qH (qI G (qI D (qI E (qI H A))));clear G D E H y2 y2' y2'' C
   (refine Z03 (Zk _) (by kernel_rfl) (by kernel_rfl) (by kernel_rfl) ?_;(iterate 17 (apply qw3;(case hw=>rfl);(case hval=>(intro F hw1 hcx;simp only [Oper.quietAt];go_simp;first | done | (first | (go_at_call 20;exact Low.calls hw1 (gl.out _ hw1))) | rfl | exact⟨rfl,rfl⟩));simp only [pT]));refine wpQuiet_nil ?_;intro w2 hw2)
   clear gl y1f q0 q1 q2 q3 q4 q5 q6 q7 q8 q9 q10;have hw:Below wo.heap.size wo w2:=hw2.out;clear hw2 A;have BO:=qH hw;have zw:=hw.size;have HX2:=HXo.out.below hw HXo.out.lt;have c0:w2.cell? ⟨Bs,0,none⟩=some (qS (some ⟨t,s,none⟩) m.ways.length (m.ways.length+c1)):=cX 0 HX2 rfl;obtain⟨G,D,E,H,A⟩:=XF.out;have lb2:b2<wo.heap.size:=qO _ _ A;replace G:=(hw.cell (p:=⟨t,s+g*5,none⟩) (qO _ _ G)).trans G;replace D:=(hw.cell (p:=⟨t,s+g*5+1,none⟩) (qO _ _ D)).trans D;replace E:=(hw.cell (p:=⟨t,s+d*5,none⟩) (qO _ _ E)).trans E;replace H:=(hw.cell (p:=⟨t,s+d*5+1,none⟩) (qO _ _ H)).trans H;replace A:=cY hw A lb2;clear hw HX2 lb2;gi_wp2;have BZ:=qH (qK w2.heap.size w2);refine Zi (Zk _) 26 (fun X=>Below w2.heap.size w2 X) (by kernel_rfl) (by kernel_rfl) (by kernel_rfl) fun hH inv0=>?_
   have hD:=Below.drew (qK w2.heap.size w2);generalize hXX1:w2.drew=X1 at *;clear hXX1;have BZ:=qH hD;clear hD;refine sk hH 0 (qP (some ⟨Bs,0,none⟩)) (Zd rfl) inv0 (fun X hX=>?_) fun inv1=>?_
   ·go_simp
   simp only [pT];clear inv0;refine sk hH 1 (qP (some ⟨Bs,0,none⟩)) (Zd rfl) inv1 (fun X hX=>?_) fun inv2=>?_
   ·go_simp
   simp only [pT];clear inv1;refine sk hH 2 (qS (some ⟨t,s,none⟩) m.ways.length (m.ways.length+c1)) (Zd rfl) inv2 (fun X hX=>?_) fun inv3=>?_
   ·have r0:=(hX.cell (p:=⟨Bs,0,none⟩) (qO _ _ c0)).trans c0;go_simp
   simp only [pT];clear inv2;refine sk hH 3 (qS (some ⟨b2,o2,none⟩) (n9+1) (n9+1+cap4)) (Zd rfl) inv3 (fun X hX=>?_) fun inv4=>?_
   ·go_simp
   simp only [pT];clear inv3;refine sk hH 4 (O qL (j:Int)) (Zd rfl) inv4 (fun X hX=>?_) fun inv5=>?_
   ·go_simp
   simp only [pT];clear inv4;refine sk hH 5 (qP (some ⟨b2,o2+j,none⟩)) (Zd rfl) inv5 (fun X hX=>?_) fun inv6=>?_
   ·go_simp
   simp only [pT];clear inv5;refine sk hH 6 (O qL (g:Int)) (Zd rfl) inv6 (fun X hX=>?_) fun inv7=>?_
   ·have r0:=(hX.cell (p:=⟨b2,o2+j,none⟩) (qO _ _ A)).trans A;go_simp
   simp only [pT];clear inv6;refine sk hH 7 (qP (some ⟨t,s+g*5,none⟩)) (Zd rfl) inv7 (fun X hX=>?_) fun inv8=>?_
   ·go_simp
   simp only [pT];clear inv7;refine sk hH 8 (qP (some ⟨t,s+g*5,none⟩)) (Zd rfl) inv8 (fun X hX=>?_) fun inv9=>?_
   ·go_simp
   simp only [pT];clear inv8;refine sk hH 9 (qA #[O qL px,O qL py]) (Zd rfl) inv9 (fun X hX=>?_) fun ad=>?_
   ·have r0:=(hX.cell (p:=⟨t,s+g*5,none⟩) (qO _ _ G)).trans G;have r1:=(hX.cell (p:=⟨t,s+g*5+1,none⟩) (qO _ _ D)).trans D;go_simp
   simp only [pT];clear inv9;refine sk hH 10 (O qL ra) (Zd rfl) ad (fun X hX=>?_) fun ag=>?_
   ·go_simp
   simp only [pT];clear ad;refine sk hH 11 (qP (some ⟨Bs,0,none⟩)) (Zd rfl) ag (fun X hX=>?_) fun I=>?_
   ·go_simp
   simp only [pT];clear ag;refine sk hH 12 (qP (some ⟨Bs,0,none⟩)) (Zd rfl) I (fun X hX=>?_) fun N=>?_
   ·go_simp
   simp only [pT];clear I;refine sk hH 13 (qS (some ⟨t,s,none⟩) m.ways.length (m.ways.length+c1)) (Zd rfl) N (fun X hX=>?_) fun S=>?_
   ·have r0:=(hX.cell (p:=⟨Bs,0,none⟩) (qO _ _ c0)).trans c0;go_simp
   simp only [pT];clear N;refine sk hH 14 (O qL (d:Int)) (Zd rfl) S (fun X hX=>?_) fun M=>?_
   ·go_simp
   simp only [pT];clear S;refine sk hH 15 (qP (some ⟨t,s+d*5,none⟩)) (Zd rfl) M (fun X hX=>?_) fun Z=>?_
   ·go_simp
   simp only [pT];clear M;refine sk hH 16 (qP (some ⟨t,s+d*5,none⟩)) (Zd rfl) Z (fun X hX=>?_) fun ae=>?_
   ·go_simp
   simp only [pT];clear Z;refine sk hH 17 (qA #[O qL qx,O qL qy]) (Zd rfl) ae (fun X hX=>?_) fun Y=>?_
   ·have r0:=(hX.cell (p:=⟨t,s+d*5,none⟩) (qO _ _ E)).trans E;have r1:=(hX.cell (p:=⟨t,s+d*5+1,none⟩) (qO _ _ H)).trans H;go_simp
   simp only [pT];clear ae;refine sk hH 18 (O qL ra) (Zd rfl) Y (fun X hX=>?_) fun ab=>?_
   ·go_simp
   simp only [pT];clear Y;refine sk hH 19 (O qL gg) (Zd rfl) ab (fun X hX=>?_) fun ac=>?_
   ·go_simp
   simp only [pT];clear ab;refine sk hH 20 (O qL rc) (Zd rfl) ac (fun X hX=>?_) fun Q=>?_
   ·go_simp
   simp only [pT];clear ac;have U:=HeadInv.put2 Q (j:=21) (by kernel_rfl) (by omega)
   clear Q;refine sa1 (r:=21) BZ.out ?_;refine Zo (Zd rfl) rfl (f:=44) (args:=#[qA #[O qL px,O qL py],O qL ra,qA #[O qL qx,O qL qy],O qL rc]) (by go_simp) (gc.out X1) ?_
   rintro e w3 ⟨v1,rfl,p1,b3⟩;refine⟨_,rfl,?_⟩;simp only [pT];replace BZ:=zAd BZ b3;clear b3;have P1:=qH p1;clear p1;refine sk hH 22 (.tuple #[v1,O qL be]) (Zd rfl) U (fun X hX=>?_) fun R=>?_
   ·go_simp
   simp only [pT];clear U;refine sk hH 23 v1 (Zd rfl) R (fun X hX=>?_) fun af=>?_
   ·go_simp
   simp only [pT];clear R;refine sk hH 24 (O qL be) (Zd rfl) af (fun X hX=>?_) fun P=>?_
   ·go_simp
   simp only [pT];clear af;refine sk hH 25 v1 (Zd rfl) P (fun X hX=>?_) fun inv26=>?_
   ·go_simp
   simp only [pT];clear P inv26 hH;refine Zj (by kernel_rfl) BZ.out ?_
   simp only [List.drop_succ_cons,List.drop_zero];obtain⟨g1,d2,hv1⟩:=P1.out.len;subst hv1;clear G D E H A c0;have B3:=qH (BO.out.trans (BZ.out.mono BO.out.size));have zb:=B3.out.size;have hy9:=hYj.out _ w3 P1.out (by omega) (HJ.out _ _ _ HR.out.2.2.1 B3.out)
   rw [EX.out] at hy9;obtain⟨fn,tmps,assign,body,hy,hR⟩:=hy9;have rw2:=rw1;gi_wp2;refine⟨(fun h=>by cases h),hR.mono ?_⟩
   rintro e w9 (⟨rfl,hJ3,hk3⟩ | ⟨rfl,hJx3⟩)
   ·have hk9:=(HR.out.2.1.trans (bkK.low B3.out (by omega))).trans hk3
    have hb9:=(HR.out.1.trans (B3.out.mono (by omega))).trans hk3.1
    have HZ:=qH (qI hk9 (qI hb9 hJ3));clear hk9 hb9 hk3 hJ3 hy hR;gi_wp2;go_roundw
    case rel=>exact⟨j+1,by omega,by rw [hrc'.out],by go_num,⟨_,by rw [List.map_append,HR.out.2.2.2,List.range_succ];rfl,HZ.out.2.2⟩,HZ.out.2.1,HZ.out.1⟩
    case measure=>simp [intOf];omega
   ·have HZ:=qH hJx3
    clear hJx3 hy hR;gi_wp2;refine bodyPost_ret (results_none rfl _ _ _) rfl ?_;exact⟨⟨_,rfl⟩,.inr ⟨_,⟨j+1,by omega,by rw [List.map_append,HR.out.2.2.2,List.range_succ];rfl⟩,HZ.out⟩⟩
  ·obtain rfl:j=n9:=by omega
   have HZ:=qH (qI hJs u);clear hJs u hB o;gi_wp2;go_end0;exact⟨⟨_,rfl⟩,.inl ⟨_,HZ.out.2,HZ.out.1⟩⟩
end
section
attribute [local irreducible] wpQuiet
open Go.RowKit
theorem Z7.put {W:World} {v:Value} {p:List Pt} (h:Z7 W.heap.size W v p) {j:Nat} {o:Obj} (o':Obj) (hl:W.heap[j]?=some o) (hc:o.isCells=false):Z7 (W.putObj j o').heap.size (W.putObj j o') v p:=by
 obtain⟨s,a,l,u,f⟩:=h;refine⟨s,a,l,u,?_⟩;rcases f with f | ⟨b,n,q,t,k⟩
 ·exact .inl f
 ·by_cases h0:p=[]
  ·exact .inl h0
  refine .inr ⟨b,n,q,by simpa using t,fun i hi=>?_⟩
  obtain⟨m,r⟩:=k i hi;have g:b≠j:=by
   obtain⟨w,c,d⟩:=cells_of_cell m;intro e;subst e;rw [show (⟨b,n+i*2,none⟩:Addr).block=b from rfl,hl] at c
   cases c;rw [hc] at d;cases d
  have hs:(W.putObj j o').heap[b]?=W.heap[b]?:=World.putObj_heap_other g;exact⟨(World.cell?_of_block hs).trans m,(World.cell?_of_block hs).trans r⟩
theorem Has.putO {W:World} {b:Nat} {cs:Array Value} {t:TypeId} (h:Has W b cs t) {j:Nat} {o:Obj} (o':Obj) (hl:W.heap[j]?=some o) (hc:o.isCells=false):Has (W.putObj j o') b cs t :=
 (World.putObj_heap_other (fun e=>by subst e;rw [show W.heap[b]?=_ from h] at hl;cases hl;cases hc)).trans h
theorem Z1B {n:Nat} {A W:World} (h:Below n A W) {j:Nat} (o':Obj) (hj:n<=j) (hn:n<=A.heap.size):Below n A (W.putObj j o') :=
 h.grown (grownBy_putObj' W j o') (Nat.le_trans hn h.size) (fun k e=>by cases e;exact hj)
theorem StgAt.low {n0:Nat} {A B:World} {m:Msn} {l:List Int} {vw vh vr vb va:Value} (h:StgAt n0 A m l vw vh vr vb va) (k:Below n0 A B):StgAt n0 B m l vw vh vr vb va:=⟨h.msn.below k,h.bef.below k,h.aft.below k⟩
theorem Z3J {B:Nat} {X Y:World} (h:Below X.heap.size X Y):KeepsFrom B X Y:=KeepsFrom.of_grownBy (Z5m h none) (fun _ e=>by cases e)
theorem Z5l {A B C:World} {row:Option Nat} (h:A.grownBy B row) (k:Below A.heap.size B C):A.grownBy C row:=⟨k.os.trans h.os,k.tape.trans h.tape,k.output.trans h.output,Nat.le_trans h.size k.size,fun i hi hne=>(k.block i hi).trans (h.block i hi hne)⟩
theorem bkK.set {n0:Nat} {q:Nat->Prop} {B:Nat} (X:World) (b i:Nat) (v:Value) (hn:n0<=X.heap.size) (hb:n0<=b) (hq:q b):bkK n0 q B X (X.setCell ⟨b,i,none⟩ v) :=
 ⟨Z69 (ZU X b i v) hb hn,by simp,fun c _ hc h _=>(Below.heap_setCell X ⟨b,i,none⟩ v c (fun e=>hc (by rw [e];exact hq))).trans h⟩
theorem grown_low' {A B C:World} {b n:Nat} (k:Below n A B) (h:B.grownBy C (some b)) (hn:n<=b) (hn2:n<=A.heap.size):Below n A C:=k.grown h (Nat.le_trans hn2 k.size) (fun j e=>by cases e;exact hn)
theorem OwnD.grownTo {α:Type} {B:Nat} (w0:World) (row0:Option Nat) (hm:w0.heap.size<=B):OwnD noOwn B (fun (_:List α) W=>w0.grownBy W row0):=fun _ _ _ row hs hg hr =>
 Z5l hs ((qK w0.heap.size _).grown hg hs.size (fun k e=>by
  obtain⟨o,_,h2⟩:=hr k e;rcases h2 with⟨_,h2⟩ | ⟨_,h2⟩
  ·exact h2.elim
  ·omega))
noncomputable def hmR (m:Msn) (l:List Int) (k:Nat):Int:=bkR m (k+1) (rdB m l (k+1)) (dep m (k+1))
noncomputable def hmP (m:Msn) (l:List Int) (k:Nat):List Pt:=shL (dskL (hmR m l k)) (atW m 0)
noncomputable def lstR (m:Msn) (l:List Int) (k:Nat) (pre:List (Value × Nat)):Int:=bkR m (k+1) (rdB m l (k+1)) (pre.foldl (fun _ x=>x.2+1) 0)
theorem ZbG (m:Msn) (l:List Int) (k:Nat) (pre:List (Value × Nat)) (v:Value) (j:Nat):lstR m l k (pre++[(v,j)])=bkR m (k+1) (rdB m l (k+1)) (j+1):=by unfold lstR;rw [List.foldl_append];rfl
theorem ZbH {m:Msn} {l:List Int} {k n:Nat} {pre:List (Value × Nat)} (h:pre.map (·.2)=List.range n):lstR m l k pre=bkR m (k+1) (rdB m l (k+1)) n:=by
 have a:∀ n:Nat,(List.range n).foldl (fun _ j=>j+1) 0=n:=by
  intro n;cases n with
  | zero=>rfl
  | succ n=>rw [List.range_succ,List.foldl_append];rfl
 have e:pre.foldl (fun _ x=>x.2+1) 0=(pre.map (·.2)).foldl (fun _ j=>j+1) 0:=by rw [List.foldl_map]
 unfold lstR;rw [e,h,a]
def lastJ (s:List (Value × Nat)):Nat:=(s.map (·.2)).getLast?.getD 0
theorem Z5Z (pre:List (Value × Nat)) (v:Value) (j:Nat):lastJ (pre++[(v,j)])=j:=by simp [lastJ]
theorem Z4k {f:Nat->Bool} {s s0:List (Value × Nat)} {x:Value × Nat} {n j:Nat} (h:s.map (·.2)=List.range j) (hj:j<=n) (e:s=s0++[x]) (h0:∀ y ∈ s0,f y.2=false) (hx:f x.2=true):lastJ s<n/\f (lastJ s)=true/\∀ i,i<lastJ s->f i=false:=by
 obtain⟨v,u⟩:=x;subst e;rw [Z5Z];rw [List.map_append] at h;have a:s0.length+1=j:=by have:=congrArg List.length h;simpa using this
 subst a;rw [List.range_succ] at h;obtain⟨d,b⟩:=List.append_inj h (by simp)
 simp only [List.map_cons,List.map_nil,List.cons.injEq,and_true] at b;subst b;refine⟨by omega,hx,fun i hi=>?_⟩
 have:i ∈ s0.map (·.2):=by rw [d];exact List.mem_range.2 hi
 obtain⟨y,c,rfl⟩:=List.mem_map.1 this;exact h0 y c
theorem Z7U {f:Nat->Bool} {s:List (Value × Nat)} {n:Nat} (h:s.map (·.2)=List.range n) (h0:∀ y ∈ s,f y.2=false):∀ i,i<n->f i=false:=by
 intro i hi;have:i ∈ s.map (·.2):=by rw [h];exact List.mem_range.2 hi
 obtain⟨y,a,rfl⟩:=List.mem_map.1 this;exact h0 y a
attribute [local go_sem] Oper.semAt_some
theorem Z5G (m:Msn) (l:List Int) (vw vh vr vb va:Value) (w:World) (T:StgAt w.heap.size w m l vw vh vr vb va) (V:VMsn m) (k:Nat) (hk:k+1<m.ways.length) :
  Calls Tryz.prog 80 #[qA (stgC m vw vh vr vb va k)] w (PtsQ (hmP m l k) w):=by
 have n41:=V.n41;have hr:0<=hmR m l k/\hmR m l k<=100000:=bk_bd V l hk (qN _);obtain⟨e1,e2,-⟩:=Z7H V hr;have f1:=fun w1=>Z3F (hmR m l k) w1
 have f2:=fun v w1 h=>Z10 v (dskL (hmR m l k)) ⟨(wy m.ways 0).x,(wy m.ways 0).y⟩ w1 h
 have fs:=fun (L:World) (Bs:Nat) (q:Nat->Prop) (B:Below w.heap.size w L) (HB:Has L Bs (stgC m vw vh vr vb va k) 81) (hq:∀ b,q b->b<L.heap.size/\b≠Bs)=>Z5u m l vw vh vr vb va k w.heap.size q Bs L (T.low B) V hk B.size HB hq
 have Q:lstR m l k []=rdB m l (k+1):=rfl;have I:=fun f v j=>ZbG m l k f v j
 have J:∀ xs:List (Value × Nat),xs.map (·.2)=List.range (dep m (k+1))->lstR m l k xs=hmR m l k:=fun xs h=>ZbH h
 have H:∀ v j,bkX m l k (v,j)=#[v,O qL (bkR m (k+1) (rdB m l (k+1)) (j+1))]:=fun _ _=>rfl
 unfold hmP PtsQ;unfold atW at *;rw [e1] at f1;rw [e2] at f2
 try simp only at f2
 generalize shL (dskL (hmR m l k)) ⟨(wy m.ways 0).x,(wy m.ways 0).y⟩=sl at *;generalize dskL (hmR m l k)=dl at *;generalize hmR m l k=hr9 at *;have h0:0<m.ways.length:=by omega
 obtain⟨bb,ob,cb,rfl,hbb,hcb⟩:=ZI T.bef (by rw [ZG];omega)
 simp only [ZG] at *;have xb:=(hcb (k+1) hk).trans (by rw [Z1H hk])
 obtain⟨-,aa,ca,rfl,-⟩:=T.aft;obtain⟨⟨-,a1,c1,rfl,z⟩,⟨-,a2,c2,rfl,-⟩,⟨-,a3,c3,rfl,hcr⟩⟩:=T.msn;obtain⟨bw,ow,rfl,Z,z⟩:=z.resolve_left (by intro h;rw [h] at hk;simp at hk)
 obtain⟨x1,x2,-⟩:=z 0 h0;rw [Nat.zero_mul,Nat.add_zero] at x1 x2;clear T z hcr hcb V e1 e2 hr;generalize (wy m.ways 0).x=px at *;generalize (wy m.ways 0).y=py at *;unfold stgC at *;replace f1:=qH f1;replace f2:=qH f2;replace fs:=qH fs;replace Q:=qH Q;replace I:=qH I;replace J:=qH J;replace H:=qH H;obtain⟨K,hK⟩:∃ K,k+1=K:=⟨_,rfl⟩;have jw:qW qL ((k:Int)+1)=(K:Int):=by rw [<- hK];exact zW2
 simp only [hK] at *;have hK':(K:Int)<m.ways.length:=by omega
 have hK0:(0:Int)<=K:=by omega
 have h0':(0:Int)<m.ways.length:=by omega
 have R:=qH (qK w.heap.size w);refine (callsIn_wide (n:=9)).1 ?_;refine callsIn_of_wp_marks Tryz.func80 rfl trivial ?_ rfl;simp only [Tryz.ntmps80,List.size_toArray,List.length_cons,List.length_nil,Nat.reduceAdd,Nat.reduceSub,Array.replicate_succ,Array.replicate_zero,List.push_toArray,List.append_toArray,List.nil_append,List.cons_append];refine wpIn_wide.2 ?_;go_upto_region 1 with fail
 generalize F:qV w _=X0;obtain⟨Y,S,C⟩:=box1 F;clear F;have R:=qH S;clear S;have SB:=qH Y;clear Y;have a:=qH R.out;replace xb:=cY R.out xb hbb;have N:=cX 11 SB.out rfl;have P:=cX 13 SB.out rfl;have HZ0:=qH C;clear C;go_upto_region 2 with fail
 generalize A:qV X0 _=X1;obtain⟨Y,S,E⟩:=box1 A;clear A;replace R:=zAd R S;have G:=qH S;clear S;have LB:=qH Y;clear Y;have HZ1:=qH E;clear E N P xb;have HS1:=(zCj SB G);obtain⟨s0,s1,s2,s3,s4,s5,s6,s7,s8,s9,s10,N,s12,P⟩:=ZN (m:=m) (k:=k) HS1;clear HS1;go_wp2_with fail;refine (Z3o m _ _ _ _ _ k X1).mono ?_;rintro e L ⟨rfl,U⟩;obtain⟨BB,u,hz0⟩:=box1 U.symm;clear U s0 s1 s2 s3 s4 s5 s6 s7 s8 s9 s10 N s12 P;have zz0:w.heap.size<X0.heap.size:=by have:=HZ0.out;omega
 have zz1:X0.heap.size<X1.heap.size:=by have:=HZ1.out;omega
 have zz2:X1.heap.size<L.heap.size:=by omega
 clear hz0;have BX0:=zAd G u;have BW0:=zAd R u;have LB0:=qH (LB.out.below u LB.out.lt);have t:=fs.out L X1.heap.size (fun b=>b=X0.heap.size) BW0.out BB (fun b hb=>by have hb':b=X0.heap.size:=hb;omega)
 clear u BB;go_wp2;refine (wpIn_wide (n:=9)).1 ?_;refine Z1Q (by omega) (gf:=141) (lb:=#[qP (some ⟨X1.heap.size,0,none⟩)]) rfl (enters_of Tryz.func141 (by kernel_rfl) rfl) t bkH.put (fun h k=>bkK.trans h k) (fun W o o' h1 h2=>bkK.put W o o' (by omega) h1 h2) (qK _ _) (fun _=>rfl)
  (fun f W=>Has W X0.heap.size #[O qL (lstR m l k f)] 3/\Below X0.heap.size X0 W)
  (fun c s W=>False)
  (OwnD.and (OwnD.has X0.heap.size (fun _ h=>h) (fun f=>#[O qL (lstR m l k f)]) 3) (OwnD.below X0 (qN _) (by omega) (fun _ _ h=>h.elim))) (fun c=>OwnD.pure (fun _=>False)) ⟨by rw [Q.out];exact LB0.out,BX0.out⟩ ?round ?done ?stop
 case round =>
  rintro ll rm f ⟨v,j⟩ W X hI0 hx hsz;obtain⟨a9,c9,hv9⟩:=hx.1.len;simp only at hv9;subst hv9;rw [H.out];clear t;gi_wp2;refine⟨trivial,?_⟩;rintro V9 ⟨r9,hr9'⟩ ⟨d,g⟩ hx9 hz9;have y0:=cX 0 d rfl;have y1:=Ze d 0;have HI:=qH (qI d g);have hz8:=g.size;clear hI0 hx d g hx9 hr9';have HL:=qH X;clear X;gi_wp2;have hO1:=HI.out.1.set 0 (O qL (bkR m K (rdB m l K) (j+1)));simp only [zq4,zr4,zs4] at hO1;refine⟨KeepsFrom.of_grownBy (ZU V9 X0.heap.size 0 _) (fun j e=>by cases e;omega),bkK.set V9 X0.heap.size 0 _ (by omega) (by omega) rfl,(by rw [I.out];exact hO1),grown_low' HI.out.2 (ZU V9 X0.heap.size 0 _) (qN _) (qN _)⟩
 case stop=>exact fun _ _ _ _ _ _ hf _=>hf.elim
 case done =>
  rintro D xs W5 hD hxs ⟨d,g⟩ hK;rw [J.out xs hxs] at d;have y0:=cX 0 d rfl;have HI:=qH g;have HK:=qH hK;clear d g hK t;go_wp2_with fail;refine (f1.out W5).mono ?_;rintro e w6 ⟨v1,rfl,p1,b1⟩;have P1:=qH p1;clear p1 y0;obtain⟨g1,k1,hv1⟩:=P1.out.len;subst hv1;have r:=zAd HI b1;have HK6:=qH ((b1.block D (Array.getElem?_eq_some_iff.1 HK.out).1).trans HK.out);clear HK b1;have hSB:=SB.out.below r.out SB.out.lt;have s0:=cX 0 hSB rfl;have t1:=((a.out.trans (r.out.mono a.out.size)).cell (p:=⟨bw,ow,none⟩) Z).trans x1;have t2:=((a.out.trans (r.out.mono a.out.size)).cell (p:=⟨bw,ow+1,none⟩) Z).trans x2;go_wp2_with fail;refine (f2.out _ w6 P1.out).mono ?_;rintro e w7 ⟨v2,rfl,p2,b2⟩;obtain⟨g2,k2,hv2⟩:=p2.len;subst hv2;have M:=(b2.block D (Array.getElem?_eq_some_iff.1 HK6.out).1).trans HK6.out;have HF:=qH (qI (p2.put (.deferred none) M rfl) (r.out.trans (b2.mono r.out.size)));have HK7:=qH M;clear M p2 b2 s0 t1 t2;go_wp2;refine⟨by simp,.inl ⟨_,_,rfl,run_takeDeferred HK7.out,?_⟩⟩
  exact⟨_,by simp [results,Tryz.f80,go_sem],_,rfl,HF.out.1,Z1B (a.out.trans (HF.out.2.mono a.out.size)) (.deferred none) (by omega) (qN _)⟩
noncomputable def outC (m:Msn) (vs:Value) (q1 q2:Int) (p:List Pt):Array Value:=#[vs,O qL q1,O qL q2,O qL (firI p m.rocks),O qL (hitX p (rk m.rocks (firI p m.rocks).toNat)),O qL (hitY p (rk m.rocks (firI p m.rocks).toNat))]
noncomputable def outE (m:Msn) (p:List Pt):Int:=hitE p (rk m.rocks (firI p m.rocks).toNat)
theorem Z4S (m:Msn) (l:List Int) (vw vh vr vb va:Value) (w:World) (T:StgAt w.heap.size w m l vw vh vr vb va) (V:VMsn m) (k:Nat) (hk:k+1<m.ways.length) (Bo:Nat) (vs:Value) (q1 q2 q3 q4 q5:Int) (HO:Has w Bo #[vs,O qL q1,O qL q2,O qL q3,O qL q4,O qL q5] 38) :
  Calls Tryz.prog 35 #[qA (stgC m vw vh vr vb va k),qP (some ⟨Bo,0,none⟩)] w fun e w' =>
   ((∀ j,j<dep m (k+1)->firB (bkP m l k j) m.rocks=false)/\e=qR (O qL 0)/\Below w.heap.size w w') \/
   (∃ j,j<dep m (k+1)/\(∀ i,i<j->firB (bkP m l k i) m.rocks=false)/\firB (bkP m l k j) m.rocks=true/\e=qR (O qL (outE m (bkP m l k j)))/\Has w' Bo (outC m vs q1 q2 (bkP m l k j)) 38/\w.grownBy w' (some Bo)):=by
 have lo:=HO.lt;have fs:=fun (E:World) (Bs:Nat) (q:Nat->Prop) (B:Below w.heap.size w E) (HB:Has E Bs (stgC m vw vh vr vb va k) 81) (hq:∀ b,q b->b<E.heap.size/\b≠Bs)=>Z5u m l vw vh vr vb va k w.heap.size q Bs E (T.low B) V hk B.size HB hq
 have fn:=fun (W:World) (B:Below w.heap.size w W) vp p hp (R:firB p m.rocks=false)=>ZcF m l vw vh vr vb va W (T.up B) k vp p hp Bo vs q1 q2 q3 q4 q5 (HO.below B lo) R
 have fy:∀ (W:World) (B:Below w.heap.size w W) vp p (hp:Z7 W.heap.size W vp p) (R:firB p m.rocks=true),Calls Tryz.prog 77 #[qA (stgC m vw vh vr vb va k),vp,qP (some ⟨Bo,0,none⟩)] W fun e w'=>e=qR (.tuple #[.bool true,O qL (outE m p)])/\Has w' Bo (outC m vs q1 q2 p) 38/\W.grownBy w' (some Bo) :=
  fun (W:World) (B:Below w.heap.size w W) vp p hp (R:firB p m.rocks=true)=>Z7q m l vw vh vr vb va W (T.up B) k vp p hp Bo vs q1 q2 q3 q4 q5 (HO.below B lo) R
 have Q:∀ v j,bkX m l k (v,j)=#[v,O qL (bkR m (k+1) (rdB m l (k+1)) (j+1))]:=fun _ _=>rfl
 have H:=fun g v j=>Z5Z g v j
 obtain⟨-,ab,cb,rfl,-⟩:=T.bef;obtain⟨-,aa,ca,rfl,-⟩:=T.aft;obtain⟨⟨-,a1,c1,rfl,hcw⟩,⟨-,a2,c2,rfl,-⟩,⟨-,a3,c3,rfl,hcr⟩⟩:=T.msn;clear T hcw hcr V;unfold stgC at *;generalize outC m vs q1 q2=oc at *;generalize outE m=oe at *;obtain⟨f,R⟩:∃ f:Nat->Bool,(fun j=>firB (bkP m l k j) m.rocks)=f:=⟨_,rfl⟩
 have u:∀ j,firB (bkP m l k j) m.rocks=f j:=fun j=>by rw [<- R]
 simp only [u];clear R;replace fn:=qH fn;replace fy:=qH fy;replace fs:=qH fs;replace Q:=qH Q;replace H:=qH H;replace u:=qH u;have HOh:=qH HO;clear HO;have BW:=qH (qK w.heap.size w);refine (callsIn_wide (n:=9)).1 ?_;refine callsIn_of_wp_marks Tryz.func35 rfl trivial ?_ rfl;simp only [Tryz.ntmps35,List.size_toArray,List.length_cons,List.length_nil,Nat.reduceAdd,Nat.reduceSub,Array.replicate_succ,Array.replicate_zero,List.push_toArray,List.append_toArray,List.nil_append,List.cons_append];refine wpIn_wide.2 ?_;go_upto_region 1 with fail
 generalize L:qV (qV (qV w _) _) _=X0;obtain⟨q0,q1,q2,hA,N⟩:=box3 L;clear L;have BW:=qH hA;clear hA;have SB:=qH q0;clear q0;have OB:=qH q1;clear q1;have RB:=qH q2;clear q2;have X:=SB.out;obtain⟨C,s1,s2,s3,s4,s5,s6,s7,s8,s9,G,I,J,K⟩:=ZN (m:=m) (k:=k) X;clear X;have HZ0:=qH N;clear N;go_wp2_with fail;refine (Z3o m _ _ _ _ _ k X0).mono ?_;rintro e E ⟨rfl,ac⟩;obtain⟨BB,t,hz0⟩:=box1 ac.symm;clear ac C s1 s2 s3 s4 s5 s6 s7 s8 s9 G I J K;have zz0:w.heap.size+3=X0.heap.size:=HZ0.out.symm;have zz2:X0.heap.size<E.heap.size:=by omega
 have zz3:w.heap.size+3<=X0.heap.size:=by omega
 clear hz0;have z:=zAd BW t;have SB0:=qH (SB.out.below t (by omega))
 have OB0:=qH (OB.out.below t (by omega))
 have ae:=qH (RB.out.below t (by omega))
 clear zz0;have r:=fs.out E X0.heap.size (fun _=>False) z.out BB (fun b hb=>hb.elim)
 clear t BB;go_wp2;refine (wpIn_wide (n:=9)).1 ?_;refine Z1Q (by omega) (gf:=141) (lb:=#[qP (some ⟨X0.heap.size,0,none⟩)]) rfl (enters_of Tryz.func141 (by kernel_rfl) rfl) r bkH.put (fun h k=>bkK.trans h k) (fun W o o' h1 h2=>bkK.put W o o' (by omega) h1 h2) (qK _ _) (fun _=>rfl)
  (fun g W=>(∀ y:Value × Nat,y ∈ g->f y.2=false)/\Below E.heap.size E W)
  (fun c s W=>(c=.ret/\∃ (C:List (Value × Nat)) (x:Value × Nat),s=C++[x]/\(∀ y:Value × Nat,y ∈ C->f y.2=false)/\f x.2=true)/\Has W (w.heap.size+1+1) #[O qL (oe (bkP m l k (lastJ s)))] 30/\Has W Bo (oc (bkP m l k (lastJ s))) 38/\w.grownBy W (some Bo))
  (OwnD.and (OwnD.pure (fun g=>∀ y:Value × Nat,y ∈ g->f y.2=false)) (OwnD.below E (qN _) (qN _) (fun _ _ h=>h.elim))) (fun c=>OwnD.and (OwnD.pure (fun s=>c=.ret/\∃ (C:List (Value × Nat)) (x:Value × Nat),s=C++[x]/\(∀ y:Value × Nat,y ∈ C->f y.2=false)/\f x.2=true)) (OwnD.and (OwnD.has (w.heap.size+1+1) (fun _ h=>h) (fun s=>#[O qL (oe (bkP m l k (lastJ s)))]) 30) (OwnD.and (OwnD.has Bo (fun _ h=>h) (fun s=>oc (bkP m l k (lastJ s))) 38) (OwnD.grownTo w (some Bo) (by omega))))) ⟨(fun y hy=>by cases hy),qK _ _⟩ ?round ?done ?stop
 case round =>
  rintro ll rm g ⟨v,j⟩ W ad hI0 hx hsz;obtain⟨a9,c9,hv9⟩:=hx.1.len;simp only at hv9;subst hv9;rw [Q.out];clear r;gi_wp2;refine⟨trivial,?_⟩;rintro V9 ⟨r9,hr9'⟩ ⟨d,a⟩ Z hz9;have HP:=qH Z.1;have M:=qH (qI d a);have hz8:=a.size;have BV:=zAd z a;have hS9:=SB0.out.below a (by omega)
  have hO9:=OB0.out.below a (by omega)
  have hR9:=ae.out.below a (by omega)
  obtain⟨C,s1,s2,s3,s4,s5,s6,s7,s8,s9,G,I,J,K⟩:=ZN (m:=m) (k:=k) hS9;have o0:=cX 0 hO9 rfl;have HR9:=qH hR9;clear hI0 hx d a Z hr9' hS9 hO9 hR9;have HL:=qH ad;clear ad;cases hfj:f j
  ·have Y:=qH (fn.out V9 BV.out _ _ HP.out (by rw [u.out];exact hfj))
   have HJ:=qH hfj;clear hfj
   gi_wp2_with fail
   refine⟨trivial,(fun h=>by cases h),(CallsIn.inRound ll (callsIn_wide.2 Y.out)).mono ?_⟩
   rintro e W4 ⟨rfl,b4⟩;have B4:=qH b4;clear b4 C s1 s2 s3 s4 s5 s6 s7 s8 s9 G I J K o0 Y;gi_wp2;refine⟨Z3J B4.out,bkK.low B4.out (by omega),?_,M.out.2.trans (B4.out.mono M.out.2.size)⟩
   intro y hy;rcases List.mem_append.1 hy with h | h
   ·exact M.out.1 y h
   ·rw [List.mem_singleton.1 h];exact HJ.out
  ·have Y:=qH (fy.out V9 BV.out _ _ HP.out (by rw [u.out];exact hfj))
   have HJ:=qH hfj;clear hfj
   gi_wp2_with fail
   refine⟨trivial,(fun h=>by cases h),(CallsIn.inRound ll (callsIn_wide.2 Y.out)).mono ?_⟩
   rintro e W4 ⟨rfl,h4,n4⟩;have F:Has W4 (w.heap.size+1+1) #[O qL 0] 30:=(n4.block _ (by omega) (fun e=>by cases e;omega)).trans HR9.out
   have r0:=cX 0 F rfl;have r1:=Ze F 0;have H4:=qH (qI h4 (qI n4 F));clear h4 n4 F C s1 s2 s3 s4 s5 s6 s7 s8 s9 G I J K o0 Y;have z4:=H4.out.2.1.size;gi_wp2;have A:=H4.out.2.2.set 0 (O qL (oe (bkP m l k j)));simp only [zq4,zr4,zs4] at A;refine⟨(KeepsFrom.of_grownBy H4.out.2.1 (fun j e=>by cases e;omega)).trans (KeepsFrom.of_grownBy (ZU W4 (w.heap.size+1+1) 0 _) (fun j e=>by cases e;omega)),⟨rfl,g,_,rfl,M.out.1,HJ.out⟩,?_,?_,?_⟩
   ·rw [H.out];exact A
   ·rw [H.out];exact (Below.heap_setCell W4 ⟨(w.heap.size+1+1),0,none⟩ _ Bo (by show Bo≠(w.heap.size+1+1);omega)).trans H4.out.1
   ·exact Z5l (Z7N BV.out H4.out.2.1) (Z69 (ZU W4 (w.heap.size+1+1) 0 _) (by omega) (by omega))
 case stop =>
  rintro D c s U hD ⟨j,hj,hs⟩ ⟨⟨rfl,C,x,hs0,ha,hx⟩,d,a,P⟩ S;obtain⟨p1,p2,p3⟩:=Z4k hs hj hs0 ha hx;have y1:=(d.putO (.deferred none) S rfl).cell (i:=0) rfl;have HF:=qH (qI (a.putO (.deferred none) S rfl) (qI (show w.grownBy (U.putObj D (.deferred none)) (some Bo) from Z5l P (Z1B (qK w.heap.size U) _ (by omega) P.size)) (qI p1 (qI p2 p3))))
  have HK:=qH S;have HY:=qH y1;clear d a P S r hs hs0 ha hx p1 p2 p3 y1;refine wpIn_wide.2 ?_;go_wp2;refine⟨by simp,.inl ⟨_,_,rfl,run_takeDeferred HK.out,?_⟩⟩
  exact⟨O qL (oe (bkP m l k (lastJ s))),by simp [results,Tryz.f35,go_sem,HY.out],.inr ⟨lastJ s,HF.out.2.2.1,HF.out.2.2.2.2,HF.out.2.2.2.1,rfl,HF.out.1,HF.out.2.1⟩⟩
 case done =>
  rintro D xs U hD hxs ⟨d,a⟩ S;have AL:=qH (Z7U hxs d);have hR:=ae.out.below a (by omega)
  have y0:=cX 0 hR rfl;have y1:=Ze hR 0;have hz5:=a.size;have M:=qH (qI a (qI hR S));clear d a S r hxs hR;go_wp2;have A:=M.out.2.1.set 0 (O qL 0);simp only [zq4,zr4,zs4] at A;have af:(U.setCell ⟨(w.heap.size+1+1),0,none⟩ (O qL 0)).heap[D]?=some (.deferred (some [])):=(Below.heap_setCell U ⟨(w.heap.size+1+1),0,none⟩ _ D (by show D≠(w.heap.size+1+1);omega)).trans M.out.2.2
  have y2:=(A.putO (.deferred none) af rfl).cell (i:=0) rfl;refine⟨by simp,.inl ⟨_,_,rfl,run_takeDeferred af,?_⟩⟩
  exact⟨O qL 0,by simp [results,Tryz.f35,go_sem,y2],.inl ⟨AL.out,rfl,Z1B (z.out.trans (grown_low' (M.out.1.mono z.out.size) (ZU U (w.heap.size+1+1) 0 _) (by omega) z.out.size)) (.deferred none) (by omega) (qN _)⟩⟩
end
section
attribute [local irreducible] wpQuiet
open Go.RowKit
theorem Z56 {l:List Pt} {j:Nat} (h:j<l.length):nth l j=l[j]:=by simp [nth,List.getD_eq_getElem?_getD,List.getElem?_eq_getElem h]
theorem Z4Q (m:Msn) (l:List Int) (vw vh vr vb va:Value) (w:World) (T:StgAt w.heap.size w m l vw vh vr vb va) (V:VMsn m) (k:Nat) (hk:k+1<m.ways.length) (Bo:Nat) (vs:Value) (q1 q2 q3 q4 q5:Int) (HO:Has w Bo #[vs,O qL q1,O qL q2,O qL q3,O qL q4,O qL q5] 38) (hf:firB (ownC m l k) m.rocks=true) :
  Calls Tryz.prog 34 #[qA (stgC m vw vh vr vb va k),qP (some ⟨Bo,0,none⟩)] w fun e w'=>e=qR (O qL (outE m (ownC m l k)))/\Has w' Bo (outC m vs q1 q2 (ownC m l k)) 38/\w.grownBy w' (some Bo):=by
 have lo:=HO.lt;have n41:=V.n41;have U:=fun (W:World) (B:Below w.heap.size w W)=>Z7p m l vw vh vr vb va W (T.up B) k hk n41
 have S:∀ (W:World) (B:Below w.heap.size w W) vp (hp:Z7 W.heap.size W vp (ownC m l k)),Calls Tryz.prog 77 #[qA (stgC m vw vh vr vb va k),vp,qP (some ⟨Bo,0,none⟩)] W fun e w'=>e=qR (.tuple #[.bool true,O qL (outE m (ownC m l k))])/\Has w' Bo (outC m vs q1 q2 (ownC m l k)) 38/\W.grownBy w' (some Bo) :=
  fun (W:World) (B:Below w.heap.size w W) vp hp=>Z7q m l vw vh vr vb va W (T.up B) k vp _ hp Bo vs q1 q2 q3 q4 q5 (HO.below B lo) hf
 obtain⟨-,C,E,rfl,-⟩:=T.bef;obtain⟨-,z,G,rfl,-⟩:=T.aft;obtain⟨⟨-,x,F,rfl,Q⟩,⟨-,I,H,rfl,-⟩,⟨-,v,D,rfl,Z⟩⟩:=T.msn;clear T Q Z V HO hf;unfold stgC PtsQ at *;generalize outC m vs q1 q2 (ownC m l k)=oc at *;generalize outE m (ownC m l k)=oe at *;generalize ownC m l k=oo at *;replace U:=qH U;replace S:=qH S;have L:=qH (qK w.heap.size w);go_enter Tryz.func34,Tryz.ntmps34;go_upto_region 1 with fail
 generalize p:qV w _=X0;obtain⟨q0,hA,K⟩:=box1 p;clear p;have L:=qH hA;clear hA;have SB:=qH q0;clear q0 K;have A:=SB.out;have ltS:=A.lt;have zw0:=L.out.size;refine (wpIn_wide (n:=9)).1 ?_;refine Zi (Zk _) 9 (fun X=>Has X w.heap.size #[qS x m.ways.length (m.ways.length+F),qS I m.home.length (m.home.length+H),O qL m.start,qS v m.rocks.length (m.rocks.length+D),O qL m.speed,O qL m.part,O qL m.flow,O qL m.idle,O qL m.drive,O qL m.battery,O qL m.deadline,qS C (rdBU m l).length ((rdBU m l).length+E),qS z (rdAU m l).length ((rdAU m l).length+G),O qL (k:Int)] 81) (by kernel_rfl) (by kernel_rfl) (by kernel_rfl) fun hH inv0=>?_
 refine sk hH 0 (qA #[qS x m.ways.length (m.ways.length+F),qS I m.home.length (m.home.length+H),O qL m.start,qS v m.rocks.length (m.rocks.length+D),O qL m.speed,O qL m.part,O qL m.flow,O qL m.idle,O qL m.drive,O qL m.battery,O qL m.deadline,qS C (rdBU m l).length ((rdBU m l).length+E),qS z (rdAU m l).length ((rdAU m l).length+G),O qL (k:Int)]) (Zd rfl) inv0 (fun X hX=>?_) fun t=>?_
 ·obtain⟨s0,s1,s2,s3,s4,s5,s6,s7,s8,s9,P,Y,s12,s13⟩:=ZN (m:=m) (k:=k) hX;go_simp
 simp only [pT];clear inv0;refine sk hH 1 (qA #[qS x m.ways.length (m.ways.length+F),qS I m.home.length (m.home.length+H),O qL m.start,qS v m.rocks.length (m.rocks.length+D),O qL m.speed,O qL m.part,O qL m.flow,O qL m.idle,O qL m.drive,O qL m.battery,O qL m.deadline,qS C (rdBU m l).length ((rdBU m l).length+E),qS z (rdAU m l).length ((rdAU m l).length+G),O qL (k:Int)]) (Zd rfl) t (fun X hX=>?_) fun s=>?_
 ·obtain⟨s0,s1,s2,s3,s4,s5,s6,s7,s8,s9,P,Y,s12,s13⟩:=ZN (m:=m) (k:=k) hX;go_simp
 simp only [pT];clear t;refine sk hH 3 (qP (some ⟨Bo,0,none⟩)) (Zd rfl) s (fun X hX=>?_) fun u=>?_
 ·go_simp
 simp only [pT];clear s;have b:Has X0.drew w.heap.size #[qS x m.ways.length (m.ways.length+F),qS I m.home.length (m.home.length+H),O qL m.start,qS v m.rocks.length (m.rocks.length+D),O qL m.speed,O qL m.part,O qL m.flow,O qL m.idle,O qL m.drive,O qL m.battery,O qL m.deadline,qS C (rdBU m l).length ((rdBU m l).length+E),qS z (rdAU m l).length ((rdAU m l).length+G),O qL (k:Int)] 81:=A;have c:Below w.heap.size w X0.drew:=L.out.trans ((Below.drew (qK _ _)).mono L.out.size);clear A;generalize X0.drew=X1 at *;have r:=HeadInv.put2 u (j:=2) (by kernel_rfl) (by omega)
 clear u;refine Zw (rs:=[2]) (by kernel_rfl) (by simp) b (by simp) (fun i' hi'=>?_)
 simp only [List.mem_cons,List.not_mem_nil,or_false] at hi';subst hi';refine Zo (Zd rfl) rfl (f:=78) (args:=#[qA #[qS x m.ways.length (m.ways.length+F),qS I m.home.length (m.home.length+H),O qL m.start,qS v m.rocks.length (m.rocks.length+D),O qL m.speed,O qL m.part,O qL m.flow,O qL m.idle,O qL m.drive,O qL m.battery,O qL m.deadline,qS C (rdBU m l).length ((rdBU m l).length+E),qS z (rdAU m l).length ((rdAU m l).length+G),O qL (k:Int)]]) (by go_simp) (U.out X1 c) ?_
 rintro e w2 ⟨v1,rfl,p1,b1⟩;refine⟨_,rfl,?_⟩;simp only [pT];have a:=b.below b1 b.lt;have y:=c.trans (b1.mono c.size);have P1:=qH p1;obtain⟨g1,d1,R⟩:=P1.out.len;subst R;clear p1 b1;have g:=HeadInv.put2 r (j:=4) (by kernel_rfl) (by omega)
 clear r;refine Zw (rs:=[4]) (by kernel_rfl) (by simp) a (by simp) (fun i' hi'=>?_)
 simp only [List.mem_cons,List.not_mem_nil,or_false] at hi';subst hi';refine Zo (Zd rfl) rfl (f:=77) (args:=#[qA #[qS x m.ways.length (m.ways.length+F),qS I m.home.length (m.home.length+H),O qL m.start,qS v m.rocks.length (m.rocks.length+D),O qL m.speed,O qL m.part,O qL m.flow,O qL m.idle,O qL m.drive,O qL m.battery,O qL m.deadline,qS C (rdBU m l).length ((rdBU m l).length+E),qS z (rdAU m l).length ((rdAU m l).length+G),O qL (k:Int)],qS g1 oo.length (oo.length+d1),qP (some ⟨Bo,0,none⟩)]) (by go_simp) (S.out w2 y _ P1.out) ?_
 rintro e w3 ⟨rfl,h3,M⟩;refine⟨_,rfl,?_⟩;simp only [pT];have N:Has w3 w.heap.size #[qS x m.ways.length (m.ways.length+F),qS I m.home.length (m.home.length+H),O qL m.start,qS v m.rocks.length (m.rocks.length+D),O qL m.speed,O qL m.part,O qL m.flow,O qL m.idle,O qL m.drive,O qL m.battery,O qL m.deadline,qS C (rdBU m l).length ((rdBU m l).length+E),qS z (rdAU m l).length ((rdAU m l).length+G),O qL (k:Int)] 81:=(M.block _ a.lt (fun e=>by cases e;omega)).trans a
 have HF:=qH (qI h3 (show w.grownBy w3 (some Bo) from Z7N y M))
 clear h3 M b a c y;refine sk hH 5 (.tuple #[.bool true,O qL oe]) (Zd rfl) g (fun X hX=>?_) fun q=>?_
 ·go_simp
 simp only [pT];clear g;refine sk hH 6 (.bool true) (Zd rfl) q (fun X hX=>?_) fun d=>?_
 ·go_simp
 simp only [pT];clear q;refine sk hH 7 (O qL oe) (Zd rfl) d (fun X hX=>?_) fun o=>?_
 ·go_simp
 simp only [pT];clear d;refine sk hH 8 (.bool true) (Zd rfl) o (fun X hX=>?_) fun J=>?_
 ·go_simp
 simp only [pT];clear o J hH;refine Zj (by kernel_rfl) N ?_
 simp only [List.drop_succ_cons,List.drop_zero];gi_wp2;go_wp2;go_ret;exact⟨rfl,HF.out.1,HF.out.2⟩
theorem Z4R (m : Msn) (l : List Int) (vw vh vr vb va : Value) (w : World) (T : StgAt w.heap.size w m l vw vh vr vb va) (V : VMsn m) (k : Nat) (hk : k + 1 < m.ways.length) (Bo : Nat) (vs : Value) (q1 q2 q3 q4 q5 : Int) (HO : Has w Bo #[vs, O qL q1, O qL q2, O qL q3, O qL q4, O qL q5] 38) :
  Calls Tryz.prog 36 #[qA (stgC m vw vh vr vb va k),qP (some ⟨Bo,0,none⟩)] w fun e w'=>e=qR (O qL 0) /\
   (((∀ x ∈ hmP m l k,hasB m.home x=true)/\Below w.heap.size w w')\/(∃ x ∈ hmP m l k,hasB m.home x=false/\Has w' Bo #[vs,O qL q1,O qL q2,O qL q3,O qL x.x,O qL x.y] 38/\w.grownBy w' (some Bo))):=by
 have lo:=HO.lt;have fd:=fun (W:World) (B:Below w.heap.size w W)=>Z5G m l vw vh vr vb va W (T.up B) V k hk
 have fh:=fun (W:World) (B:Below w.heap.size w W) x=>Z1G vh m.home x W ((T.msn.2.1.below B).mono B.size)
 obtain⟨-,ab,cb,rfl,-⟩:=T.bef;obtain⟨-,aa,ca,rfl,-⟩:=T.aft;obtain⟨⟨-,a1,c1,rfl,Q⟩,⟨-,a2,c2,rfl,-⟩,⟨-,a3,c3,rfl,hcr⟩⟩:=T.msn;clear T Q hcr V;unfold stgC PtsQ at *;generalize hmP m l k=hp at *;replace fd:=qH fd;replace fh:=qH fh;have HOh:=qH HO;clear HO;have b:=qH (qK w.heap.size w);go_enter Tryz.func36,Tryz.ntmps36;go_upto_region 1 with fail
 generalize g:qV w _=X0;obtain⟨E,hA,C⟩:=box1 g;clear g;have b:=qH hA;clear hA;have SB:=qH E;clear E C;have p:=SB.out;have zw0:=p.lt;obtain⟨s0,s1,s2,s3,s4,s5,s6,s7,s8,s9,s10,s11,s12,s13⟩:=ZN (m:=m) (k:=k) p;clear p;go_wp2_with fail;refine (fd.out _ b.out).mono ?_;rintro e X ⟨v1,rfl,p1,Z⟩;replace b:=zAd b Z;have I:=qH Z;clear Z;have Y:=qH p1;clear p1;obtain⟨g1,d1,S⟩:=Y.out.len;subst S;clear s0 s1 s2 s3 s4 s5 s6 s7 s8 s9 s10 s11 s12 s13;have hl7:hp.length<=70368744177663:=Y.out.1;have o:=qH (zCj SB I);have ltw1:=o.out.lt;have zw1:w.heap.size<=X.heap.size:=b.out.size;go_wp2
 go_loopw [10] (fun i wr=>∃ j:Nat,j<=hp.length/\i=O qL (j:Int)/\(∀ t,t<j->hasB m.home (nth hp t)=true)/\Below X.heap.size X wr) (fun i _=>hp.length-(intOf i).toNat)
 case atStart=>exact⟨0,Nat.zero_le _,rfl,(fun t M=>by omega),qK _ _⟩
 case round =>
  obtain⟨j,hj,rfl,d,r⟩:=hrel;obtain⟨wo,hwo⟩:∃ x,x=wr:=⟨_,rfl⟩;subst hwo;by_cases hjn:j<hp.length
  ·have dj:decide ((j:Int)<(hp.length:Int))=true:=by rw [decide_eq_true_eq];omega
   have hj':(j:Int)<(hp.length:Int):=by omega
   have hj0:(0:Int)<=(j:Int):=by omega
   obtain⟨-,a9,c9,e9,H⟩:=Y.out;obtain⟨b9,o9,e8,v,K⟩:=H.resolve_left (by intro h;rw [h] at hjn;simp at hjn)
   rw [e8] at e9;simp only [Value.slice.injEq] at e9;obtain⟨e7,-,-⟩:=e9;subst e7;obtain⟨f,c⟩:=K j hjn;have n:nth hp j ∈ hp:=by rw [Z56 hjn];exact List.getElem_mem _
   have HBo:=qH r;obtain⟨pt,q⟩:∃ x,nth hp j=x:=⟨_,rfl⟩;rw [q] at f c n;obtain⟨s,D⟩:=pt;simp only at f c;replace f:=cY r f v;replace c:=cY r c v;have u:=qH (qI d (qI q n));clear d q n r K H e8;go_upto_region 4 with fail
   generalize J:qV wo _=X2;obtain⟨E,F,hz2⟩:=box1 J;clear J f c hz2;have L:=qH E;clear E;have B2:=zAd HBo F;have P:=qH (b.out.trans (B2.out.mono b.out.size));clear F;have z:=o.out.below B2.out o.out.lt;have s1:=cX 1 z rfl;have f:=cX 0 L.out rfl;have c:=cX 1 L.out rfl;go_wp2_with fail;refine (fh.out X2 P.out ⟨s,D⟩).mono ?_;rintro e w4 ⟨rfl,b4⟩;have R:=zAd B2 b4;have A:=L.out.below b4 L.out.lt;clear s1 f c b4 z;cases hb9':hasB m.home ⟨s,D⟩
   ·have f:=cX 0 A rfl
    have c:=cX 1 A rfl;have a:=HOh.out.below (b.out.trans (R.out.mono b.out.size)) lo;have t1:=cX 4 a rfl;have t2:=Ze a 4;have t3:=cX 5 a rfl;have t4:=Ze a 5;have N:=qH (qI a hb9');clear a hb9';go_wp2;clear f c t1 t2 t3 t4;have G:=(N.out.1.set 4 (O qL s)).set 5 (O qL D);simp only [zq4,zr4,zs4] at G;have U:=Z2f (Z2f (Z5m (b.out.trans (R.out.mono b.out.size)) (some Bo)) (ZU w4 Bo 4 (O qL s))) (ZU (w4.setCell ⟨Bo,4,none⟩ (O qL s)) Bo 5 (O qL D));go_ret;exact⟨rfl,.inr ⟨⟨s,D⟩,u.out.2.2,N.out.2,G,U⟩⟩
   ·have N:=qH hb9'
    clear hb9';go_wp2;go_roundw
    case rel=>exact⟨j+1,by omega,by go_num,(fun t M=>by
     by_cases h:t<j
     ·exact u.out.1 t h
     ·obtain rfl:t=j:=by omega
      rw [u.out.2.1];exact N.out),R.out⟩
    case measure=>simp [intOf];omega
  ·obtain rfl:j=hp.length:=by omega
   have u:=qH (qI d r);clear d r;go_wp2;go_ret;exact⟨rfl,.inl ⟨(fun x hx=>by
    obtain⟨t,M,rfl⟩:=List.getElem_of_mem hx;have:=u.out.1 t M
    rwa [Z56 M] at this),b.out.trans (u.out.2.mono b.out.size)⟩⟩
noncomputable def onR (m:Msn) (r:Int) (x:Pt):Bool:=decide (0<=r) && (decide (r<m.rocks.length) && hasB (rk m.rocks r.toNat) x)
def insB (x:Pt):Bool:=decide (-500000<=x.x) && (decide (x.x<=500000) && (decide (-500000<=x.y) && decide (x.y<=500000)))
def notB (r:Int) (x:Pt):Bool:=decide (r=0) && (decide (x.x=0) && decide (x.y=0))
theorem Z3k (m:Msn) (l:List Int) (vw vh vr vb va:Value) (w:World) (T:StgAt w.heap.size w m l vw vh vr vb va) (k:Nat) (vs:Value) (q1 q2 q3:Int) (x:Pt) :
  Calls Tryz.prog 107 #[qA (stgC m vw vh vr vb va k),qA #[vs,O qL q1,O qL q2,O qL q3,O qL x.x,O qL x.y]] w fun e w'=>e=qR (.bool (onR m q3 x))/\Below w.heap.size w w':=by
 have n:=fun (W:World) v p h=>Z1G v p x W h
 unfold onR;obtain⟨-,S,Y,rfl,-⟩:=T.bef;obtain⟨-,Q,ca,rfl,-⟩:=T.aft;obtain⟨⟨-,N,c1,rfl,q⟩,⟨-,a2,c2,rfl,-⟩,⟨-,M,V,rfl,b⟩⟩:=T.msn;have K:=T.msn.2.2;clear T q;unfold stgC at *;obtain⟨R,P⟩:=x;simp only at n ⊢;replace n:=qH n;have D:=qH b;clear b K;have a:=qH (qK w.heap.size w);go_enter Tryz.func107,Tryz.ntmps107;go_upto_region 1 with fail
 generalize d:qV (qV w _) _=X0;obtain⟨r,q1,C,g⟩:=box2 d;clear d;have a:=qH C;clear C;have J:=qH r;clear r;have z:=qH q1;clear q1 g;have r:=Low.fact (cX 3 J.out rfl);have U:=Low.fact (cX 3 z.out rfl);have L:=Low.fact (cX 4 z.out rfl);have y5:=Low.fact (cX 5 z.out rfl);by_cases h0:0<=q3
 ·have F:decide (q3>=0)=true:=by rw [decide_eq_true_eq];exact h0
  have c:decide (0<=q3)=true:=by rw [decide_eq_true_eq];exact h0
  by_cases h1:q3<m.rocks.length
  ·have o:decide (q3<(m.rocks.length:Int))=true:=by rw [decide_eq_true_eq];exact h1
   obtain⟨i,rfl⟩:∃ i:Nat,q3=i:=⟨q3.toNat,by omega⟩
   have j:i<m.rocks.length:=by omega
   obtain⟨br,G,I,t,b⟩:=D.out.resolve_left (by intro h;rw [h] at j;simp at j)
   subst I;obtain⟨u,A,s⟩:=b i j;have E:=qH (fun w1 (B:Low X0 w1)=>n.out w1 u (rk m.rocks i) ((s.below (a.out.trans (B.out.mono a.out.size))).mono (Nat.le_trans a.out.size B.out.size)))
   obtain⟨X,Z,rfl⟩:=s.len;have H:=Low.fact (cY a.out A t);clear A s b
   (refine Zg (by kernel_rfl) (by kernel_rfl) ?_;(iterate 25 (apply qw3;(case hw=>rfl);(case hval=>(intro w1 hw1 hcx;simp only [Oper.quietAt];go_simp;first | done | (first | (go_at_call 81;exact Low.calls hw1 (E.out _ hw1))) | rfl | exact⟨rfl,rfl⟩));simp only [pT]));refine wpQuiet_nil ?_;intro w2 hw2)
   have f:=qH (a.out.trans (hw2.out.mono a.out.size));clear hw2;go_wp2;go_ret;exact⟨by simp [c,o,j],f.out⟩
  ·have o:decide (q3<(m.rocks.length:Int))=false:=by rw [decide_eq_false_iff_not];exact h1
   (refine Zg (by kernel_rfl) (by kernel_rfl) ?_;(iterate 13 (apply qw3;(case hw=>rfl);(case hval=>(intro w1 hw1 hcx;simp only [Oper.quietAt];go_simp;first | done | rfl | exact⟨rfl,rfl⟩));simp only [pT]));(iterate 10 (apply Zr;(case hw=>rfl);simp only [pT]));(iterate 2 (apply qw3;(case hw=>rfl);(case hval=>(intro w1 hw1 hcx;simp only [Oper.quietAt];go_simp;first | done | rfl | exact⟨rfl,rfl⟩));simp only [pT]));refine wpQuiet_nil ?_;intro w2 hw2)
   have f:=qH (a.out.trans (hw2.out.mono a.out.size));clear hw2;go_wp2;go_ret;exact⟨by simp [c,o],f.out⟩
 ·have F:decide (q3>=0)=false:=by rw [decide_eq_false_iff_not];exact h0
  have c:decide (0<=q3)=false:=by rw [decide_eq_false_iff_not];exact h0
  (refine Zg (by kernel_rfl) (by kernel_rfl) ?_;(iterate 4 (apply qw3;(case hw=>rfl);(case hval=>(intro w1 hw1 hcx;simp only [Oper.quietAt];go_simp;first | done | rfl | exact⟨rfl,rfl⟩));simp only [pT]));(iterate 7 (apply Zr;(case hw=>rfl);simp only [pT]));(iterate 2 (apply qw3;(case hw=>rfl);(case hval=>(intro w1 hw1 hcx;simp only [Oper.quietAt];go_simp;first | done | rfl | exact⟨rfl,rfl⟩));simp only [pT]));(iterate 10 (apply Zr;(case hw=>rfl);simp only [pT]));(iterate 2 (apply qw3;(case hw=>rfl);(case hval=>(intro w1 hw1 hcx;simp only [Oper.quietAt];go_simp;first | done | rfl | exact⟨rfl,rfl⟩));simp only [pT]));refine wpQuiet_nil ?_;intro w2 hw2)
  have f:=qH (a.out.trans (hw2.out.mono a.out.size));clear hw2;go_wp2;go_ret;exact⟨by simp [c],f.out⟩
theorem Z6B (x:Pt) (w:World) :
  Calls Tryz.prog 108 #[qA #[O qL x.x,O qL x.y]] w fun e w'=>e=qR (.bool (insB x))/\Below w.heap.size w w':=by
 unfold insB;obtain⟨a,b⟩:=x;simp only;cases h1:decide (-500000<=a)
 ·go_enter Tryz.func108,Tryz.ntmps108
  go_wp2;go_ret;exact⟨rfl,zB2⟩
 cases h2:decide (a<=500000)
 ·go_enter Tryz.func108,Tryz.ntmps108
  go_wp2;go_ret;exact⟨rfl,zB2⟩
 cases h3:decide (-500000<=b)
 ·go_enter Tryz.func108,Tryz.ntmps108
  go_wp2;go_ret;exact⟨rfl,zB2⟩
 cases h4:decide (b<=500000)
 ·go_enter Tryz.func108,Tryz.ntmps108
  go_wp2;go_ret;exact⟨rfl,zB2⟩
 go_enter Tryz.func108,Tryz.ntmps108;go_wp2;go_ret;exact⟨rfl,zB2⟩
theorem Z5A (cs : Array Value) (a b c d e f g h i j k l' m' n' : Value) (hcs : cs = #[a, b, c, d, e, f, g, h, i, j, k, l', m', n']) (vs : Value) (q1 q2 q3 : Int) (x : Pt) (w : World) :
  Calls Tryz.prog 57 #[qA cs,qA #[vs,O qL q1,O qL q2,O qL q3,O qL x.x,O qL x.y]] w fun e w'=>e=qR (.bool (notB q3 x))/\Below w.heap.size w w':=by
 subst hcs;unfold notB;obtain⟨m,l⟩:=x;simp only;by_cases h0:q3=0
 ·subst h0
  by_cases h1:m=0
  ·subst h1
   by_cases h2:l=0
   ·subst h2
    go_enter Tryz.func57,Tryz.ntmps57;go_wp2;go_ret;exact⟨rfl,zB2⟩
   ·have s:decide (l=0)=false:=by rw [decide_eq_false_iff_not];exact h2
    have n:(l == 0)=false:=by rw [beq_eq_false_iff_ne];exact h2
    rw [s];go_enter Tryz.func57,Tryz.ntmps57;go_wp2;go_ret;exact⟨rfl,zB2⟩
  ·have r:decide (m=0)=false:=by rw [decide_eq_false_iff_not];exact h1
   have p:(m == 0)=false:=by rw [beq_eq_false_iff_ne];exact h1
   rw [r];go_enter Tryz.func57,Tryz.ntmps57;go_wp2;go_ret;exact⟨rfl,zB2⟩
 ·have q:decide (q3=0)=false:=by rw [decide_eq_false_iff_not];exact h0
  have o:(q3 == 0)=false:=by rw [beq_eq_false_iff_ne];exact h0
  rw [q];go_enter Tryz.func57,Tryz.ntmps57;go_wp2;go_ret;exact⟨rfl,zB2⟩
end
end Go.Proofs.YthipcinibldgnaaGreat
