/- package plan: newTrip. | package tryst: on, of what is valid. -/
import Derived.Test.YtdolkgihppgpcaaGreatBin22
set_option linter.unusedSimpArgs false
set_option linter.unusedVariables false
namespace Go.Proofs.YtdolkgihppgpcaaGreat
section
open Go.RowKit
theorem zCn {a b:World} {g:Nat} {k:Array Value} {t:TypeId} (h:Hid (Has a g k t)) (q:Hid (Below a.heap.size a b)):Has b g k t:=h.out.below q.out h.out.lt
end
section
attribute [local irreducible] wpQuiet
open Go.RowKit
def tripCells (m:Msn) (vw vh vr vb va vt ve:Value):Array Value:=#[vw,vh,.int .i64 m.start,vr,.int .i64 m.speed,.int .i64 m.part,.int .i64 m.flow,.int .i64 m.idle,.int .i64 m.drive,.int .i64 m.battery,.int .i64 m.deadline,vb,va,vt,ve]
def trip0:Array Value:=#[.slice none 0 0,.slice none 0 0,.int .i64 0,.slice none 0 0,.int .i64 0,.int .i64 0,.int .i64 0,.int .i64 0,.int .i64 0,.int .i64 0,.int .i64 0,.slice none 0 0,.slice none 0 0,.slice none 0 0,.slice none 0 0]
theorem set15 {X Z:World} {B:Nat} {cs:Array Value} {T:TypeId} {v0 v1 v2 v3 v4 v5 v6 v7 v8 v9 v10 v11 v12 v13 v14:Value} (H:Has X B cs T) (hs:cs.size=15) (hz:(((((((((((((((X.setCell ⟨B,0,none⟩ v0).setCell ⟨B,1,none⟩ v1).setCell ⟨B,2,none⟩ v2).setCell ⟨B,3,none⟩ v3).setCell ⟨B,4,none⟩ v4).setCell ⟨B,5,none⟩ v5).setCell ⟨B,6,none⟩ v6).setCell ⟨B,7,none⟩ v7).setCell ⟨B,8,none⟩ v8).setCell ⟨B,9,none⟩ v9).setCell ⟨B,10,none⟩ v10).setCell ⟨B,11,none⟩ v11).setCell ⟨B,12,none⟩ v12).setCell ⟨B,13,none⟩ v13).setCell ⟨B,14,none⟩ v14)=Z) :
  Has Z B #[v0,v1,v2,v3,v4,v5,v6,v7,v8,v9,v10,v11,v12,v13,v14] T∧(∀ n,n≤B→Below n X Z)∧Z.heap.size=X.heap.size∧∀ b,b≠B→Z.heap[b]?=X.heap[b]?:=by
 subst hz;obtain⟨l,rfl⟩:∃ l:List Value,cs=l.toArray:=⟨cs.toList,by simp⟩
 obtain⟨u0,u1,u2,u3,u4,u5,u6,u7,u8,u9,u10,u11,u12,u13,u14,rfl⟩:∃ u0 u1 u2 u3 u4 u5 u6 u7 u8 u9 u10 u11 u12 u13 u14,l=[u0,u1,u2,u3,u4,u5,u6,u7,u8,u9,u10,u11,u12,u13,u14]:=by
  match l,hs with
  | [u0,u1,u2,u3,u4,u5,u6,u7,u8,u9,u10,u11,u12,u13,u14],_=>exact⟨_,_,_,_,_,_,_,_,_,_,_,_,_,_,_,rfl⟩
 refine⟨?_,fun n hn=>?_,by simp,fun b hb=>?_⟩
 ·have:=(((((((((((((((H.set 0 v0).set 1 v1).set 2 v2).set 3 v3).set 4 v4).set 5 v5).set 6 v6).set 7 v7).set 8 v8).set 9 v9).set 10 v10).set 11 v11).set 12 v12).set 13 v13).set 14 v14)
  simpa only [zq4,zr4,zs4] using this
 ·exact ((((((((((((((((Below.refl n X).setCell (p:=⟨B,0,none⟩) hn v0).setCell (p:=⟨B,1,none⟩) hn v1).setCell (p:=⟨B,2,none⟩) hn v2).setCell (p:=⟨B,3,none⟩) hn v3).setCell (p:=⟨B,4,none⟩) hn v4).setCell (p:=⟨B,5,none⟩) hn v5).setCell (p:=⟨B,6,none⟩) hn v6).setCell (p:=⟨B,7,none⟩) hn v7).setCell (p:=⟨B,8,none⟩) hn v8).setCell (p:=⟨B,9,none⟩) hn v9).setCell (p:=⟨B,10,none⟩) hn v10).setCell (p:=⟨B,11,none⟩) hn v11).setCell (p:=⟨B,12,none⟩) hn v12).setCell (p:=⟨B,13,none⟩) hn v13).setCell (p:=⟨B,14,none⟩) hn v14)
 ·iterate 15 (rw [Below.heap_setCell _ _ _ _ (by exact hb)])
theorem Z9.offB {W Z:World} {v:Value} {l:List Int} {base B:Nat} (h:Z9 W.heap.size W v l) (hn:NewI base v) (hB:B<base) (hz:Z.heap.size=W.heap.size) (hq:∀ b,b≠B→Z.heap[b]?=W.heap[b]?):Z9 Z.heap.size Z v l:=by
 obtain⟨hl,a,cap,e,hc⟩:=h;refine⟨hl,a,cap,e,hc.imp id ?_⟩;rintro ⟨b,o,e1,hb,hc⟩;have hb2:base≤b:=hn b o _ _ (by rw [e,e1])
 exact⟨b,o,e1,by omega,fun j hj=>by rw [World.cell?_of_block (hq b (by omega))];exact hc j hj⟩
theorem set2 {X Z:World} {B i j:Nat} {cs:Array Value} {T:TypeId} {u v:Value} (H:Has X B cs T) (hz:(X.setCell ⟨B,i,none⟩ u).setCell ⟨B,j,none⟩ v=Z) :
  Has Z B ((cs.setIfInBounds i u).setIfInBounds j v) T∧(∀ n,n≤B→Below n X Z)∧Z.heap.size=X.heap.size∧∀ b,b≠B→Z.heap[b]?=X.heap[b]?:=by
 subst hz;refine⟨(H.set i u).set j v,fun n hn=>((Below.refl n X).setCell (p:=⟨B,i,none⟩) hn u).setCell (p:=⟨B,j,none⟩) hn v,by simp,fun b hb=>?_⟩
 rw [Below.heap_setCell _ _ _ _ (by exact hb),Below.heap_setCell _ _ _ _ (by exact hb)]
theorem Has.eq {X Z:World} {B:Nat} {cs:Array Value} {T:TypeId} (H:Has X B cs T) {C:Nat} (h:∀ b,b≠C→Z.heap[b]?=X.heap[b]?) (hne:B≠C):Has Z B cs T:=(h B hne).trans H
set_option maxRecDepth 8000 in
set_option maxHeartbeats 3200000 in
theorem Z9I (m:Msn) (vw vh vr vl:Value) (l:List Int) (w:World) (hm:MsnAt w.heap.size w m vw vh vr) (hl:Z9 w.heap.size w vl l) (hok:radOkB m l=false) :
  Calls Tryz.prog 36 #[.agg (Zc m vw vh vr),vl] w fun e w'=>e=.returned (.tuple #[.agg trip0,.int .i64 1])∧Below w.heap.size w w':=by
 have f3:=fun w1 (B:Below w.heap.size w w1)=>Z7g m vw vh vr vl l w1 ((hm.below B).mono B.size) ((hl.below B).mono B.size)
 rw [show rdBL m l=[] by simp [rdBL,hok],show rdAL m l=[] by simp [rdAL,hok],show rdE m l=1 by simp [rdE,hok]] at f3
 obtain⟨⟨-,a1,cap1,rfl,-⟩,⟨-,a2,cap2,rfl,-⟩,⟨-,a3,cap3,rfl,-⟩⟩:=hm;obtain⟨-,al,capl,rfl,-⟩:=hl;unfold Zc at *;replace f3:=Lib.hid f3;clear hok;have BW:=Lib.hid (Below.refl w.heap.size w);go_enter Tryz.func36,Tryz.ntmps36;go_wp2_with fail;generalize hXX0:World.alloc (World.alloc (World.alloc w _) _) _=X0;obtain⟨q0,q1,q2,hA,hzX0⟩:=box3 hXX0;clear hXX0;have BW:=Lib.hid hA;clear hA;have MB:=Lib.hid q0;clear q0;have RV:=Lib.hid q1;clear q1;have TB:=Lib.hid q2;clear q2;obtain⟨c0,c1,c2,c3,c4,c5,c6,c7,c8,c9,c10⟩:=Zi (m:=m) MB.out;refine (f3.out _ BW.out).mono ?_;rintro e w1 ⟨v1,u1,rfl,p1,q1,b1⟩;replace BW:=zAg BW b1;have B_X0:=Lib.hid b1;clear b1;obtain⟨-,g1,k1,hv1,-⟩:=p1;subst hv1;obtain⟨-,g2,k2,hv2,-⟩:=q1;subst hv2;clear c0 c1 c2 c3 c4 c5 c6 c7 c8 c9 c10;have H2:=(zCn TB B_X0);have H1:=(zCn RV B_X0);have s11:=H2.cell (i:=11) rfl;have s12:=H2.cell (i:=12) rfl;have y11:=Ze H2 11;have y12:=Ze H2 12;have r0:=H1.cell (i:=0) rfl;have z0:=Ze H1 0;have r1:=H1.cell (i:=1) rfl;have z1:=Ze H1 1;have r2:=H1.cell (i:=2) rfl;have z2:=Ze H1 2;have r3:=H1.cell (i:=3) rfl;have z3:=Ze H1 3;have r4:=H1.cell (i:=4) rfl;have z4:=Ze H1 4;have r5:=H1.cell (i:=5) rfl;have z5:=Ze H1 5;have r6:=H1.cell (i:=6) rfl;have z6:=Ze H1 6;have r7:=H1.cell (i:=7) rfl;have z7:=Ze H1 7;have r8:=H1.cell (i:=8) rfl;have z8:=Ze H1 8;have r9:=H1.cell (i:=9) rfl;have z9:=Ze H1 9;have r10:=H1.cell (i:=10) rfl;have z10:=Ze H1 10;have r11:=H1.cell (i:=11) rfl;have z11:=Ze H1 11;have r12:=H1.cell (i:=12) rfl;have z12:=Ze H1 12;have r13:=H1.cell (i:=13) rfl;have z13:=Ze H1 13;have r14:=H1.cell (i:=14) rfl;have z14:=Ze H1 14;have HK:=Lib.hid (And.intro H1 H2);clear H1 H2;go_wp2;generalize hX:World.setCell (World.setCell w1 _ _) _ _=X at *;obtain⟨-,hl1,hs1,he1⟩:=set2 HK.out.2 hX;have H1:=HK.out.1.eq he1 (by omega)
 have BX:=BW.out.trans (hl1 _ (by omega))
 generalize hZ:World.setCell (World.setCell (World.setCell (World.setCell (World.setCell (World.setCell (World.setCell (World.setCell (World.setCell (World.setCell (World.setCell (World.setCell (World.setCell (World.setCell (World.setCell X _ _) _ _) _ _) _ _) _ _) _ _) _ _) _ _) _ _) _ _) _ _) _ _) _ _) _ _) _ _=Z at *;obtain⟨HZ,hl2,hs2,he2⟩:=set15 H1 rfl hZ;have BZ:=BX.trans (hl2 _ (by omega))
 clear r0 z0 r1 z1 r2 z2 r3 z3 r4 z4 r5 z5 r6 z6 r7 z7 r8 z8 r9 z9 r10 z10 r11 z11 r12 z12 r13 z13 r14 z14 hX hZ;have r0:=HZ.cell (i:=0) rfl;have r1:=HZ.cell (i:=1) rfl;have r2:=HZ.cell (i:=2) rfl;have r3:=HZ.cell (i:=3) rfl;have r4:=HZ.cell (i:=4) rfl;have r5:=HZ.cell (i:=5) rfl;have r6:=HZ.cell (i:=6) rfl;have r7:=HZ.cell (i:=7) rfl;have r8:=HZ.cell (i:=8) rfl;have r9:=HZ.cell (i:=9) rfl;have r10:=HZ.cell (i:=10) rfl;have r11:=HZ.cell (i:=11) rfl;have r12:=HZ.cell (i:=12) rfl;have r13:=HZ.cell (i:=13) rfl;have r14:=HZ.cell (i:=14) rfl;refine bodyPost_ret (v:=.tuple #[.agg trip0,.int .i64 1]) (by simp [results,trip0,Tryz.f36,go_sem,r0,r1,r2,r3,r4,r5,r6,r7,r8,r9,r10,r11,r12,r13,r14]) rfl ⟨rfl,BZ⟩
set_option maxRecDepth 8000 in
set_option maxHeartbeats 6400000 in
theorem Z8G (m:Msn) (vw vh vr vl:Value) (l:List Int) (w:World) (hm:MsnAt w.heap.size w m vw vh vr) (hl:Z9 w.heap.size w vl l) (hok:radOkB m l=true) :
  Calls Tryz.prog 36 #[.agg (Zc m vw vh vr),vl] w fun e w'=>∃ vb va vt ve,e=.returned (.tuple #[.agg (tripCells m vw vh vr vb va vt ve),.int .i64 0]) ∧
   (Z9 w'.heap.size w' vb (rdBU m l)∧Z9 w'.heap.size w' va (rdAU m l)∧Z9 w'.heap.size w' vt (usedT m l)∧Z9 w'.heap.size w' ve (usedE m l))∧Below w.heap.size w w':=by
 have hvs:validB m=true∧stopsB m l=true:=by simpa [radOkB] using hok
 have f3:=fun w1 (B:Below w.heap.size w w1)=>Z1p m vw vh vr vl l w1 ((hm.below B).mono B.size) ((hl.below B).mono B.size) hvs.1 hvs.2
 have f4:=fun w1 (B:Below w.heap.size w w1)=>Z8E m vw vh vr vl l w1 ((hm.below B).mono B.size) ((hl.below B).mono B.size) hvs.1 hvs.2
 obtain⟨⟨-,a1,cap1,rfl,-⟩,⟨-,a2,cap2,rfl,-⟩,⟨-,a3,cap3,rfl,-⟩⟩:=hm;obtain⟨-,al,capl,rfl,-⟩:=hl;unfold Zc at *;generalize rdAU m l=la at *;generalize rdBU m l=lb at *;generalize usedT m l=lt at *;generalize usedE m l=le at *;replace f3:=Lib.hid f3;replace f4:=Lib.hid f4;clear hok hvs;have BW:=Lib.hid (Below.refl w.heap.size w);go_enter Tryz.func36,Tryz.ntmps36;go_wp2_with fail;generalize hXX0:World.alloc (World.alloc (World.alloc w _) _) _=X0;obtain⟨q0,q1,q2,hA,hzX0⟩:=box3 hXX0;clear hXX0;have BW:=Lib.hid hA;clear hA;have MB:=Lib.hid q0;clear q0;have RV:=Lib.hid q1;clear q1;have TB:=Lib.hid q2;clear q2;obtain⟨c0,c1,c2,c3,c4,c5,c6,c7,c8,c9,c10⟩:=Zi (m:=m) MB.out;refine (f3.out _ BW.out).mono ?_;rintro e w1 ⟨v1,u1,rfl,p1,q1,b1,m1,n1⟩;replace BW:=zAg BW b1;have B_X0:=Lib.hid b1;clear b1;have BE:=Lib.hid (And.intro p1 m1);have AF:=Lib.hid (And.intro q1 n1);obtain⟨-,g1,k1,hv1,-⟩:=p1;subst hv1;obtain⟨-,g2,k2,hv2,-⟩:=q1;subst hv2;clear m1 n1 c0 c1 c2 c3 c4 c5 c6 c7 c8 c9 c10;have H2:=(zCn TB B_X0);have H1:=(zCn RV B_X0);have H0:=(zCn MB B_X0);have s11:=H2.cell (i:=11) rfl;have s12:=H2.cell (i:=12) rfl;have y11:=Ze H2 11;have y12:=Ze H2 12;obtain⟨c0,c1,c2,c3,c4,c5,c6,c7,c8,c9,c10⟩:=Zi (m:=m) H0;have HK:=Lib.hid (And.intro H0 (And.intro H1 H2));clear H0 H1 H2;go_wp2_with fail;clear c0 c1 c2 c3 c4 c5 c6 c7 c8 c9 c10 s11 s12 y11 y12;generalize hX:World.setCell (World.setCell w1 _ _) _ _=X at *;obtain⟨H2,hl1,hs1,he1⟩:=set2 HK.out.2.2 hX;clear hX;simp only [zq4,zr4,zs4] at H2;have H1:=HK.out.2.1.eq he1 (by omega)
 have BX:=Lib.hid (BW.out.trans (hl1 _ (by omega)))
 have I1:=Lib.hid (BE.out.1.offB BE.out.2 (by omega) hs1 he1)
 have I2:=Lib.hid (AF.out.1.offB AF.out.2 (by omega) hs1 he1)
 have HK2:=Lib.hid (And.intro H1 H2);have hzX:X.heap.size=w1.heap.size:=hs1;have hz1:=B_X0.out.size;clear HK H1 H2 hl1 hs1 he1;refine (f4.out _ BX.out).mono ?_;rintro e w2 ⟨v2,u2,rfl,p2,q2,b2,m2,n2⟩;have N1:=Lib.hid (And.intro BE.out.2 AF.out.2);clear BE AF;have B2:=zAg BX b2;replace I1:=Lib.hid ((I1.out.below b2).mono b2.size);replace I2:=Lib.hid ((I2.out.below b2).mono b2.size);have I3:=Lib.hid p2;have I4:=Lib.hid q2;have N2:=Lib.hid (And.intro m2 n2);obtain⟨-,g3,k3,hv3,-⟩:=p2;subst hv3;obtain⟨-,g4,k4,hv4,-⟩:=q2;subst hv4;have H1:=HK2.out.1.below b2 HK2.out.1.lt;have H2:=HK2.out.2.below b2 HK2.out.2.lt;have hz2:=b2.size;clear b2 HK2 m2 n2;have s13:=H2.cell (i:=13) rfl;have s14:=H2.cell (i:=14) rfl;have y13:=Ze H2 13;have y14:=Ze H2 14;have HK:=Lib.hid (And.intro H1 H2);clear H1 H2;go_upto_region 7 with fail
 generalize hY:World.setCell (World.setCell w2 _ _) _ _=Y at *;obtain⟨H2,hl1,hs1,he1⟩:=set2 HK.out.2 hY;clear hY s13 s14 y13 y14;simp only [zq4,zr4,zs4] at H2;have H1:=HK.out.1.eq he1 (by omega)
 have BY:=Lib.hid (B2.out.trans (hl1 _ (by omega)))
 replace I1:=Lib.hid (I1.out.offB N1.out.1 (by omega) hs1 he1)
 replace I2:=Lib.hid (I2.out.offB N1.out.2 (by omega) hs1 he1)
 replace I3:=Lib.hid (I3.out.offB N2.out.1 (by omega) hs1 he1)
 replace I4:=Lib.hid (I4.out.offB N2.out.2 (by omega) hs1 he1)
 clear hl1 hs1 he1 HK;have r0:=H1.cell (i:=0) rfl;have z0:=Ze H1 0;have r1:=H1.cell (i:=1) rfl;have z1:=Ze H1 1;have r2:=H1.cell (i:=2) rfl;have z2:=Ze H1 2;have r3:=H1.cell (i:=3) rfl;have z3:=Ze H1 3;have r4:=H1.cell (i:=4) rfl;have z4:=Ze H1 4;have r5:=H1.cell (i:=5) rfl;have z5:=Ze H1 5;have r6:=H1.cell (i:=6) rfl;have z6:=Ze H1 6;have r7:=H1.cell (i:=7) rfl;have z7:=Ze H1 7;have r8:=H1.cell (i:=8) rfl;have z8:=Ze H1 8;have r9:=H1.cell (i:=9) rfl;have z9:=Ze H1 9;have r10:=H1.cell (i:=10) rfl;have z10:=Ze H1 10;have r11:=H1.cell (i:=11) rfl;have z11:=Ze H1 11;have r12:=H1.cell (i:=12) rfl;have z12:=Ze H1 12;have r13:=H1.cell (i:=13) rfl;have z13:=Ze H1 13;have r14:=H1.cell (i:=14) rfl;have z14:=Ze H1 14;have s0:=H2.cell (i:=0) rfl;have s1:=H2.cell (i:=1) rfl;have s2:=H2.cell (i:=2) rfl;have s3:=H2.cell (i:=3) rfl;have s4:=H2.cell (i:=4) rfl;have s5:=H2.cell (i:=5) rfl;have s6:=H2.cell (i:=6) rfl;have s7:=H2.cell (i:=7) rfl;have s8:=H2.cell (i:=8) rfl;have s9:=H2.cell (i:=9) rfl;have s10:=H2.cell (i:=10) rfl;have s11:=H2.cell (i:=11) rfl;have s12:=H2.cell (i:=12) rfl;have s13:=H2.cell (i:=13) rfl;have s14:=H2.cell (i:=14) rfl;have HK:=Lib.hid (And.intro H1 H2);clear H1 H2;go_wp2;generalize hZ:World.setCell (World.setCell (World.setCell (World.setCell (World.setCell (World.setCell (World.setCell (World.setCell (World.setCell (World.setCell (World.setCell (World.setCell (World.setCell (World.setCell (World.setCell Y _ _) _ _) _ _) _ _) _ _) _ _) _ _) _ _) _ _) _ _) _ _) _ _) _ _) _ _) _ _=Z at *;obtain⟨HZ,hl2,hs2,he2⟩:=set15 HK.out.1 rfl hZ;have BZ:=BY.out.trans (hl2 _ (by omega))
 clear r0 z0 r1 z1 r2 z2 r3 z3 r4 z4 r5 z5 r6 z6 r7 z7 r8 z8 r9 z9 r10 z10 r11 z11 r12 z12 r13 z13 r14 z14 hZ s0 s1 s2 s3 s4 s5 s6 s7 s8 s9 s10 s11 s12 s13 s14;have r0:=HZ.cell (i:=0) rfl;have r1:=HZ.cell (i:=1) rfl;have r2:=HZ.cell (i:=2) rfl;have r3:=HZ.cell (i:=3) rfl;have r4:=HZ.cell (i:=4) rfl;have r5:=HZ.cell (i:=5) rfl;have r6:=HZ.cell (i:=6) rfl;have r7:=HZ.cell (i:=7) rfl;have r8:=HZ.cell (i:=8) rfl;have r9:=HZ.cell (i:=9) rfl;have r10:=HZ.cell (i:=10) rfl;have r11:=HZ.cell (i:=11) rfl;have r12:=HZ.cell (i:=12) rfl;have r13:=HZ.cell (i:=13) rfl;have r14:=HZ.cell (i:=14) rfl;refine bodyPost_ret (v:=.tuple #[.agg (tripCells m _ _ _ _ _ _ _),.int .i64 0]) (by simp [results,tripCells,Tryz.f36,go_sem,r0,r1,r2,r3,r4,r5,r6,r7,r8,r9,r10,r11,r12,r13,r14]) rfl ⟨_,_,_,_,rfl,⟨I1.out.offB N1.out.1 (by omega) hs2 he2,I2.out.offB N1.out.2 (by omega) hs2 he2,I3.out.offB N2.out.1 (by omega) hs2 he2,I4.out.offB N2.out.2 (by omega) hs2 he2⟩,BZ⟩
theorem Z9.off {W:World} {v:Value} {l:List Int} {base q i:Nat} (h:Z9 W.heap.size W v l) (hn:NewI base v) (hq:q<base) (u:Value):Z9 (W.setCell ⟨q,i,none⟩ u).heap.size (W.setCell ⟨q,i,none⟩ u) v l:=by
 obtain⟨hl,a,cap,e,hc⟩:=h;refine⟨hl,a,cap,e,hc.imp id ?_⟩;rintro ⟨b,o,e1,hb,hc⟩;have hb2:base≤b:=hn b o _ _ (by rw [e,e1])
 refine⟨b,o,e1,by rw [World.size_setCell];exact hb,fun j hj=>?_⟩
 have hne:(⟨q,i,none⟩:Addr)≠⟨b,o+j,none⟩:=by intro h;simp only [Addr.mk.injEq] at h;omega
 rw [World.cell?_setCell_other]
 ·exact hc j hj
 ·exact hne
end
end Go.Proofs.YtdolkgihppgpcaaGreat
