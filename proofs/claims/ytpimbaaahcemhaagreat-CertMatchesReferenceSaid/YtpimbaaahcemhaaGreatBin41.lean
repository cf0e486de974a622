/- landfallref36: Make. -/
import Derived.Test.YtpimbaaahcemhaaGreatBin39
namespace Go.Proofs.YtpimbaaahcemhaaGreat
open Go.RowKit
attribute [local irreducible] wpQuiet
theorem Za.lt_own {W:World} {n0:Nat} {v:Value} {l:List Int} (h:Za n0 W v l) {r:Nat} (hr:v.ownBlock=some r):l=[]∨r<n0:=by
 obtain⟨-,a,cap,e,hc⟩:=h;rcases hc with hc | ⟨b,o,e1,hb,-⟩
 ·exact .inl hc
 ·right
  rw [e,e1] at hr;simp only [Value.ownBlock,Option.some.injEq] at hr;omega
structure StH (bC:Nat) (X:World) (v1 v2 v0:Value) (l:List Int):Prop where
 ats:Za X.heap.size X v0 l
 ne:∀ r,v0.ownBlock=some r→l=[]∨(bC<r∧some r≠v1.ownBlock∧some r≠v2.ownBlock)
section
variable {bC:Nat} {X Y:World} {v1 v2 v0 u:Value} {l:List Int}
theorem StH.up (h:StH bC X v1 v2 v0 l) (hB:Below X.heap.size X Y):StH bC Y v1 v2 v0 l:=⟨(h.ats.below hB).mono hB.size,h.ne⟩
theorem StH.new (h:StH bC X v1 v2 v0 l) {r:Nat} (er:v0.ownBlock=some r) {x:Value} (hx:l=[]∨some r≠x.ownBlock) (ho:u.ownBlock=x.ownBlock∨u.ownBlock=some X.heap.size):l=[]∨some r≠u.ownBlock:=by
 by_cases hl:l=[]
 ·exact .inl hl
 right
 rcases ho with ho | ho
 ·rw [ho];exact hx.resolve_left hl
 ·rw [ho]
  intro e;have:=(h.ats.lt_own er).resolve_left hl;have e':r=X.heap.size:=by simpa using e
  omega
theorem StH.app1 (h:StH bC X v1 v2 v0 l) (hg:X.grownBy Y v1.ownBlock) (ho:u.ownBlock=v1.ownBlock∨u.ownBlock=some X.heap.size):StH bC Y u v2 v0 l:=by
 refine⟨h.ats.offG hg fun r er=>?_,fun r er=>?_⟩
 ·by_cases hl:l=[]
  ·exact .inl hl
  ·exact .inr fun e2=>((h.ne r e2).resolve_left hl).2.1 er.symm
 ·by_cases hl:l=[]
  ·exact .inl hl
  ·have k:=(h.ne r er).resolve_left hl
   exact .inr ⟨k.1,(h.new er (.inr k.2.1) ho).resolve_left hl,k.2.2⟩
theorem StH.app2 (h:StH bC X v1 v2 v0 l) (hg:X.grownBy Y v2.ownBlock) (ho:u.ownBlock=v2.ownBlock∨u.ownBlock=some X.heap.size):StH bC Y v1 u v0 l:=by
 refine⟨h.ats.offG hg fun r er=>?_,fun r er=>?_⟩
 ·by_cases hl:l=[]
  ·exact .inl hl
  ·exact .inr fun e2=>((h.ne r e2).resolve_left hl).2.2 er.symm
 ·by_cases hl:l=[]
  ·exact .inl hl
  ·have k:=(h.ne r er).resolve_left hl
   exact .inr ⟨k.1,k.2.1,(h.new er (.inr k.2.2) ho).resolve_left hl⟩
theorem StH.off (h:StH bC X v1 v2 v0 l) {b:Nat} (hb:b≤bC) (hg:X.grownBy Y (some b)):StH bC Y v1 v2 v0 l :=
 ⟨h.ats.offG hg fun r er=>by
  by_cases hl:l=[]
  ·exact .inl hl
  ·right
   intro e2;have:=((h.ne r e2).resolve_left hl).1;cases er;omega,h.ne⟩
theorem StH.set (h:StH bC X v1 v2 v0 l) (i:Nat) (w:Value):StH bC (X.setCell ⟨bC,i,none⟩ w) v1 v2 v0 l :=
 h.off (Nat.le_refl _) ⟨rfl,rfl,rfl,by simp [World.setCell],fun k _ hk=>Below.heap_setCell _ _ _ k (fun e=>hk (by rw [e]))⟩
end
theorem Z1M {w:World} {ops:Array Oper} {rest:List Oper} {o:Oper} {a:Act} {Q:Exit→Act→World→Prop} (hgd:o.guard=none) (s x:Operand)
  (ho:o.op=.call { callee:=.builtin .append,args:=#[s,x],argTypes:=#[27,27] })
  (base:Nat) (hs:a.eval s=.slice none 0 0) (vx:Value) (l:List Int) (hx:a.eval x=vx) (n0:Nat) (hp:Za n0 w vx l) (hl:l.length≤1000) (hbase:base≤w.heap.size)
  (h:∀ v' w',Za w'.heap.size w' v' l→(∀ r,v'.ownBlock=some r→base≤r)→Below base w w'→wpList Tryz.prog ops Q rest (a.put o.dst v') w') :
  wpList Tryz.prog ops Q (o::rest) a w:=by
 obtain⟨i0,hi,hz0',hz1',hz2'⟩:=info_parts intInfo;have hown:=World.ownsRow_nil w base 3 1;obtain⟨_,au,cu,rfl,hc⟩:=hp;rcases au with _ | ad
 ·obtain rfl:l=[]:=by
   rcases hc with h | ⟨_,_,h,_⟩
   ·exact h
   ·cases h
  refine Z0t hgd s x 27 ho base 3 i0 1 Tryz.underlying27 hi _ 0 [] hs hown cu (by simpa using hx) ?_
  exact h _ w (Za.nil _ _) (fun r e=>by cases e) (Below.refl _ _)
 ·have hm:∀ j,j<l.length→(l.map (Value.int .i64))[j]?=some (.int .i64 (l.getD j 0)):=fun j hj=>by simp [List.getD,hj]
  refine wpList_append_own_at w hgd s x 27 ho base 3 i0 (.int .i64 0) 1 8 Tryz.underlying27 hi hz0' hz1' hz2' rfl (by decide) _ 0 [] hs hown ad l.length (l.length+cu) (l.map (Value.int .i64)) hx (by simp) (fun j u hu=>?_) (fun u hu=>?_) (by unfold maxLen;omega) (by omega) hbase ?_
  ·have hj:j<l.length:=by have:=(List.getElem?_eq_some_iff.1 hu).1;simpa using this
   obtain⟨b,oo,e,hb,hc2⟩:=hc.resolve_left (by intro h;rw [h] at hj;simp at hj)
   obtain rfl:=Option.some.inj e;rw [hm j hj] at hu;rw [← Option.some.inj hu,ZaZ];exact hc2 j hj
  ·obtain⟨j,-,rfl⟩:=List.mem_map.1 hu
   rfl
  intro v' w' r1 g1 _ _;rw [Nat.zero_add,List.nil_append] at r1;exact h v' w' (Za.own r1 (by omega)) (fun r e=>(r1.lt r e).1) ((Below.refl base w).grown g1 hbase fun j ej=>by cases ej)
set_option linter.unusedSimpArgs false in
set_option linter.unusedVariables false in
set_option maxRecDepth 8000 in
set_option maxHeartbeats 6400000 in
theorem Z8O (m : Msn) (vw vh vr vl : Value) (l : List Int) (w : World) (hm : MsnAt w.heap.size w m vw vh vr) (hl : Za w.heap.size w vl l) (hl0 : l.length ≤ 1000) :
  Calls Tryz.prog 11 #[.agg (Zd m vw vh vr),vl] w fun e w'=>∃ vs vp ve,e=.returned (.tuple #[.agg #[vs,vp,ve],.int .i64 (mkE m l)])∧CrtAt w'.heap.size w' (mkC m l) vs vp ve∧Below w.heap.size w w':=by
 have f0:=fun w1 (B:Below w.heap.size w w1)=>Z7L m vw vh vr vl l w1 ((hm.below B).mono B.size) ((hl.below B).mono B.size)
 have f2:=fun w1 (B:Below w.heap.size w w1) hV=>Z7H m vw vh vr vl l w1 ((hm.below B).mono B.size) ((hl.below B).mono B.size) hV
 have f4:=fun w1 (B:Below w.heap.size w w1) hV i hi u v t e hv ht he=>Z6m m vw vh vr w1 ((hm.below B).mono B.size) hV i hi u v t e hv ht he
 have f5:=fun w1 (B:Below w.heap.size w w1) hV k hk=>Z3e m vw vh vr k w1 ((hm.below B).mono B.size) hV hk
 have HE:mkE m l=if radOkB m l=true then mkF m l (m.ways.length-1) 0 else 1:=rfl
 have HC:mkC m l=if mkE m l=0 then ⟨l,upto (mkP m l) (m.ways.length-1),upto (mkR m) (m.ways.length-1)⟩ else ⟨[],[],[]⟩:=rfl
 have hv2:=fun h=>Z0o (m:=m) (l:=l) h
 have HLL:=Lib.hid hl;obtain⟨⟨-,a1,cap1,rfl,hcw⟩,⟨-,a2,cap2,rfl,-⟩,⟨-,a3,cap3,rfl,-⟩⟩:=hm;obtain⟨-,al,cl0,rfl,-⟩:=hl;have HCW:=Lib.hid hcw;clear hcw;unfold Zd at *;generalize mkE m l=me at *;generalize mkC m l=mc at *;replace HC:=Lib.hid HC;have BW:=Lib.hid (Below.refl w.heap.size w);cases hok:radOkB m l
 ·have g0:=f0
  rw [Z4I,hok] at g0;have HV:=Lib.hid (show me=1 by rw [HE,hok];rfl)
  have HCV:=Lib.hid (show mc=⟨[],[],[]⟩ by rw [HC.out,HV.out];rfl)
  replace g0:=Lib.hid g0;clear f0 f2 f4 f5 hv2 hok HE HC;go_enter Tryz.func11,Tryz.ntmps11;go_wp2_with fail;generalize hXX0:World.alloc (World.alloc w _) _=X0;obtain⟨q0,q1,hA,hzX0⟩:=box2 hXX0;clear hXX0;have BW:=Lib.hid hA;clear hA;have MB:=Lib.hid q0;clear q0;have RV:=Lib.hid q1;clear q1 hzX0;obtain⟨c0,c1,c2,c3,c4,c5,c6,c7,c8,c9,c10⟩:=Zi (m:=m) MB.out;refine (g0.out _ BW.out).mono ?_;rintro e w1 ⟨u1,u2,rfl,-,-,b1⟩;replace BW:=zAg BW b1;have B_X0:=Lib.hid b1;clear b1 c0 c1 c2 c3 c4 c5 c6 c7 c8 c9 c10;obtain⟨c0,c1,c2,c3,c4,c5,c6,c7,c8,c9,c10⟩:=Zi (m:=m) (zCw MB B_X0);clear c0 c1 c2 c3 c4 c5 c6 c7 c8 c9 c10;have hrv:=(zCw RV B_X0);have e0:=hrv.cell (i:=0) rfl;have e1:=hrv.cell (i:=1) rfl;have e2:=hrv.cell (i:=2) rfl;have z0:=Zh hrv 0;have z1:=Zh hrv 1;have z2:=Zh hrv 2;have ltr:=hrv.lt;go_wp2;clear e0 e1 e2 z0 z1 z2;generalize hZ9:World.setCell (World.setCell (World.setCell w1 _ _) _ _) _ _=Z9;obtain⟨HZ9,hl9,hg9⟩:=set3 hrv hZ9;have r0:=HZ9.cell (i:=0) rfl;have r1:=HZ9.cell (i:=1) rfl;have r2:=HZ9.cell (i:=2) rfl;have B9:=BW.out.trans (hl9 w.heap.size (by omega))
  clear hrv hZ9;exact bodyPost_ret (v:=.tuple #[.agg #[.slice none 0 0,.slice none 0 0,.slice none 0 0],.int .i64 1]) (by simp [results,Tryz.f11,go_sem,r0,r1,r2]) rfl ⟨_,_,_,by rw [HV.out],by rw [HCV.out];exact⟨Za.nil _ _,⟨by simp,none,0,rfl,.inl rfl⟩,Za.nil _ _⟩,B9⟩
 obtain⟨hV,hS⟩:=hv2 hok;have V:=(Zp m).1 hV;have n41:=V.n41;have n2:=V.n2;have HME:=Lib.hid (show me=mkF m l (m.ways.length-1) 0 by rw [HE,hok];rfl)
 obtain⟨n,hn⟩:∃ n,m.ways.length-1=n:=⟨_,rfl⟩;have hnl:n+1=m.ways.length:=by omega
 replace HME:=HME.out;replace HC:=HC.out;rw [hn] at HME HC;have hsp:=fun k h0 h1 h2=>Z4R m l n 0 k h0 h1 h2
 have hze:=Z4Q m l n 0;simp only [Nat.zero_add,Nat.zero_le,true_implies] at hsp hze;rw [← HME] at hze;simp only [← HME] at hsp;have HSP:=Lib.hid hsp;have HZE:=Lib.hid hze;replace HC:=Lib.hid HC;have g1':=f0;rw [Z4I,hok,if_pos rfl,show rdBL m l=rdBU m l from if_pos hok,show rdAL m l=rdAU m l from if_pos hok] at g1'
 have g2':=fun w1 B=>f2 w1 B hV
 have k1:=fun vb n0 W (h:Za n0 W vb (rdBU m l))=>ZV h (by rw [Z0S];omega)
 have k2:=fun va n0 W (h:Za n0 W va (rdAU m l))=>ZV h (by rw [show (rdAU m l).length=m.ways.length from Zu _ _];omega)
 have k3:=fun vt n0 W (h:Za n0 W vt (usedT m l))=>ZV h (by rw [Z0C];omega)
 have k4:=fun ve n0 W (h:Za n0 W ve (usedE m l))=>ZV h (by rw [Z0D];omega)
 simp only [Z0S,Z0C,Z0D,show (rdAU m l).length=m.ways.length from Zu _ _] at k1 k2 k3 k4
 have y1:=fun k (hk:k+1<m.ways.length)=>show (rdBU m l).getD (k+1) 0=rdB m l (k+1) from Z76 hk
 have y2:=fun k (hk:k<m.ways.length)=>show (rdAU m l).getD k 0=rdA m l k from Z77 hk
 have y3:=fun k (hk:k+1<m.ways.length)=>show (usedT m l).getD (k+1) 0=usT m l (k+1) from Z0H _ hk
 have y4:=fun k (hk:k+1<m.ways.length)=>show (usedE m l).getD (k+1) 0=usE m l (k+1) from Z0H _ hk
 replace g1':=Lib.hid g1';replace g2':=Lib.hid g2';replace k1:=Lib.hid k1;replace k2:=Lib.hid k2;replace k3:=Lib.hid k3;replace k4:=Lib.hid k4;replace y1:=Lib.hid y1;replace y2:=Lib.hid y2;replace y3:=Lib.hid y3;replace y4:=Lib.hid y4;replace f4:=Lib.hid f4;replace f5:=Lib.hid f5;have VV:=Lib.hid V;have HV0:=Lib.hid hV;clear f0 f2 hv2 hok HE hsp hze V hV hS hn;go_enter Tryz.func11,Tryz.ntmps11;go_wp2_with fail;generalize hXX0:World.alloc (World.alloc w _) _=X0;obtain⟨q0,q1,hA,hzX0⟩:=box2 hXX0;clear hXX0;have BW:=Lib.hid hA;clear hA;have MB:=Lib.hid q0;clear q0;have RV:=Lib.hid q1;clear q1 hzX0;obtain⟨c0,c1,c2,c3,c4,c5,c6,c7,c8,c9,c10⟩:=Zi (m:=m) MB.out;refine (g1'.out _ BW.out).mono ?_;rintro e w1 ⟨v1,u1,rfl,p1,q1,b1⟩;replace BW:=zAg BW b1;have B_X0:=Lib.hid b1;clear b1;obtain⟨b1,o1,e1,hv1,hb1,hc1⟩:=k1.out _ _ _ p1;subst hv1;obtain⟨b1',o1',e1',hv1,hb1',hc1'⟩:=k2.out _ _ _ q1;subst hv1;have BE:=Lib.hid hc1;have AF:=Lib.hid hc1';have LBE:=Lib.hid hb1;have LAF:=Lib.hid hb1';clear hc1 hc1' hb1 hb1' p1 q1 c0 c1 c2 c3 c4 c5 c6 c7 c8 c9 c10;obtain⟨c0,c1,c2,c3,c4,c5,c6,c7,c8,c9,c10⟩:=Zi (m:=m) (zCw MB B_X0);go_wp2_with fail;refine (g2'.out _ BW.out).mono ?_;rintro e w2 ⟨v2,u2,rfl,p2,q2,b2⟩;replace BW:=zAg BW b2;replace B_X0:=zAg B_X0 b2;have B_w1:=Lib.hid b2;clear b2;obtain⟨b2,o2,e2,hv1,hb2,hc2⟩:=k3.out _ _ _ p2;subst hv1;obtain⟨b2',o2',e2',hv1,hb2',hc2'⟩:=k4.out _ _ _ q2;subst hv1;have TI:=Lib.hid hc2;have EN:=Lib.hid hc2';have LTI:=Lib.hid hb2;have LEN:=Lib.hid hb2';clear hc2 hc2' hb2 hb2' p2 q2 c0 c1 c2 c3 c4 c5 c6 c7 c8 c9 c10;obtain⟨c0,c1,c2,c3,c4,c5,c6,c7,c8,c9,c10⟩:=Zi (m:=m) (zCw MB B_X0);have HS1:=Lib.hid (show w1.heap.size≤w2.heap.size from B_w1.out.size)
 have HS2:=Lib.hid (Nat.le_refl w2.heap.size);have HSR:=Lib.hid (zCw RV B_X0).lt;have SBW:=BW;have SB_X0:=B_X0;have SB_w1:=B_w1;go_upto_region 6 with fail
 generalize hXZ0:World.alloc w2 _=Z0;obtain⟨q0,hA,hzZ0⟩:=box1 hXZ0;clear hXZ0;replace BW:=zAg BW hA;replace B_X0:=zAg B_X0 hA;replace B_w1:=zAg B_w1 hA;have B_w2:=Lib.hid hA;clear hA;have CB:=Lib.hid q0;clear q0 c0 c1 c2 c3 c4 c5 c6 c7 c8 c9 c10;obtain⟨c0,c1,c2,c3,c4,c5,c6,c7,c8,c9,c10⟩:=Zi (m:=m) (zCw MB B_X0);obtain⟨bC,hbC⟩:∃ x,w2.heap.size=x:=⟨_,rfl⟩;rw [hbC] at CB hzZ0 ⊢;have hS0:bC≤w2.heap.size:=by omega
 have hBZ:=BW.out.size;have l0:Z0.cell? ⟨bC,0,none⟩=some (.slice none 0 0):=CB.out.cell (i:=0) rfl;have lt0:=CB.out.lt;have hP:=Lib.hid (HLL.out.below BW.out);have hzz:=Lib.hid hzZ0;clear hzZ0;go_upto_region 7 with (first | (at_builtin;refine Z1M rfl _ _ rfl Z0.heap.size rfl _ l rfl w.heap.size hP.out (by omega) (Nat.le_refl _) ?_;intro v0 wA hA0 hr0 hB0;have HA0:=Lib.hid hA0;have HR0:=Lib.hid hr0;have BA:=Lib.hid hB0;have HCA:=Lib.hid (CB.out.below hB0 lt0);have lA:wA.cell? ⟨bC,0,none⟩=some (.slice none 0 0):=HCA.out.cell (i:=0) rfl;have fA:=Zh HCA.out 0;have ltA:=HCA.out.lt;obtain⟨-,aV,cV,hv0,-⟩:=hA0;subst hv0;clear hr0 hB0) | fail)
 clear l0 lA fA ltA;generalize hZ:World.setCell wA _ _=Z;have HZ:=HCA.out.set 0 (.slice aV l.length (l.length+cV));have BZ:=(BA.out.mono (Nat.le_of_lt lt0)).trans ((Below.refl bC wA).setCell (p:=⟨bC,0,none⟩) (Nat.le_refl _) (.slice aV l.length (l.length+cV)));have HST:StH bC wA (.slice none 0 0) (.slice none 0 0) (.slice aV l.length (l.length+cV)) l:=⟨HA0.out,fun r e=>.inr ⟨by have h1:=HR0.out r e;have h2:=hzz.out;omega,fun e=>(by cases e),fun e=>(by cases e)⟩⟩
 replace HST:=HST.set 0 (.slice aV l.length (l.length+cV));rw [hZ] at HZ BZ HST;clear hZ;simp only [zq5,zr5,zs5] at HZ;have ST0:=Lib.hid HST;replace CB:=Lib.hid HZ;clear HZ HST HA0 HR0 BA HCA hP c0 c1 c2 c3 c4 c5 c6 c7 c8 c9 c10;have bZ:=Lib.hid ((show Below bC w2 Z0 from B_w2.out.mono hS0).trans BZ)
 clear BZ;replace BW:=Lib.hid (SBW.out.trans (bZ.out.mono (by rw [← hbC];exact SBW.out.size)))
 clear SBW;replace B_X0:=Lib.hid (SB_X0.out.trans (bZ.out.mono (by rw [← hbC];exact SB_X0.out.size)))
 clear SB_X0;replace B_w1:=Lib.hid (SB_w1.out.trans (bZ.out.mono (by rw [← hbC];exact SB_w1.out.size)))
 clear SB_w1;replace B_w2:=Lib.hid (show Below w2.heap.size w2 Z by rw [hbC];exact bZ.out)
 have hMB:=Lib.hid (zCw MB B_X0);have hRV:=Lib.hid (zCw RV B_X0);have hs1:=HS1.out;have hs2:=HS2.out;have hsr:w.heap.size+1<bC:=by rw [← hbC];exact HSR.out
 rw [hbC] at hs1 hs2;have ZBE:=Lib.hid (fun j (hj:j<m.ways.length)=>(B_w1.out.cell (p:=⟨b1,o1+j,none⟩) LBE.out).trans (BE.out j hj))
 have MBE:b1<bC:=by have:=LBE.out;omega
 have ZAF:=Lib.hid (fun j (hj:j<m.ways.length)=>(B_w1.out.cell (p:=⟨b1',o1'+j,none⟩) LAF.out).trans (AF.out j hj))
 have MAF:b1'<bC:=by have:=LAF.out;omega
 have ZTI:=Lib.hid (fun j (hj:j<m.ways.length)=>(B_w2.out.cell (p:=⟨b2,o2+j,none⟩) LTI.out).trans (TI.out j hj))
 have MTI:b2<bC:=by have:=LTI.out;omega
 have ZEN:=Lib.hid (fun j (hj:j<m.ways.length)=>(B_w2.out.cell (p:=⟨b2',o2'+j,none⟩) LEN.out).trans (EN.out j hj))
 have MEN:b2'<bC:=by have:=LEN.out;omega
 obtain⟨i0,hi0,hz0',hz1',hz2'⟩:=info_parts intInfo;have HI:=Lib.hid hi0;obtain⟨i5,hi5,hy0',hy1',hy2'⟩:=info_parts psgInfo;have HI5:=Lib.hid hi5;clear hi0 hi5 hS0 hs1 hs2;replace BW:=Lib.hid (show Below w.heap.size w Z from BW.out)
 go_wp2
 go_loopw [12] (fun i wr=>∃ (k:Nat) (v1 v2:Value) (x1:List Value),k≤n∧i=.int .i64 k∧(∀ j,j<k→mkQ m l j=0)∧Has wr bC #[.slice aV l.length (l.length+cV),v1,v2] 30∧MkS bC Z wr (mkP m l) v1 v2 k k x1 ((upto (mkR m) k).map (Value.int .i64)) k x1∧StH bC wr v1 v2 (.slice aV l.length (l.length+cV)) l) (fun i _=>n-(intOf i).toNat)
 case atStart=>exact⟨0,.slice none 0 0,.slice none 0 0,[],Nat.zero_le _,rfl,fun j h=>by omega,CB.out,⟨Below.refl _ _,World.ownsRow_nil _ _ _ _,World.ownsRow_nil _ _ _ _,.inl rfl,PsR.nil⟩,ST0.out⟩
 case round =>
  obtain⟨k,v1,v2,x1,hk,rfl,hall,hCB,hMK,hST⟩:=hrel;obtain⟨wo,hwo⟩:∃ x,x=wr:=⟨_,rfl⟩;subst hwo;obtain⟨av1,cv1,rfl⟩:=Z15 hMK.r1;obtain⟨av2,cv2,rfl⟩:=Z15 hMK.r2;have HA:=Lib.hid hall;have HCB:=Lib.hid hCB;have MK:=Lib.hid hMK;have ST:=Lib.hid hST;have BB:=Lib.hid hMK.bel;have hbC2:=hCB.lt;replace BW:=Lib.hid (BW.out.trans (BB.out.mono (by omega)))
  have hMO:=Lib.hid (hMB.out.below BB.out (by omega))
  have hRO:=Lib.hid (hRV.out.below BB.out (by omega))
  have jk:IntKind.i64.wrap ((k:Int)+1)=((k+1:Nat):Int):=by rw [show (k:Int)+1=((k+1:Nat):Int) by omega];exact zW2
  have jk2:IntKind.i64.wrap ((k:Int)+1)=(k:Int)+1:=zW2;have mw:wo.cell? ⟨w.heap.size,0,none⟩=some (.slice a1 m.ways.length (m.ways.length+cap1)):=hMO.out.cell (i:=0) rfl;have ltw:=hMO.out.lt;clear hall hCB hMK hST;by_cases hlt:k<n
  ·have hk1:k+1<m.ways.length:=by omega
   have hk0:k<m.ways.length:=by omega
   obtain⟨bw,ow,rfl,hbw,hcw⟩:=HCW.out.resolve_left (by intro h;rw [h] at hk1;simp at hk1)
   obtain⟨p1,p2,-⟩:=hcw k hk0;obtain⟨p3,p4,-⟩:=hcw (k+1) hk1;have xB:=(BB.out.cell (p:=⟨b1,o1+(k+1),none⟩) MBE).trans (ZBE.out (k+1) hk1);have xA:=(BB.out.cell (p:=⟨b1',o1'+k,none⟩) MAF).trans (ZAF.out k hk0);have xT:=(BB.out.cell (p:=⟨b2,o2+(k+1),none⟩) MTI).trans (ZTI.out (k+1) hk1);have xE:=(BB.out.cell (p:=⟨b2',o2'+(k+1),none⟩) MEN).trans (ZEN.out (k+1) hk1);rw [y1.out k hk1] at xB;rw [y2.out k hk0] at xA;rw [y3.out k hk1] at xT;rw [y4.out k hk1] at xE;have rk0:=rd_le VV.out l (k:=k) hk0;have rk1:=rd_le VV.out l (k:=k+1) hk1;have ub:=Z2l VV.out l (k+1) hk1;have hcor:=Z2J VV.out (a:=k) (b:=k+1) hk0 hk1 ⟨rk0.2.2.1,rk0.2.2.2⟩ ⟨rk1.1,rk1.2.1⟩;have f6:=fun w1=>Z1Y (atW m k) (atW m (k+1)) (rdA m l k) (rdB m l (k+1)) w1
   rw [hcor] at f6;have HP:Hid (mkP m l k=⟨corL (atW m k) (rdA m l k) (atW m (k+1)) (rdB m l (k+1)),rdA m l k,rdB m l (k+1),usT m l (k+1),usE m l (k+1)⟩):=rfl;have HQ:Hid (mkQ m l k=refK (brV m k (rdA m l k) (rdB m l (k+1)) (usT m l (k+1)) (usE m l (k+1)))):=Lib.hid (ZbJ m k _ _ _ _);have HR:Hid (mkR m k=homeE m (k+1) (dep m (k+1))):=rfl;unfold atW at f6 HP;generalize corL ⟨(wy m.ways k).x,(wy m.ways k).y⟩ (rdA m l k) ⟨(wy m.ways (k+1)).x,(wy m.ways (k+1)).y⟩ (rdB m l (k+1))=cl at *;simp only at f6;generalize rdA m l k=qa at *;generalize rdB m l (k+1)=qb at *;generalize usT m l (k+1)=qt at *;generalize usE m l (k+1)=qe at *;generalize (wy m.ways k).x=px at *;generalize (wy m.ways k).y=py at *;generalize (wy m.ways (k+1)).x=qx at *;generalize (wy m.ways (k+1)).y=qy at *;have g4:=f4.out;have g5:=fun w1 B=>f5.out w1 B HV0.out (k+1) hk1
   generalize homeT m (k+1) (dep m (k+1))=hT' at *;generalize homeE m (k+1) (dep m (k+1))=hE' at *;have hbi:=brV_in m k qa qb qt qe;have g4':=fun w1 B=>g4 w1 B HV0.out k hk1 qa qb qt qe (by omega) (by omega) (by omega)
   obtain⟨kq,hkq⟩:∃ x,brV m k qa qb qt qe=x:=⟨_,rfl⟩;rw [hkq] at g4' HQ hbi;replace f6:=Lib.hid f6;replace g4':=Lib.hid g4';replace g5:=Lib.hid g5;have dk:decide (((k+1:Nat):Int)<(m.ways.length:Int))=true:=zTy;have dk2:decide ((k:Int)+1<(m.ways.length:Int))=true:=zTy;have kl:(k:Int)<(n:Int):=by omega
   have kl0:(0:Int)≤(k:Int):=by omega
   have kl1:(k:Int)<m.ways.length:=by omega
   have kl2:(k:Int)+1<m.ways.length:=by omega
   have kl3:(0:Int)≤(k:Int)+1:=by omega
   have kl4:((k+1:Nat):Int)<m.ways.length:=by omega
   have HP1:=Lib.hid (And.intro p1 (And.intro p2 (And.intro p3 p4)));have hk8:k≤40:=by omega
   clear hcw p1 p2 p3 p4 g4 hkq hcor rk0 rk1 ub;have BR:=Lib.hid (Below.refl wo.heap.size wo);go_upto_region 10 with fail
   clear mw;obtain⟨c0,c1,c2,c3,c4,c5,c6,c7,c8,c9,c10⟩:=Zi (m:=m) hMO.out;refine (wpIn_wide (n:=9)).1 ?_;refine Zj (Zt _) 22 (fun X=>Below wo.heap.size wo X) (by kernel_rfl) (by kernel_rfl) (by kernel_rfl) fun hH inv0=>?_
   have hD:=Below.drew (Below.refl wo.heap.size wo);generalize hXX1:wo.drew=X1 at *;clear hXX1;replace BW:=zAg BW hD;have BR:=Lib.hid hD;clear hD;refine sk hH (i:=0) (v:=.agg #[.slice (some ⟨bw,ow,none⟩) m.ways.length (m.ways.length+cap1),.slice a2 m.home.length (m.home.length+cap2),.int .i64 m.start,.slice a3 m.rocks.length (m.rocks.length+cap3),.int .i64 m.speed,.int .i64 m.part,.int .i64 m.flow,.int .i64 m.idle,.int .i64 m.drive,.int .i64 m.battery,.int .i64 m.deadline]) (Ze rfl) inv0 (fun X hX=>?_) fun inv1=>?_
   ·have r0:=(hX.cell (p:=⟨w.heap.size,0,none⟩) (World.block_lt_of_cell? _ _ c0)).trans c0;have r1:=(hX.cell (p:=⟨w.heap.size,1,none⟩) (World.block_lt_of_cell? _ _ c1)).trans c1;have r2:=(hX.cell (p:=⟨w.heap.size,2,none⟩) (World.block_lt_of_cell? _ _ c2)).trans c2;have r3:=(hX.cell (p:=⟨w.heap.size,3,none⟩) (World.block_lt_of_cell? _ _ c3)).trans c3;have r4:=(hX.cell (p:=⟨w.heap.size,4,none⟩) (World.block_lt_of_cell? _ _ c4)).trans c4;have r5:=(hX.cell (p:=⟨w.heap.size,5,none⟩) (World.block_lt_of_cell? _ _ c5)).trans c5;have r6:=(hX.cell (p:=⟨w.heap.size,6,none⟩) (World.block_lt_of_cell? _ _ c6)).trans c6;have r7:=(hX.cell (p:=⟨w.heap.size,7,none⟩) (World.block_lt_of_cell? _ _ c7)).trans c7;have r8:=(hX.cell (p:=⟨w.heap.size,8,none⟩) (World.block_lt_of_cell? _ _ c8)).trans c8;have r9:=(hX.cell (p:=⟨w.heap.size,9,none⟩) (World.block_lt_of_cell? _ _ c9)).trans c9;have r10:=(hX.cell (p:=⟨w.heap.size,10,none⟩) (World.block_lt_of_cell? _ _ c10)).trans c10;go_simp
   simp only [Act.put,zq5,zr5,zs5];clear inv0 c0 c1 c2 c3 c4 c5 c6 c7 c8 c9 c10;refine sk hH (i:=1) (v:=.int .i64 (k:Int)) (Ze rfl) inv1 (fun X hX=>?_) fun inv2=>?_
   ·go_simp
   simp only [Act.put,zq5,zr5,zs5];clear inv1;refine sk hH (i:=2) (v:=.slice (some ⟨b1',o1',none⟩) m.ways.length (m.ways.length+e1')) (Ze rfl) inv2 (fun X hX=>?_) fun inv3=>?_
   ·go_simp
   simp only [Act.put,zq5,zr5,zs5];clear inv2;refine sk hH (i:=3) (v:=.int .i64 (k:Int)) (Ze rfl) inv3 (fun X hX=>?_) fun inv4=>?_
   ·go_simp
   simp only [Act.put,zq5,zr5,zs5];clear inv3;refine sk hH (i:=4) (v:=.pointer (some ⟨b1',o1'+k,none⟩)) (Ze rfl) inv4 (fun X hX=>?_) fun inv5=>?_
   ·go_simp
   simp only [Act.put,zq5,zr5,zs5];clear inv4;refine sk hH (i:=5) (v:=.int .i64 qa) (Ze rfl) inv5 (fun X hX=>?_) fun inv6=>?_
   ·have r0:=(hX.cell (p:=⟨b1',o1'+k,none⟩) (World.block_lt_of_cell? _ _ xA)).trans xA;go_simp
   simp only [Act.put,zq5,zr5,zs5];clear inv5;refine sk hH (i:=6) (v:=.slice (some ⟨b1,o1,none⟩) m.ways.length (m.ways.length+e1)) (Ze rfl) inv6 (fun X hX=>?_) fun inv7=>?_
   ·go_simp
   simp only [Act.put,zq5,zr5,zs5];clear inv6;refine sk hH (i:=7) (v:=.int .i64 (k:Int)) (Ze rfl) inv7 (fun X hX=>?_) fun inv8=>?_
   ·go_simp
   simp only [Act.put,zq5,zr5,zs5];clear inv7;refine sk hH (i:=8) (v:=.int .i64 ((k+1:Nat):Int)) (Ze rfl) inv8 (fun X hX=>?_) fun inv9=>?_
   ·go_simp
   simp only [Act.put,zq5,zr5,zs5];clear inv8;refine sk hH (i:=9) (v:=.pointer (some ⟨b1,o1+(k+1),none⟩)) (Ze rfl) inv9 (fun X hX=>?_) fun inv10=>?_
   ·go_simp
   simp only [Act.put,zq5,zr5,zs5];clear inv9;refine sk hH (i:=10) (v:=.int .i64 qb) (Ze rfl) inv10 (fun X hX=>?_) fun inv11=>?_
   ·have r0:=(hX.cell (p:=⟨b1,o1+(k+1),none⟩) (World.block_lt_of_cell? _ _ xB)).trans xB;go_simp
   simp only [Act.put,zq5,zr5,zs5];clear inv10;refine sk hH (i:=11) (v:=.slice (some ⟨b2,o2,none⟩) m.ways.length (m.ways.length+e2)) (Ze rfl) inv11 (fun X hX=>?_) fun inv12=>?_
   ·go_simp
   simp only [Act.put,zq5,zr5,zs5];clear inv11;refine sk hH (i:=12) (v:=.int .i64 (k:Int)) (Ze rfl) inv12 (fun X hX=>?_) fun inv13=>?_
   ·go_simp
   simp only [Act.put,zq5,zr5,zs5];clear inv12;refine sk hH (i:=13) (v:=.int .i64 ((k+1:Nat):Int)) (Ze rfl) inv13 (fun X hX=>?_) fun inv14=>?_
   ·go_simp
   simp only [Act.put,zq5,zr5,zs5];clear inv13;refine sk hH (i:=14) (v:=.pointer (some ⟨b2,o2+(k+1),none⟩)) (Ze rfl) inv14 (fun X hX=>?_) fun inv15=>?_
   ·go_simp
   simp only [Act.put,zq5,zr5,zs5];clear inv14;refine sk hH (i:=15) (v:=.int .i64 qt) (Ze rfl) inv15 (fun X hX=>?_) fun inv16=>?_
   ·have r0:=(hX.cell (p:=⟨b2,o2+(k+1),none⟩) (World.block_lt_of_cell? _ _ xT)).trans xT;go_simp
   simp only [Act.put,zq5,zr5,zs5];clear inv15;refine sk hH (i:=16) (v:=.slice (some ⟨b2',o2',none⟩) m.ways.length (m.ways.length+e2')) (Ze rfl) inv16 (fun X hX=>?_) fun inv17=>?_
   ·go_simp
   simp only [Act.put,zq5,zr5,zs5];clear inv16;refine sk hH (i:=17) (v:=.int .i64 (k:Int)) (Ze rfl) inv17 (fun X hX=>?_) fun inv18=>?_
   ·go_simp
   simp only [Act.put,zq5,zr5,zs5];clear inv17;refine sk hH (i:=18) (v:=.int .i64 ((k+1:Nat):Int)) (Ze rfl) inv18 (fun X hX=>?_) fun inv19=>?_
   ·go_simp
   simp only [Act.put,zq5,zr5,zs5];clear inv18;refine sk hH (i:=19) (v:=.pointer (some ⟨b2',o2'+(k+1),none⟩)) (Ze rfl) inv19 (fun X hX=>?_) fun inv20=>?_
   ·go_simp
   simp only [Act.put,zq5,zr5,zs5];clear inv19;refine sk hH (i:=20) (v:=.int .i64 qe) (Ze rfl) inv20 (fun X hX=>?_) fun inv21=>?_
   ·have r0:=(hX.cell (p:=⟨b2',o2'+(k+1),none⟩) (World.block_lt_of_cell? _ _ xE)).trans xE;go_simp
   simp only [Act.put,zq5,zr5,zs5];clear inv20;have inv22:=HeadInv.put2 inv21 (j:=21) (by kernel_rfl) (by omega)
   clear inv21;refine sa1 (r:=21) BR.out ?_;refine ZM (Ze rfl) rfl (f:=35) (args:=#[.agg #[.slice (some ⟨bw,ow,none⟩) m.ways.length (m.ways.length+cap1),.slice a2 m.home.length (m.home.length+cap2),.int .i64 m.start,.slice a3 m.rocks.length (m.rocks.length+cap3),.int .i64 m.speed,.int .i64 m.part,.int .i64 m.flow,.int .i64 m.idle,.int .i64 m.drive,.int .i64 m.battery,.int .i64 m.deadline],.int .i64 (k:Int),.int .i64 qa,.int .i64 qb,.int .i64 qt,.int .i64 qe]) (by go_simp) (g4'.out _ BW.out) ?_
   rintro e w3 ⟨rfl,b3⟩;refine⟨_,rfl,?_⟩;simp only [Act.put,zq5,zr5,zs5];replace BW:=zAg BW b3;replace BR:=zAg BR b3;clear b3 inv22 hH;refine Zv (by kernel_rfl) BR.out ?_
   simp only [List.drop_succ_cons,List.drop_zero];gi_wp2;by_cases hq0:kq=0;rotate_left
   ·skip
    have hk5:kq=1∨kq=2∨kq=3∨kq=4∨kq=5:=by omega
    have dq:(kq == 0)=false:=by rw [beq_eq_false_iff_ne];exact hq0
    have dq2:(kq != 0)=true:=by simp [hq0]
    have hne:refK kq≠0:=by rcases hk5 with rfl | rfl | rfl | rfl | rfl <;> decide
    have HV:=Lib.hid (show me=refK kq by rw [HSP.out k hlt HA.out (by rw [HQ.out];exact hne)];exact HQ.out)
    have HCV:=Lib.hid (show mc=⟨[],[],[]⟩ by rw [HC.out,if_neg (by rw [HV.out];exact hne)])
    have fq:=Lib.hid (fun w1=>Z3P kq w1 hk5)
    clear hq0 hne hk5 hbi;go_wp2_with fail;refine (fq.out _).mono ?_;rintro e w30 ⟨rfl,rfl⟩;have hrv:=(zCw hRO BR);have e0:=hrv.cell (i:=0) rfl;have e1:=hrv.cell (i:=1) rfl;have e2:=hrv.cell (i:=2) rfl;have z0:=Zh hrv 0;have z1:=Zh hrv 1;have z2:=Zh hrv 2;have ltr:=hrv.lt;go_wp2;clear e0 e1 e2 z0 z1 z2;generalize hZ9:World.setCell (World.setCell (World.setCell w3 _ _) _ _) _ _=Z9;obtain⟨HZ9,hl9,hg9⟩:=set3 hrv hZ9;have r0:=HZ9.cell (i:=0) rfl;have r1:=HZ9.cell (i:=1) rfl;have r2:=HZ9.cell (i:=2) rfl;have B9:=BW.out.trans (hl9 w.heap.size (by omega))
    clear hrv hZ9;exact bodyPost_ret (v:=.tuple #[.agg #[.slice none 0 0,.slice none 0 0,.slice none 0 0],.int .i64 (refK kq)]) (by simp [results,Tryz.f11,go_sem,r0,r1,r2]) rfl ⟨_,_,_,by rw [HV.out],by rw [HCV.out];exact⟨Za.nil _ _,⟨by simp,none,0,rfl,.inl rfl⟩,Za.nil _ _⟩,B9⟩
   subst hq0;clear hbi;replace HQ:=Lib.hid (show mkQ m l k=0 from HQ.out)
   go_upto_region 13 with fail
   have m0:w3.cell? ⟨w.heap.size,0,none⟩=some (.slice (some ⟨bw,ow,none⟩) m.ways.length (m.ways.length+cap1)):=(zCw hMO BR).cell (i:=0) rfl;have p1:=(BW.out.cell (p:=⟨bw,ow+k*5,none⟩) hbw).trans HP1.out.1;have p2:=(BW.out.cell (p:=⟨bw,ow+k*5+1,none⟩) hbw).trans HP1.out.2.1;have p3:=(BW.out.cell (p:=⟨bw,ow+(k+1)*5,none⟩) hbw).trans HP1.out.2.2.1;have p4:=(BW.out.cell (p:=⟨bw,ow+(k+1)*5+1,none⟩) hbw).trans HP1.out.2.2.2;have zA:=(BR.out.cell (p:=⟨b1',o1'+k,none⟩) (show b1'<wo.heap.size by omega)).trans xA
   have zB:=(BR.out.cell (p:=⟨b1,o1+(k+1),none⟩) (show b1<wo.heap.size by omega)).trans xB
   refine (wpIn_wide (n:=9)).1 ?_;refine Zj (Zt _) 27 (fun X=>Below w3.heap.size w3 X) (by kernel_rfl) (by kernel_rfl) (by kernel_rfl) fun hH inv0=>?_
   have hD:=Below.drew (Below.refl w3.heap.size w3);generalize hXX5:w3.drew=X5 at *;clear hXX5;replace BW:=zAg BW hD;replace BR:=zAg BR hD;have B_w3:=Lib.hid hD;clear hD;refine sk hH (i:=0) (v:=.pointer (some ⟨w.heap.size,0,none⟩)) (Ze rfl) inv0 (fun X hX=>?_) fun inv1=>?_
   ·go_simp
   simp only [Act.put,zq5,zr5,zs5];clear inv0;refine sk hH (i:=1) (v:=.slice (some ⟨bw,ow,none⟩) m.ways.length (m.ways.length+cap1)) (Ze rfl) inv1 (fun X hX=>?_) fun inv2=>?_
   ·have r0:=(hX.cell (p:=⟨w.heap.size,0,none⟩) (World.block_lt_of_cell? _ _ m0)).trans m0;go_simp
   simp only [Act.put,zq5,zr5,zs5];clear inv1;refine sk hH (i:=2) (v:=.int .i64 (k:Int)) (Ze rfl) inv2 (fun X hX=>?_) fun inv3=>?_
   ·go_simp
   simp only [Act.put,zq5,zr5,zs5];clear inv2;refine sk hH (i:=3) (v:=.pointer (some ⟨bw,ow+k*5,none⟩)) (Ze rfl) inv3 (fun X hX=>?_) fun inv4=>?_
   ·go_simp
   simp only [Act.put,zq5,zr5,zs5];clear inv3;refine sk hH (i:=4) (v:=.pointer (some ⟨bw,ow+k*5,none⟩)) (Ze rfl) inv4 (fun X hX=>?_) fun inv5=>?_
   ·go_simp
   simp only [Act.put,zq5,zr5,zs5];clear inv4;refine sk hH (i:=5) (v:=.agg #[.int .i64 px,.int .i64 py]) (Ze rfl) inv5 (fun X hX=>?_) fun inv6=>?_
   ·have r0:=(hX.cell (p:=⟨bw,ow+k*5,none⟩) (World.block_lt_of_cell? _ _ p1)).trans p1;have r1:=(hX.cell (p:=⟨bw,ow+k*5+1,none⟩) (World.block_lt_of_cell? _ _ p2)).trans p2;go_simp
   simp only [Act.put,zq5,zr5,zs5];clear inv5;refine sk hH (i:=6) (v:=.slice (some ⟨b1',o1',none⟩) m.ways.length (m.ways.length+e1')) (Ze rfl) inv6 (fun X hX=>?_) fun inv7=>?_
   ·go_simp
   simp only [Act.put,zq5,zr5,zs5];clear inv6;refine sk hH (i:=7) (v:=.int .i64 (k:Int)) (Ze rfl) inv7 (fun X hX=>?_) fun inv8=>?_
   ·go_simp
   simp only [Act.put,zq5,zr5,zs5];clear inv7;refine sk hH (i:=8) (v:=.pointer (some ⟨b1',o1'+k,none⟩)) (Ze rfl) inv8 (fun X hX=>?_) fun inv9=>?_
   ·go_simp
   simp only [Act.put,zq5,zr5,zs5];clear inv8;refine sk hH (i:=9) (v:=.int .i64 qa) (Ze rfl) inv9 (fun X hX=>?_) fun inv10=>?_
   ·have r0:=(hX.cell (p:=⟨b1',o1'+k,none⟩) (World.block_lt_of_cell? _ _ zA)).trans zA;go_simp
   simp only [Act.put,zq5,zr5,zs5];clear inv9;refine sk hH (i:=10) (v:=.pointer (some ⟨w.heap.size,0,none⟩)) (Ze rfl) inv10 (fun X hX=>?_) fun inv11=>?_
   ·go_simp
   simp only [Act.put,zq5,zr5,zs5];clear inv10;refine sk hH (i:=11) (v:=.slice (some ⟨bw,ow,none⟩) m.ways.length (m.ways.length+cap1)) (Ze rfl) inv11 (fun X hX=>?_) fun inv12=>?_
   ·have r0:=(hX.cell (p:=⟨w.heap.size,0,none⟩) (World.block_lt_of_cell? _ _ m0)).trans m0;go_simp
   simp only [Act.put,zq5,zr5,zs5];clear inv11;refine sk hH (i:=12) (v:=.int .i64 (k:Int)) (Ze rfl) inv12 (fun X hX=>?_) fun inv13=>?_
   ·go_simp
   simp only [Act.put,zq5,zr5,zs5];clear inv12;refine sk hH (i:=13) (v:=.int .i64 ((k+1:Nat):Int)) (Ze rfl) inv13 (fun X hX=>?_) fun inv14=>?_
   ·go_simp
   simp only [Act.put,zq5,zr5,zs5];clear inv13;refine sk hH (i:=14) (v:=.pointer (some ⟨bw,ow+(k+1)*5,none⟩)) (Ze rfl) inv14 (fun X hX=>?_) fun inv15=>?_
   ·go_simp
   simp only [Act.put,zq5,zr5,zs5];clear inv14;refine sk hH (i:=15) (v:=.pointer (some ⟨bw,ow+(k+1)*5,none⟩)) (Ze rfl) inv15 (fun X hX=>?_) fun inv16=>?_
   ·go_simp
   simp only [Act.put,zq5,zr5,zs5];clear inv15;refine sk hH (i:=16) (v:=.agg #[.int .i64 qx,.int .i64 qy]) (Ze rfl) inv16 (fun X hX=>?_) fun inv17=>?_
   ·have r0:=(hX.cell (p:=⟨bw,ow+(k+1)*5,none⟩) (World.block_lt_of_cell? _ _ p3)).trans p3;have r1:=(hX.cell (p:=⟨bw,ow+(k+1)*5+1,none⟩) (World.block_lt_of_cell? _ _ p4)).trans p4;go_simp
   simp only [Act.put,zq5,zr5,zs5];clear inv16;refine sk hH (i:=17) (v:=.slice (some ⟨b1,o1,none⟩) m.ways.length (m.ways.length+e1)) (Ze rfl) inv17 (fun X hX=>?_) fun inv18=>?_
   ·go_simp
   simp only [Act.put,zq5,zr5,zs5];clear inv17;refine sk hH (i:=18) (v:=.int .i64 (k:Int)) (Ze rfl) inv18 (fun X hX=>?_) fun inv19=>?_
   ·go_simp
   simp only [Act.put,zq5,zr5,zs5];clear inv18;refine sk hH (i:=19) (v:=.int .i64 ((k+1:Nat):Int)) (Ze rfl) inv19 (fun X hX=>?_) fun inv20=>?_
   ·go_simp
   simp only [Act.put,zq5,zr5,zs5];clear inv19;refine sk hH (i:=20) (v:=.pointer (some ⟨b1,o1+(k+1),none⟩)) (Ze rfl) inv20 (fun X hX=>?_) fun inv21=>?_
   ·go_simp
   simp only [Act.put,zq5,zr5,zs5];clear inv20;refine sk hH (i:=21) (v:=.int .i64 qb) (Ze rfl) inv21 (fun X hX=>?_) fun inv22=>?_
   ·have r0:=(hX.cell (p:=⟨b1,o1+(k+1),none⟩) (World.block_lt_of_cell? _ _ zB)).trans zB;go_simp
   simp only [Act.put,zq5,zr5,zs5];clear inv21;have hzx5:wo.heap.size≤X5.heap.size:=BR.out.size;have inv23:=HeadInv.put2 inv22 (j:=22) (by kernel_rfl) (by omega)
   clear inv22;refine sa1 (r:=22) B_w3.out ?_;refine ZM (Ze rfl) rfl (f:=37) (args:=#[.agg #[.int .i64 px,.int .i64 py],.int .i64 qa,.agg #[.int .i64 qx,.int .i64 qy],.int .i64 qb]) (by go_simp) (f6.out X5) ?_
   rintro e w4 ⟨vc,rfl,p9,b4,n9⟩;refine⟨_,rfl,?_⟩;simp only [Act.put,zq5,zr5,zs5];replace BW:=zAg BW b4;replace BR:=zAg BR b4;replace B_w3:=zAg B_w3 b4;clear b4;have P1:=Lib.hid p9;have N1:=Lib.hid n9;clear p9 n9;refine sk hH (i:=23) (v:=.tuple #[vc,.int .i64 0]) (Ze rfl) inv23 (fun X hX=>?_) fun inv24=>?_
   ·go_simp
   simp only [Act.put,zq5,zr5,zs5];clear inv23;refine sk hH (i:=24) (v:=vc) (Ze rfl) inv24 (fun X hX=>?_) fun inv25=>?_
   ·go_simp
   simp only [Act.put,zq5,zr5,zs5];clear inv24;refine sk hH (i:=25) (v:=.int .i64 0) (Ze rfl) inv25 (fun X hX=>?_) fun inv26=>?_
   ·go_simp
   simp only [Act.put,zq5,zr5,zs5];clear inv25;have inv27:=HeadInv.put2 inv26 (j:=26) (by kernel_rfl) (by omega)
   clear inv26;refine sa1 (r:=26) B_w3.out ?_;refine ZC (Ze rfl) rfl (v:=vc) (w':=w4) (by go_simp) ?_
   simp only [Act.put,zq5,zr5,zs5];clear inv27 hH;refine Zv (by kernel_rfl) B_w3.out ?_
   simp only [List.drop_succ_cons,List.drop_zero];clear B_w3;obtain⟨g1,d1,hv1⟩:=P1.out.len;subst hv1;have F2:=Lib.hid (MK.out.fresh hbC2 N1.out hzx5 P1.out);clear m0 p1 p2 p3 p4 zA zB hzx5;gi_wp2;obtain⟨c0,c1,c2,c3,c4,c5,c6,c7,c8,c9,c10⟩:=Zi (m:=m) (zCw hMO BR);go_wp2_with fail;refine (g5.out _ BW.out).mono ?_;rintro e w5 ⟨rfl,b5⟩;replace BW:=zAg BW b5;replace BR:=zAg BR b5;have B_w4:=Lib.hid b5;clear b5 c0 c1 c2 c3 c4 c5 c6 c7 c8 c9 c10;obtain⟨c0,c1,c2,c3,c4,c5,c6,c7,c8,c9,c10⟩:=Zi (m:=m) (zCw hMO BR);clear c0 c1 c2 c3 c4 c5 c6 c7 c8 c9 c10;have M0:=(MK.out.up BR.out (by omega)).one (u:=.slice g1 cl.length (cl.length+d1)) (by rw [HP.out];exact ((P1.out.below B_w4.out).mono B_w4.out.size)) (by rw [HP.out];exact F2.out)
   rw [HP.out] at M0;simp only at M0;have T0:=ST.out.up BR.out;have hC:=MK.out.free (zCw HCB BR) (.inl (Nat.le_refl _));have hb0:bC<w5.heap.size:=by have:=BR.out.size;omega
   have hAT:=BR.out.size;have yA:=(BR.out.cell (p:=⟨b1',o1'+k,none⟩) (show b1'<wo.heap.size by omega)).trans xA
   have yB:=(BR.out.cell (p:=⟨b1,o1+(k+1),none⟩) (show b1<wo.heap.size by omega)).trans xB
   have yT:=(BR.out.cell (p:=⟨b2,o2+(k+1),none⟩) (show b2<wo.heap.size by omega)).trans xT
   have yE:=(BR.out.cell (p:=⟨b2',o2'+(k+1),none⟩) (show b2'<wo.heap.size by omega)).trans xE
   go_upto_region 15 with fail
   refine (wpIn_wide (n:=9)).1 ?_;refine Zj (Zt _) 26 (fun X=>Has X bC #[.slice aV l.length (l.length+cV),.slice av1 k cv1,.slice av2 k cv2] 30∧Below bC w5 X) (by kernel_rfl) (by kernel_rfl) (by kernel_rfl) fun hH inv0=>?_
   have hD:=Below.drew (Below.refl w5.heap.size w5);have hT:=M0.up hD (by omega)
   have hU:=T0.up hD;replace hC:=hC.up hD;have hbX:=Nat.lt_of_lt_of_le hb0 hD.size;have hBC:=hD.mono (Nat.le_of_lt hb0);generalize hXXD:w5.drew=X0 at *;clear hXXD M0 T0 hD;refine sk hH (i:=0) (v:=.pointer (some ⟨bC,1,none⟩)) (Ze rfl) inv0 (fun X hX=>?_) fun inv1=>?_
   ·go_simp
   simp only [Act.put,zq5,zr5,zs5];clear inv0;refine sk hH (i:=1) (v:=.slice av1 k cv1) (Ze rfl) inv1 (fun X hX=>?_) fun inv2=>?_
   ·have r0:=hX.1.cell (i:=1) rfl;go_simp
   simp only [Act.put,zq5,zr5,zs5];clear inv1;refine sk hH (i:=2) (v:=.slice g1 cl.length (cl.length+d1)) (Ze rfl) inv2 (fun X hX=>?_) fun inv3=>?_
   ·go_simp
   simp only [Act.put,zq5,zr5,zs5];clear inv2;refine sk hH (i:=3) (v:=.slice (some ⟨b1',o1',none⟩) m.ways.length (m.ways.length+e1')) (Ze rfl) inv3 (fun X hX=>?_) fun inv4=>?_
   ·go_simp
   simp only [Act.put,zq5,zr5,zs5];clear inv3;refine sk hH (i:=4) (v:=.int .i64 (k:Int)) (Ze rfl) inv4 (fun X hX=>?_) fun inv5=>?_
   ·go_simp
   simp only [Act.put,zq5,zr5,zs5];clear inv4;refine sk hH (i:=5) (v:=.pointer (some ⟨b1',o1'+k,none⟩)) (Ze rfl) inv5 (fun X hX=>?_) fun inv6=>?_
   ·go_simp
   simp only [Act.put,zq5,zr5,zs5];clear inv5;refine sk hH (i:=6) (v:=.int .i64 qa) (Ze rfl) inv6 (fun X hX=>?_) fun inv7=>?_
   ·have r0:=(hX.2.cell (p:=⟨b1',o1'+k,none⟩) MAF).trans yA;go_simp
   simp only [Act.put,zq5,zr5,zs5];clear inv6;refine sk hH (i:=7) (v:=.slice (some ⟨b1,o1,none⟩) m.ways.length (m.ways.length+e1)) (Ze rfl) inv7 (fun X hX=>?_) fun inv8=>?_
   ·go_simp
   simp only [Act.put,zq5,zr5,zs5];clear inv7;refine sk hH (i:=8) (v:=.int .i64 (k:Int)) (Ze rfl) inv8 (fun X hX=>?_) fun inv9=>?_
   ·go_simp
   simp only [Act.put,zq5,zr5,zs5];clear inv8;refine sk hH (i:=9) (v:=.int .i64 ((k+1:Nat):Int)) (Ze rfl) inv9 (fun X hX=>?_) fun inv10=>?_
   ·go_simp
   simp only [Act.put,zq5,zr5,zs5];clear inv9;refine sk hH (i:=10) (v:=.pointer (some ⟨b1,o1+(k+1),none⟩)) (Ze rfl) inv10 (fun X hX=>?_) fun inv11=>?_
   ·go_simp
   simp only [Act.put,zq5,zr5,zs5];clear inv10;refine sk hH (i:=11) (v:=.int .i64 qb) (Ze rfl) inv11 (fun X hX=>?_) fun inv12=>?_
   ·have r0:=(hX.2.cell (p:=⟨b1,o1+(k+1),none⟩) MBE).trans yB;go_simp
   simp only [Act.put,zq5,zr5,zs5];clear inv11;refine sk hH (i:=12) (v:=.slice (some ⟨b2,o2,none⟩) m.ways.length (m.ways.length+e2)) (Ze rfl) inv12 (fun X hX=>?_) fun inv13=>?_
   ·go_simp
   simp only [Act.put,zq5,zr5,zs5];clear inv12;refine sk hH (i:=13) (v:=.int .i64 (k:Int)) (Ze rfl) inv13 (fun X hX=>?_) fun inv14=>?_
   ·go_simp
   simp only [Act.put,zq5,zr5,zs5];clear inv13;refine sk hH (i:=14) (v:=.int .i64 ((k+1:Nat):Int)) (Ze rfl) inv14 (fun X hX=>?_) fun inv15=>?_
   ·go_simp
   simp only [Act.put,zq5,zr5,zs5];clear inv14;refine sk hH (i:=15) (v:=.pointer (some ⟨b2,o2+(k+1),none⟩)) (Ze rfl) inv15 (fun X hX=>?_) fun inv16=>?_
   ·go_simp
   simp only [Act.put,zq5,zr5,zs5];clear inv15;refine sk hH (i:=16) (v:=.int .i64 qt) (Ze rfl) inv16 (fun X hX=>?_) fun inv17=>?_
   ·have r0:=(hX.2.cell (p:=⟨b2,o2+(k+1),none⟩) MTI).trans yT;go_simp
   simp only [Act.put,zq5,zr5,zs5];clear inv16;refine sk hH (i:=17) (v:=.slice (some ⟨b2',o2',none⟩) m.ways.length (m.ways.length+e2')) (Ze rfl) inv17 (fun X hX=>?_) fun inv18=>?_
   ·go_simp
   simp only [Act.put,zq5,zr5,zs5];clear inv17;refine sk hH (i:=18) (v:=.int .i64 (k:Int)) (Ze rfl) inv18 (fun X hX=>?_) fun inv19=>?_
   ·go_simp
   simp only [Act.put,zq5,zr5,zs5];clear inv18;refine sk hH (i:=19) (v:=.int .i64 ((k+1:Nat):Int)) (Ze rfl) inv19 (fun X hX=>?_) fun inv20=>?_
   ·go_simp
   simp only [Act.put,zq5,zr5,zs5];clear inv19;refine sk hH (i:=20) (v:=.pointer (some ⟨b2',o2'+(k+1),none⟩)) (Ze rfl) inv20 (fun X hX=>?_) fun inv21=>?_
   ·go_simp
   simp only [Act.put,zq5,zr5,zs5];clear inv20;refine sk hH (i:=21) (v:=.int .i64 qe) (Ze rfl) inv21 (fun X hX=>?_) fun inv22=>?_
   ·have r0:=(hX.2.cell (p:=⟨b2',o2'+(k+1),none⟩) MEN).trans yE;go_simp
   simp only [Act.put,zq5,zr5,zs5];clear inv21;refine sk hH (i:=22) (v:=.agg #[.slice g1 cl.length (cl.length+d1),.int .i64 qa,.int .i64 qb,.int .i64 qt,.int .i64 qe]) (Ze rfl) inv22 (fun X hX=>?_) fun inv23=>?_
   ·go_simp
   simp only [Act.put,zq5,zr5,zs5];clear inv22;have inv24:=HeadInv.put2 inv23 (j:=23) (by kernel_rfl) (by omega)
   clear inv23;refine sa1 (r:=23) ⟨hC.1,hBC⟩ ?_;refine ZC (Ze rfl) rfl (v:=.slice (some ⟨X0.heap.size,0,none⟩) 1 1) (w':=X0.alloc (.cells #[.slice g1 cl.length (cl.length+d1),.int .i64 qa,.int .i64 qb,.int .i64 qt,.int .i64 qe] 48)) (by go_simp) ?_
   simp only [Act.put,zq5,zr5,zs5];have hA:=(Below.refl X0.heap.size X0).alloc (Nat.le_refl _) (.cells #[.slice g1 cl.length (cl.length+d1),.int .i64 qa,.int .i64 qb,.int .i64 qt,.int .i64 qe] 48);have b3:=hT.free (Has.new X0 #[.slice g1 cl.length (cl.length+d1),.int .i64 qa,.int .i64 qb,.int .i64 qt,.int .i64 qe] 48) (.inr (Nat.le_refl _));replace hC:=hC.up hA;replace hT:=hT.up hA (by omega)
   replace hU:=hU.up hA;replace hBC:=hBC.trans (hA.mono (Nat.le_of_lt hbX));replace hbX:=Nat.lt_of_lt_of_le hbX hA.size;generalize X0.alloc (.cells #[.slice g1 cl.length (cl.length+d1),.int .i64 qa,.int .i64 qb,.int .i64 qt,.int .i64 qe] 48)=X2 at *;obtain⟨s3,hs'⟩:∃ x,X0.heap.size=x:=⟨_,rfl⟩;rw [hs'] at b3 ⊢;clear hA hs';have inv25:=HeadInv.put2 inv24 (j:=24) (by kernel_rfl) (by omega)
   clear inv24;refine sa1 (r:=24) ⟨hC.1,hBC⟩ ?_;refine ZA (Ze rfl) rfl (.tmp 108) (.tmp 130) 28 rfl (bC+1) 48 i5 (.agg #[.slice none 0 0,.int .i64 0,.int .i64 0,.int .i64 0,.int .i64 0]) 5 56 Tryz.underlying28 HI5.out hy0' hy1' hy2' rfl (by decide) _ _ _ rfl hT.r1 ⟨s3,0,none⟩ 1 1 [.slice g1 cl.length (cl.length+d1),.int .i64 qa,.int .i64 qb,.int .i64 qt,.int .i64 qe] rfl rfl (Z0Z b3.1) (by simp [Value.oneCell']) (by unfold maxLen;omega) (by omega) hbX ?_
   intro u1 X3 hr1 hg1 ho1;simp only [Act.put,zq5,zr5,zs5];replace hC:=hC.app1 hg1 ho1;have hz':X2.heap.size≤X3.heap.size:=hg1.size;replace hBC:=hBC.trans ((Below.refl bC X2).grown hg1 (Nat.le_of_lt hbX) fun j ej=>Nat.le_of_lt (Nat.lt_of_lt_of_le (Nat.lt_succ_self _) (hT.r1.lt j ej).1))
   replace hU:=hU.app1 hg1 ho1;replace hT:=hT.app1 (by omega) hg1 hr1 ho1
   replace hbX:=Nat.lt_of_lt_of_le hbX hz';obtain⟨g4',cp4,rfl⟩:=Z15 hr1;clear hg1 hr1 ho1 b3 hz';have inv26:=HeadInv.put2 inv25 (j:=25) (by kernel_rfl) (by omega)
   clear inv25;refine sa1 (r:=25) ⟨hC.1,hBC⟩ ?_;refine ZC (Ze rfl) rfl (v:=.pointer (some ⟨bC,1,none⟩)) (w':=X3) (by go_simp) ?_
   simp only [Act.put,zq5,zr5,zs5];clear inv26 hH;refine Zv (by kernel_rfl) ⟨hC.1,hBC⟩ ?_
   simp only [List.drop_succ_cons,List.drop_zero];have e1:=hC.1.cell (i:=1) rfl;have z1:=Zh hC.1 1;have ltc:=hC.1.lt;have HT9:=hT.set 1 (.slice g4' (k+1) cp4);have HU9:=hU.set 1 (.slice g4' (k+1) cp4);have HC9:=hC.1.set 1 (.slice g4' (k+1) cp4);have HB9:=hBC.setCell (p:=⟨bC,1,none⟩) (Nat.le_refl _) (.slice g4' (k+1) cp4);have HN1:=hC.2;gi_wp2;clear e1 z1 ltc hT hU hC hBC yA yB yT yE;generalize hY:World.setCell X3 _ _=Y at *;have hzY:bC<Y.heap.size:=HC9.lt;clear hY hbX;simp only [zq5,zr5,zs5] at HC9;have MY:=Lib.hid HT9;have UY:=Lib.hid HU9;have CY:=Lib.hid (show MkH Y (.slice g4' (k+1) cp4) (.slice av2 k cv2) bC _ _ from⟨HC9,HN1⟩)
   have BY:=Lib.hid HB9;have c2':=HC9.cell (i:=2) rfl;have hA:=(Below.refl Y.heap.size Y).alloc (Nat.le_refl _) (.cells #[.int .i64 hE'] 3);have MYa:=Lib.hid (HT9.up hA (by omega))
   have UYa:=Lib.hid (HU9.up hA);have CYa:=Lib.hid (CY.out.up hA);have BYa:=Lib.hid (HB9.trans (hA.mono (by omega)))
   have hzYa:bC<(Y.alloc (.cells #[.int .i64 hE'] 3)).heap.size:=by simp;omega
   clear HT9 HU9 HC9 HB9 HN1 hA;go_upto_region 9 with (first | (at_builtin;refine wpList_append_own_at _ rfl _ _ 27 rfl (bC+1) 3 i0 (.int .i64 0) 1 8 Tryz.underlying27 HI.out hz0' hz1' hz2' rfl (by decide) _ _ _ rfl MYa.out.r2 ⟨Y.heap.size,0,none⟩ 1 1 [.int .i64 hE'] rfl rfl (cell_one_new _ _ _) (by simp [Value.oneCell']) (by unfold maxLen;omega) (by omega) hzYa ?_;intro u2 Y2 hr2 hg2 _ ho2;have C2:=Lib.hid (CYa.out.app2 hg2 ho2);have M2:=Lib.hid (MYa.out.app2 (by omega) hg2 hr2 ho2);have U2:=Lib.hid (UYa.out.app2 hg2 ho2);obtain⟨g9',cp9,hu2⟩:=Z15 hr2;subst hu2;have l2':Y2.cell? ⟨bC,2,none⟩=some (.slice av2 k cv2):=C2.out.1.cell (i:=2) rfl;have z2':=Zh C2.out.1 2;have lt2':=C2.out.1.lt;clear hg2 hr2 ho2) | fail)
   clear l2' z2' lt2' c2';generalize hZ':World.setCell Y2 _ _=Z2;have M3:=M2.out.set 2 (.slice g9' (k+1) cp9);have U3:=U2.out.set 2 (.slice g9' (k+1) cp9);have C3:=C2.out.1.set 2 (.slice g9' (k+1) cp9);rw [hZ'] at M3 U3 C3;clear hZ';simp only [zq5,zr5,zs5] at C3;replace M3:=Lib.hid M3;replace U3:=Lib.hid U3;replace C3:=Lib.hid C3;go_wp2;go_roundw
   case rel =>
    refine⟨k+1,.slice g4' (k+1) cp4,.slice g9' (k+1) cp9,x1++[.slice g1 cl.length (cl.length+d1),.int .i64 qa,.int .i64 qb,.int .i64 qt,.int .i64 qe],by omega,by go_num,fun j hj=>?_,C3.out,?_,U3.out⟩
    ·by_cases e:j=k
     ·rw [e];exact HQ.out
     ·exact HA.out j (by omega)
    ·have:=M3.out
     rw [show (upto (mkR m) (k+1)).map (Value.int .i64)=((upto (mkR m) k).map (Value.int .i64))++[.int .i64 hE'] by rw [Zq,← HR.out];simp]
     exact this
   case measure=>simp [intOf];omega
  ·obtain rfl:k=n:=by omega
   have dk:decide (((k+1:Nat):Int)<(m.ways.length:Int))=false:=zFy;have dk2:decide ((k:Int)+1<(m.ways.length:Int))=false:=zFy;have HV:=Lib.hid (show me=0 from HZE.out HA.out)
   have HCV:=Lib.hid (show mc=⟨l,upto (mkP m l) k,upto (mkR m) k⟩ by rw [HC.out,if_pos HV.out])
   have hk8:k≤40:=by omega
   have q0:=HCB.out.cell (i:=0) rfl;have q1:=HCB.out.cell (i:=1) rfl;have q2:=HCB.out.cell (i:=2) rfl;have hrv:=hRO.out;have e0:=hrv.cell (i:=0) rfl;have e1:=hrv.cell (i:=1) rfl;have e2:=hrv.cell (i:=2) rfl;have z0:=Zh hrv 0;have z1:=Zh hrv 1;have z2:=Zh hrv 2;have ltr:=hrv.lt;go_wp2;clear e0 e1 e2 z0 z1 z2 q0 q1 q2;generalize hZ9:World.setCell (World.setCell (World.setCell wo _ _) _ _) _ _=Z9;obtain⟨HZ9,hl9,hg9⟩:=set3 hrv hZ9;have r0:=HZ9.cell (i:=0) rfl;have r1:=HZ9.cell (i:=1) rfl;have r2:=HZ9.cell (i:=2) rfl;have B9:=BW.out.trans (hl9 w.heap.size (by omega))
   obtain⟨F1,F2⟩:=MK.out.fin (b:=w.heap.size+1) (by omega) hg9 (by omega)
   have F3:=Za.own F2 (by rw [Zu];omega)
   have F0:=(ST.out.off (b:=w.heap.size+1) (by omega) hg9).ats
   clear hrv hZ9;exact bodyPost_ret (v:=.tuple #[.agg #[.slice aV l.length (l.length+cV),.slice av1 k cv1,.slice av2 k cv2],.int .i64 0]) (by simp [results,Tryz.f11,go_sem,r0,r1,r2]) rfl ⟨_,_,_,by rw [HV.out],by rw [HCV.out];exact⟨F0,F1,F3⟩,B9⟩
end Go.Proofs.YtpimbaaahcemhaaGreat
