/- The walk of the law: The place of a scene that breaks a leg is where the leg is broken. -/
import Derived.Test.YtdolkgihppgpcaaGreatBin36
namespace Go.Proofs.YtdolkgihppgpcaaGreat.scenePlaces
open Go.RowKit
attribute [local irreducible] wpQuiet
theorem Z6K {a:Pt} {u:Int} {b:Pt} {v:Int} {x:Pt} (h:hasB (corL a u b v) x=true):corE a u b v=0:=by
 by_cases e:corE a u b v=0
 ·exact e
 ·exfalso
  unfold corL at h;rw [if_neg e] at h;unfold hasB at h;rw [Z57] at h;simp at h
theorem Z9r {m:Msn} {l:List Int} {q1 q2 q3:Int} {x:Pt} (h:brB m l q1 q2 q3 x=true):radOkB m l=true∧kpE m l=0∧∃ k:Nat,k+1<m.ways.length∧q1=(k:Int)∧askB m l k q2 q3 x=true∧(q2=1∨q2=5∨q2=2∨q2=3∨q2=4):=by
 unfold brB at h;simp only [Bool.and_eq_true,decide_eq_true_eq] at h;obtain⟨hok,h1,h2,h3⟩:=h;obtain⟨k1,k2,k3⟩:=kp_of hok;rw [h2] at h3;refine⟨hok,k3,leadN m l,?_,by rw [← h1,k1];rfl,h3,?_⟩
 ·by_cases hk:leadN m l<m.ways.length-1
  ·omega
  ·exfalso
   have h0:q2=0:=by rw [← h2,k2];unfold leadK;rw [if_neg hk]
   rw [h0] at h3;simp [askB] at h3
 ·have hb:=Z3G m l (leadN m l)
  have h4:q2=leadK m l:=by rw [← h2,k2]
  unfold leadK at h4;by_cases h0:q2=0
  ·rw [h0] at h3
   simp [askB] at h3
  ·split at h4 <;> omega
theorem Z9w {m:Msn} {l:List Int} {k:Nat} {r:Int} {x:Pt} (h:askB m l k 1 r x=true):onR m r x=true∧hasB (ownC m l k) x=true:=by
 simpa [askB,inO] using h
theorem Z9z {m:Msn} {l:List Int} {k:Nat} {r:Int} {x:Pt} (h:askB m l k 5 r x=true):bkAny m l k x=true∧onR m r x=true:=by
 simpa [askB] using h
theorem Z9y {m:Msn} {l:List Int} {k:Nat} {r:Int} {x:Pt} (h:askB m l k 2 r x=true):r=0∧hasB (hmP m l k) x=true∧hasB m.home x=false:=by
 have h1:decide (r=0)=true∧hasB (hmP m l k) x=true∧hasB m.home x=false∧insB x=true:=by simpa [askB,ntH] using h
 exact⟨of_decide_eq_true h1.1,h1.2.1,h1.2.2.1⟩
theorem Z9x {m:Msn} {l:List Int} {k:Nat} {q r:Int} {x:Pt} (hq:q=3∨q=4) (h:askB m l k q r x=true):r=0∧x.x=0∧x.y=0:=by
 have h1:notB r x=true:=by
  unfold askB at h
  rwa [if_neg (by omega),if_neg (by omega),if_neg (by omega),if_pos hq] at h
 simpa [notB] using h1
theorem Z4h {m:Msn} {r:Int} {x:Pt} (h:onR m r x=true):∃ i:Nat,r=(i:Int)∧i<m.rocks.length∧hasB (rk m.rocks i) x=true:=by
 unfold onR at h;simp only [Bool.and_eq_true,decide_eq_true_eq] at h;exact⟨r.toNat,by omega,by omega,h.2.2⟩
theorem Z3M {p:List Pt} {x:Pt} (h:hasB p x=true):hasE p x=0:=by
 unfold hasB at h;unfold hasE;simp only [Bool.and_eq_true] at h;rw [if_pos (by rw [h.1.1,h.1.2];rfl)]
theorem Z3L {p:List Pt} {x:Pt} (h:Zb p=true) (hx:Z4 x=true):hasE p x=0:=by
 unfold hasE;rw [if_pos (by rw [h,hx];rfl)]
theorem bk_ok {m:Msn} (V:VMsn m) {l:List Int} {k:Nat} (hk:k+1<m.ways.length) {j:Nat} (hj:j<dep m (k+1)):bkE m l k j=0∧Zb (bkP m l k j)=true:=by
 have e:bkE m l k j=0:=Z8h V (Z0m V.ways hk (by omega)) (Z0m V.ways hk (by omega)) (bk_bd V l hk (by omega)) (bk_bd V l hk (by omega))
 refine⟨e,?_⟩;unfold bkP corL;unfold bkE at e;rw [if_pos e];exact Z14 (Z8g e)
noncomputable def anyTo (m:Msn) (l:List Int) (k:Nat) (x:Pt) (j:Nat):Bool:=(List.range j).any fun t=>hasB (bkP m l k t) x
theorem Z3r (m:Msn) (l:List Int) (k:Nat) (x:Pt) (j:Nat):anyTo m l k x (j+1)=(anyTo m l k x j || hasB (bkP m l k j) x):=by
 unfold anyTo;rw [List.range_succ,List.any_append];simp
set_option linter.unusedSimpArgs false in
set_option linter.unusedVariables false in
set_option maxRecDepth 8000 in
set_option maxHeartbeats 12800000 in
theorem walk (w : World) (m : Msn) (vw vh vr : Value) (l : List Int) (q1 q2 q3 : Int) (x : Pt) (vs : Value) (hm : MsnAt w.heap.size w m vw vh vr) (hl : Z9 w.heap.size w vs l) :
  Calls Tryz.prog 4 #[.agg (Zc m vw vh vr),.agg #[vs,.int .i64 q1,.int .i64 q2,.int .i64 q3,.int .i64 x.x,.int .i64 x.y]] w fun e w'=>e=.returned (.bool true)∧Below w.heap.size w w':=by
 have hd:=Lib.hid (fun w1=>Z6E w1)
 have ff:=fun w1 (B:Below w.heap.size w w1)=>Z82 m vw vh vr vs l w1 ((hm.below B).mono B.size) (by obtain⟨-,a,c,h,-⟩:=hl;exact⟨a,c,h⟩)
 have fb:=fun w1 (B:Below w.heap.size w w1)=>Z1S m vw vh vr vs l q1 q2 q3 x w1 ((hm.below B).mono B.size) ((hl.below B).mono B.size)
 have fm:=fun w1 (B:Below w.heap.size w w1)=>(hm.below B).mono B.size
 have fl:=fun w1 (B:Below w.heap.size w w1)=>(hl.below B).mono B.size
 have hr:=hm.2.2;have hw:=hm.1;obtain⟨px,py⟩:=x;simp only at fb ⊢;obtain⟨⟨-,a1,c1,rfl,-⟩,⟨-,a2,c2,rfl,-⟩,⟨-,a3,c3,rfl,-⟩⟩:=hm;unfold Zc at *;obtain⟨-,al,cl,rfl,-⟩:=hl;have hwd:=Lib.hid hw;have hrd:=Lib.hid hr;clear hw hr;replace ff:=Lib.hid ff;replace fb:=Lib.hid fb;replace fm:=Lib.hid fm;replace fl:=Lib.hid fl;have BW:=Lib.hid (Below.refl w.heap.size w);go_enter Tryz.func4,Tryz.ntmps4;go_upto_region 1 with fail
 generalize hXX0:World.alloc (World.alloc w _) _=X0;obtain⟨q0,q1,hA,hzX0⟩:=box2 hXX0;clear hXX0;have BW:=Lib.hid hA;clear hA;have MB:=Lib.hid q0;clear q0;have XB:=Lib.hid q1;clear q1 hzX0;go_wp2_with fail;refine (hd.out X0).mono ?_;rintro e w51 ⟨rfl,b51⟩;replace BW:=zAg BW b51;have B_X0:=Lib.hid b51;clear b51;obtain⟨c0,c1,c2,c3,c4,c5,c6,c7,c8,c9,c10⟩:=Zi (m:=m) (zCn MB B_X0);have hs:=(zCn XB B_X0);have s0':=hs.cell (i:=0) rfl;have s1':=hs.cell (i:=1) rfl;have s2':=hs.cell (i:=2) rfl;have s3':=hs.cell (i:=3) rfl;have s4':=hs.cell (i:=4) rfl;have s5':=hs.cell (i:=5) rfl;go_wp2_with fail;refine (ff.out _ BW.out).mono ?_;rintro e w52 ⟨rfl,b52⟩;replace BW:=zAg BW b52;replace B_X0:=zAg B_X0 b52;clear b52 c0 c1 c2 c3 c4 c5 c6 c7 c8 c9 c10 hs s0' s1' s2' s3' s4' s5';obtain⟨c0,c1,c2,c3,c4,c5,c6,c7,c8,c9,c10⟩:=Zi (m:=m) (zCn MB B_X0);have hs:=(zCn XB B_X0);have s0':=hs.cell (i:=0) rfl;have s1':=hs.cell (i:=1) rfl;have s2':=hs.cell (i:=2) rfl;have s3':=hs.cell (i:=3) rfl;have s4':=hs.cell (i:=4) rfl;have s5':=hs.cell (i:=5) rfl;cases hfew:few37B m l
 ·skip
  go_wp2;go_ret;exact⟨rfl,BW.out⟩
 have h8:m.ways.length≤8:=Z9d (by simp only [few37B,Bool.and_eq_true] at hfew;exact hfew.1)
 clear hfew;have g4:=fb.out w52 BW.out;clear fb ff;cases hbB:brB m l q1 q2 q3 ⟨px,py⟩
 ·skip
  obtain⟨ke,hke⟩:∃ e,kpE m l=e:=⟨_,rfl⟩;have hk01:ke=0∨ke=1:=by rw [← hke];unfold kpE;split <;> simp
  rw [hbB,hke] at g4;replace g4:=Lib.hid g4;clear hbB hke;rcases hk01 with rfl | rfl
  ·skip
   go_wp2_with fail;refine (g4.out).mono ?_;rintro e w53 ⟨rfl,b53⟩;replace BW:=zAg BW b53;replace B_X0:=zAg B_X0 b53;clear b53 c0 c1 c2 c3 c4 c5 c6 c7 c8 c9 c10 hs s0' s1' s2' s3' s4' s5';go_wp2;go_ret;exact⟨rfl,BW.out⟩
  ·skip
   go_wp2_with fail;refine (g4.out).mono ?_;rintro e w54 ⟨rfl,b54⟩;replace BW:=zAg BW b54;replace B_X0:=zAg B_X0 b54;clear b54 c0 c1 c2 c3 c4 c5 c6 c7 c8 c9 c10 hs s0' s1' s2' s3' s4' s5';go_wp2;go_ret;exact⟨rfl,BW.out⟩
 obtain⟨hok,hke,k,hk,rfl,hask,hK5⟩:=Z9r hbB;rw [hbB,hke] at g4;replace g4:=Lib.hid g4;have hvs:validB m=true∧stopsB m l=true:=by simpa [radOkB] using hok
 have hV:=hvs.1;have V:=(Zs m).1 hV;have n41:=V.n41;have frd:=Lib.hid (fun w1 B=>Z1p m _ _ _ _ l w1 (fm.out w1 B) (fl.out w1 B) hvs.1 hvs.2)
 have frt:=Lib.hid (fun w1 B=>Z47 m _ _ _ (k+1) w1 (fm.out w1 B) hV hk)
 have flg:=Lib.hid (fun w1 (B:Below w.heap.size w w1) (i j:Nat) hi hj=>Z3D (m:=m) (a:=i) (b:=j) hV hi hj ▸ Z3E m _ _ _ i j w1 (fm.out w1 B))
 clear hbB hke hvs hok;unfold UsedN RouteQ at *;obtain⟨K,hKe⟩:∃ K,k+1=K:=⟨_,rfl⟩;have jw:IntKind.i64.wrap ((k:Int)+1)=(K:Int):=by rw [← hKe];exact zW2
 have hkn:k<m.ways.length:=by omega
 go_wp2_with fail;refine (g4.out).mono ?_;rintro e w55 ⟨rfl,b55⟩;replace BW:=zAg BW b55;replace B_X0:=zAg B_X0 b55;clear b55 g4 c0 c1 c2 c3 c4 c5 c6 c7 c8 c9 c10 hs s0' s1' s2' s3' s4' s5';obtain⟨c0,c1,c2,c3,c4,c5,c6,c7,c8,c9,c10⟩:=Zi (m:=m) (zCn MB B_X0);have hs:=(zCn XB B_X0);have s0':=hs.cell (i:=0) rfl;have s1':=hs.cell (i:=1) rfl;have s2':=hs.cell (i:=2) rfl;have s3':=hs.cell (i:=3) rfl;have s4':=hs.cell (i:=4) rfl;have s5':=hs.cell (i:=5) rfl;go_wp2_with fail;refine (frd.out _ BW.out).mono ?_;rintro e w56 ⟨vb,va,rfl,p1,p2,b56,-,-⟩;replace BW:=zAg BW b56;replace B_X0:=zAg B_X0 b56;clear b56;have PB:=Lib.hid p1;clear p1;have PA:=Lib.hid p2;clear p2;obtain⟨bb,ob,cb,hvb,hbb,hcb⟩:=ZH PB.out (by rw [ZD];omega)
 subst hvb;obtain⟨ba,oa,ca,hva,hba,hca⟩:=ZH PA.out (by rw [ZY];omega)
 subst hva;simp only [ZD,ZY] at *;have z1:=(hca k (by omega)).trans (by rw [Z3C (by omega)])
 have z2:=(hcb (k+1) hk).trans (by rw [Z10 hk])
 have Z1:=Lib.hid z1;have Z2:=Lib.hid z2;have hbb':=Lib.hid hbb;have hba':=Lib.hid hba;clear z1 z2 hca hcb hbb hba frd PA PB c0 c1 c2 c3 c4 c5 c6 c7 c8 c9 c10 hs s0' s1' s2' s3' s4' s5';obtain⟨c0,c1,c2,c3,c4,c5,c6,c7,c8,c9,c10⟩:=Zi (m:=m) (zCn MB B_X0);have hs:=(zCn XB B_X0);have s0':=hs.cell (i:=0) rfl;have s1':=hs.cell (i:=1) rfl;have s2':=hs.cell (i:=2) rfl;have s3':=hs.cell (i:=3) rfl;have s4':=hs.cell (i:=4) rfl;have s5':=hs.cell (i:=5) rfl;have frt':=frt.out w56 BW.out;simp only [hKe] at frt';replace frt':=Lib.hid frt';clear frt;go_wp2_with fail;refine (frt'.out).mono ?_;rintro e w57 ⟨v9,rfl,p9,b57⟩;replace BW:=zAg BW b57;replace B_X0:=zAg B_X0 b57;have B_w56:=Lib.hid b57;clear b57;have PR:=Lib.hid p9;clear p9 frt';have hlen:(intL (upto (itB m K) (dep m K+1))).length=dep m K+1:=by simp [intL,upto]
 obtain⟨b2,o2,cap4,hv9,hb2,hc2⟩:=Z12 PR.out hlen;subst hv9;have HC2:=Lib.hid (And.intro hb2 hc2);clear hb2 hc2 hlen PR c0 c1 c2 c3 c4 c5 c6 c7 c8 c9 c10 hs s0' s1' s2' s3' s4' s5';obtain⟨c0,c1,c2,c3,c4,c5,c6,c7,c8,c9,c10⟩:=Zi (m:=m) (zCn MB B_X0);have hs:=(zCn XB B_X0);have s0':=hs.cell (i:=0) rfl;have s1':=hs.cell (i:=1) rfl;have s2':=hs.cell (i:=2) rfl;have s3':=hs.cell (i:=3) rfl;have s4':=hs.cell (i:=4) rfl;have s5':=hs.cell (i:=5) rfl;have g5:decide ((K:Int)≥(m.ways.length:Int))=false:=by rw [decide_eq_false_iff_not];omega
 have g6:decide (m.ways.length≤K)=false:=by rw [decide_eq_false_iff_not];omega
 have h0:0<m.ways.length:=by omega
 obtain⟨-,aW,cW,eW,hcw⟩:=hwd.out;obtain⟨bw,ow,eA,hbw,hcw2⟩:=hcw.resolve_left (by intro h;rw [h] at h0;simp at h0)
 clear hcw;simp only [Value.slice.injEq] at eW;obtain⟨eW,-,-⟩:=eW;subst eW;subst eA;have HW:=Lib.hid (And.intro hbw hcw2);clear hwd hbw hcw2;rcases hK5 with rfl | rfl | rfl | hK34
 ·skip
  obtain⟨hon,hown⟩:=Z9w hask;obtain⟨i,rfl,hi,hh⟩:=Z4h hon;clear hask hon;have fc:=fun w1=>Z0o (atW m k) (atW m (k+1)) (rdA m l k) (rdB m l (k+1)) w1
  rw [Z6K hown] at fc;have fo:=fun w1 v1 h=>Z0z v1 (ownC m l k) ⟨px,py⟩ w1 h
  rw [hown,Z3M hown] at fo;have fc':∀ w1,Calls Tryz.prog 18 #[.agg #[.int .i64 (wy m.ways k).x,.int .i64 (wy m.ways k).y],.int .i64 (rdA m l k),.agg #[.int .i64 (wy m.ways (k+1)).x,.int .i64 (wy m.ways (k+1)).y],.int .i64 (rdB m l (k+1))] w1 fun e w'=>∃ r,e=.returned (.tuple #[r,.int .i64 0])∧Z8 w'.heap.size w' r (ownC m l k)∧Below w1.heap.size w1 w':=fc
  clear fc;obtain⟨x1,x2,-⟩:=HW.out.2 k hkn;obtain⟨x3,x4,-⟩:=HW.out.2 (k+1) hk;simp only [hKe] at fc' x3 x4 Z2 hk;generalize ownC m l k=oo at *;generalize rdA m l k=ra at *;generalize rdB m l K=rb at *;generalize (wy m.ways k).x=ax at *;generalize (wy m.ways k).y=ay at *;generalize (wy m.ways K).x=bx at *;generalize (wy m.ways K).y=by' at *
  have hk':(k:Int)<m.ways.length:=by omega
  have hK':(K:Int)<m.ways.length:=by omega
  have hk0:(0:Int)≤k:=by omega
  have hK0:(0:Int)≤K:=by omega
  replace fc':=Lib.hid fc';replace fo:=Lib.hid fo;clear hown V hV;go_upto_region 13 with fail
  clear c0 c1 c2 c3 c4 c5 c6 c7 c8 c9 c10 hs s0' s1' s2' s3' s4' s5';replace x1:=(BW.out.cell (p:=⟨bw,ow+k*5,none⟩) HW.out.1).trans x1;replace x2:=(BW.out.cell (p:=⟨bw,ow+k*5+1,none⟩) HW.out.1).trans x2;replace x3:=(BW.out.cell (p:=⟨bw,ow+K*5,none⟩) HW.out.1).trans x3;replace x4:=(BW.out.cell (p:=⟨bw,ow+K*5+1,none⟩) HW.out.1).trans x4;have z1:=(B_w56.out.cell (p:=⟨ba,oa+k,none⟩) hba'.out).trans Z1.out;have z2:=(B_w56.out.cell (p:=⟨bb,ob+K,none⟩) hbb'.out).trans (by simpa only [hKe] using Z2.out)
  have m0:w57.cell? ⟨w.heap.size,0,none⟩=some (.slice (some ⟨bw,ow,none⟩) m.ways.length (m.ways.length+c1)):=(zCn MB B_X0).cell (i:=0) rfl;have y1:w57.cell? ⟨w.heap.size+1,1,none⟩=some (.int .i64 (k:Int)):=(zCn XB B_X0).cell (i:=1) rfl;refine (wpIn_wide (n:=9)).1 ?_;refine Zg (Zj _) 31 (fun X=>Below w57.heap.size w57 X) (by kernel_rfl) (by kernel_rfl) (by kernel_rfl) fun hH inv0=>?_
  have hD:=Below.drew (Below.refl w57.heap.size w57);generalize hXXd:w57.drew=Xd at *;clear hXXd;replace BW:=zAg BW hD;replace B_X0:=zAg B_X0 hD;replace B_w56:=zAg B_w56 hD;have B_w57:=Lib.hid hD;clear hD;refine sk hH (i:=0) (v:=.pointer (some ⟨w.heap.size,0,none⟩)) (Zd rfl) inv0 (fun X hX=>?_) fun inv1=>?_
  ·go_simp
  simp only [Act.put,zq4,zr4,zs4];clear inv0;refine sk hH (i:=1) (v:=.slice (some ⟨bw,ow,none⟩) m.ways.length (m.ways.length+c1)) (Zd rfl) inv1 (fun X hX=>?_) fun inv2=>?_
  ·have r0:=(hX.cell (p:=⟨w.heap.size,0,none⟩) (World.block_lt_of_cell? _ _ m0)).trans m0;go_simp
  simp only [Act.put,zq4,zr4,zs4];clear inv1;refine sk hH (i:=2) (v:=.pointer (some ⟨w.heap.size+1,1,none⟩)) (Zd rfl) inv2 (fun X hX=>?_) fun inv3=>?_
  ·go_simp
  simp only [Act.put,zq4,zr4,zs4];clear inv2;refine sk hH (i:=3) (v:=.int .i64 (k:Int)) (Zd rfl) inv3 (fun X hX=>?_) fun inv4=>?_
  ·have r0:=(hX.cell (p:=⟨w.heap.size+1,1,none⟩) (World.block_lt_of_cell? _ _ y1)).trans y1;go_simp
  simp only [Act.put,zq4,zr4,zs4];clear inv3;refine sk hH (i:=4) (v:=.pointer (some ⟨bw,ow+k*5,none⟩)) (Zd rfl) inv4 (fun X hX=>?_) fun inv5=>?_
  ·go_simp
  simp only [Act.put,zq4,zr4,zs4];clear inv4;refine sk hH (i:=5) (v:=.pointer (some ⟨bw,ow+k*5,none⟩)) (Zd rfl) inv5 (fun X hX=>?_) fun inv6=>?_
  ·go_simp
  simp only [Act.put,zq4,zr4,zs4];clear inv5;refine sk hH (i:=6) (v:=.agg #[.int .i64 ax,.int .i64 ay]) (Zd rfl) inv6 (fun X hX=>?_) fun inv7=>?_
  ·have r0:=(hX.cell (p:=⟨bw,ow+k*5,none⟩) (World.block_lt_of_cell? _ _ x1)).trans x1;have r1:=(hX.cell (p:=⟨bw,ow+k*5+1,none⟩) (World.block_lt_of_cell? _ _ x2)).trans x2;go_simp
  simp only [Act.put,zq4,zr4,zs4];clear inv6;refine sk hH (i:=7) (v:=.slice (some ⟨ba,oa,none⟩) m.ways.length (m.ways.length+ca)) (Zd rfl) inv7 (fun X hX=>?_) fun inv8=>?_
  ·go_simp
  simp only [Act.put,zq4,zr4,zs4];clear inv7;refine sk hH (i:=8) (v:=.pointer (some ⟨w.heap.size+1,1,none⟩)) (Zd rfl) inv8 (fun X hX=>?_) fun inv9=>?_
  ·go_simp
  simp only [Act.put,zq4,zr4,zs4];clear inv8;refine sk hH (i:=9) (v:=.int .i64 (k:Int)) (Zd rfl) inv9 (fun X hX=>?_) fun inv10=>?_
  ·have r0:=(hX.cell (p:=⟨w.heap.size+1,1,none⟩) (World.block_lt_of_cell? _ _ y1)).trans y1;go_simp
  simp only [Act.put,zq4,zr4,zs4];clear inv9;refine sk hH (i:=10) (v:=.pointer (some ⟨ba,oa+k,none⟩)) (Zd rfl) inv10 (fun X hX=>?_) fun inv11=>?_
  ·go_simp
  simp only [Act.put,zq4,zr4,zs4];clear inv10;refine sk hH (i:=11) (v:=.int .i64 ra) (Zd rfl) inv11 (fun X hX=>?_) fun inv12=>?_
  ·have r0:=(hX.cell (p:=⟨ba,oa+k,none⟩) (World.block_lt_of_cell? _ _ z1)).trans z1;go_simp
  simp only [Act.put,zq4,zr4,zs4];clear inv11;refine sk hH (i:=12) (v:=.pointer (some ⟨w.heap.size,0,none⟩)) (Zd rfl) inv12 (fun X hX=>?_) fun inv13=>?_
  ·go_simp
  simp only [Act.put,zq4,zr4,zs4];clear inv12;refine sk hH (i:=13) (v:=.slice (some ⟨bw,ow,none⟩) m.ways.length (m.ways.length+c1)) (Zd rfl) inv13 (fun X hX=>?_) fun inv14=>?_
  ·have r0:=(hX.cell (p:=⟨w.heap.size,0,none⟩) (World.block_lt_of_cell? _ _ m0)).trans m0;go_simp
  simp only [Act.put,zq4,zr4,zs4];clear inv13;refine sk hH (i:=14) (v:=.pointer (some ⟨w.heap.size+1,1,none⟩)) (Zd rfl) inv14 (fun X hX=>?_) fun inv15=>?_
  ·go_simp
  simp only [Act.put,zq4,zr4,zs4];clear inv14;refine sk hH (i:=15) (v:=.int .i64 (k:Int)) (Zd rfl) inv15 (fun X hX=>?_) fun inv16=>?_
  ·have r0:=(hX.cell (p:=⟨w.heap.size+1,1,none⟩) (World.block_lt_of_cell? _ _ y1)).trans y1;go_simp
  simp only [Act.put,zq4,zr4,zs4];clear inv15;refine sk hH (i:=16) (v:=.int .i64 (K:Int)) (Zd rfl) inv16 (fun X hX=>?_) fun inv17=>?_
  ·go_simp
  simp only [Act.put,zq4,zr4,zs4];clear inv16;refine sk hH (i:=17) (v:=.pointer (some ⟨bw,ow+K*5,none⟩)) (Zd rfl) inv17 (fun X hX=>?_) fun inv18=>?_
  ·go_simp
  simp only [Act.put,zq4,zr4,zs4];clear inv17;refine sk hH (i:=18) (v:=.pointer (some ⟨bw,ow+K*5,none⟩)) (Zd rfl) inv18 (fun X hX=>?_) fun inv19=>?_
  ·go_simp
  simp only [Act.put,zq4,zr4,zs4];clear inv18;refine sk hH (i:=19) (v:=.agg #[.int .i64 bx,.int .i64 by']) (Zd rfl) inv19 (fun X hX=>?_) fun inv20=>?_
  ·have r0:=(hX.cell (p:=⟨bw,ow+K*5,none⟩) (World.block_lt_of_cell? _ _ x3)).trans x3;have r1:=(hX.cell (p:=⟨bw,ow+K*5+1,none⟩) (World.block_lt_of_cell? _ _ x4)).trans x4;go_simp
  simp only [Act.put,zq4,zr4,zs4];clear inv19;refine sk hH (i:=20) (v:=.slice (some ⟨bb,ob,none⟩) m.ways.length (m.ways.length+cb)) (Zd rfl) inv20 (fun X hX=>?_) fun inv21=>?_
  ·go_simp
  simp only [Act.put,zq4,zr4,zs4];clear inv20;refine sk hH (i:=21) (v:=.pointer (some ⟨w.heap.size+1,1,none⟩)) (Zd rfl) inv21 (fun X hX=>?_) fun inv22=>?_
  ·go_simp
  simp only [Act.put,zq4,zr4,zs4];clear inv21;refine sk hH (i:=22) (v:=.int .i64 (k:Int)) (Zd rfl) inv22 (fun X hX=>?_) fun inv23=>?_
  ·have r0:=(hX.cell (p:=⟨w.heap.size+1,1,none⟩) (World.block_lt_of_cell? _ _ y1)).trans y1;go_simp
  simp only [Act.put,zq4,zr4,zs4];clear inv22;refine sk hH (i:=23) (v:=.int .i64 (K:Int)) (Zd rfl) inv23 (fun X hX=>?_) fun inv24=>?_
  ·go_simp
  simp only [Act.put,zq4,zr4,zs4];clear inv23;refine sk hH (i:=24) (v:=.pointer (some ⟨bb,ob+K,none⟩)) (Zd rfl) inv24 (fun X hX=>?_) fun inv25=>?_
  ·go_simp
  simp only [Act.put,zq4,zr4,zs4];clear inv24;refine sk hH (i:=25) (v:=.int .i64 rb) (Zd rfl) inv25 (fun X hX=>?_) fun inv26=>?_
  ·have r0:=(hX.cell (p:=⟨bb,ob+K,none⟩) (World.block_lt_of_cell? _ _ z2)).trans z2;go_simp
  simp only [Act.put,zq4,zr4,zs4];clear inv25;have inv27:=HeadInv.put2 inv26 (j:=26) (by kernel_rfl) (by omega)
  clear inv26;refine sa1 (r:=26) B_w57.out ?_;refine Zp (Zd rfl) rfl (f:=18) (args:=#[.agg #[.int .i64 ax,.int .i64 ay],.int .i64 ra,.agg #[.int .i64 bx,.int .i64 by'],.int .i64 rb]) (by go_simp) (fc'.out Xd) ?_
  rintro e w58 ⟨v1,rfl,p1,b58⟩;refine⟨_,rfl,?_⟩;simp only [Act.put,zq4,zr4,zs4];replace BW:=zAg BW b58;replace B_X0:=zAg B_X0 b58;replace B_w56:=zAg B_w56 b58;replace B_w57:=zAg B_w57 b58;clear b58;have P1:=Lib.hid p1;clear p1;refine sk hH (i:=27) (v:=.tuple #[v1,.int .i64 0]) (Zd rfl) inv27 (fun X hX=>?_) fun inv28=>?_
  ·go_simp
  simp only [Act.put,zq4,zr4,zs4];clear inv27;refine sk hH (i:=28) (v:=v1) (Zd rfl) inv28 (fun X hX=>?_) fun inv29=>?_
  ·go_simp
  simp only [Act.put,zq4,zr4,zs4];clear inv28;refine sk hH (i:=29) (v:=.int .i64 0) (Zd rfl) inv29 (fun X hX=>?_) fun inv30=>?_
  ·go_simp
  simp only [Act.put,zq4,zr4,zs4];clear inv29;refine sk hH (i:=30) (v:=v1) (Zd rfl) inv30 (fun X hX=>?_) fun inv31=>?_
  ·go_simp
  simp only [Act.put,zq4,zr4,zs4];clear inv30 inv31 hH;refine Zm (by kernel_rfl) B_w57.out ?_
  simp only [List.drop_succ_cons,List.drop_zero];obtain⟨g1,d1,hv1⟩:=P1.out.len;subst hv1;clear x1 x2 x3 x4 z1 z2 m0 y1 fc';gi_wp2;have y4:=(zCn XB B_X0).cell (i:=4) rfl;have y5:=(zCn XB B_X0).cell (i:=5) rfl;go_wp2_with fail;refine (fo.out w58 _ P1.out).mono ?_;rintro e w59 ⟨rfl,b59⟩;replace BW:=zAg BW b59;replace B_X0:=zAg B_X0 b59;replace B_w56:=zAg B_w56 b59;replace B_w57:=zAg B_w57 b59;have B_w58:=Lib.hid b59;clear b59 fo y4 y5;obtain⟨c0,c1,c2,c3,c4,c5,c6,c7,c8,c9,c10⟩:=Zi (m:=m) (zCn MB B_X0);have hs:=(zCn XB B_X0);have s0':=hs.cell (i:=0) rfl;have s1':=hs.cell (i:=1) rfl;have s2':=hs.cell (i:=2) rfl;have s3':=hs.cell (i:=3) rfl;have s4':=hs.cell (i:=4) rfl;have s5':=hs.cell (i:=5) rfl;clear P1 B_w58;have hiN:(i:Int)<(m.rocks.length:Int):=by omega
  have hi0:(0:Int)≤(i:Int):=by omega
  obtain⟨-,aR,cR,eR,hcr⟩:=hrd.out;obtain⟨br,or',eA,hbr,hcr2⟩:=hcr.resolve_left (by intro h;rw [h] at hi;simp at hi)
  clear hcr;simp only [Value.slice.injEq] at eR;obtain⟨eR,-,-⟩:=eR;subst eR;subst eA;obtain⟨u,xu,pu⟩:=hcr2 i hi;have gh:∀ w1,Below w.heap.size w w1→Calls Tryz.prog 19 #[u,.agg #[.int .i64 px,.int .i64 py]] w1 fun e w'=>e=.returned (.tuple #[.bool true,.int .i64 0])∧Below w1.heap.size w1 w':=fun w1 B=>by
   have:=Z0z u (rk m.rocks i) ⟨px,py⟩ w1 ((pu.below B).mono B.size)
   rwa [hh,Z3M hh] at this
  obtain⟨au,cu,hu⟩:=pu.len;subst hu;go_upto_region 15 with fail
  clear c0 c1 c2 c3 c4 c5 c6 c7 c8 c9 c10 hs s0' s1' s2' s3' s4' s5';have gl:=Lib.hid (fun w1 (B:Low w59 w1)=>gh w1 (BW.out.trans (B.out.mono BW.out.size)))
  have q0:=Low.fact ((zCn MB B_X0).cell (i:=3) rfl);have y3:=Low.fact ((zCn XB B_X0).cell (i:=3) rfl);have y4:=Low.fact ((zCn XB B_X0).cell (i:=4) rfl);have y5:=Low.fact ((zCn XB B_X0).cell (i:=5) rfl);have xu1:=Low.fact ((BW.out.cell (p:=⟨br,or'+i,none⟩) hbr).trans xu);clear gh xu pu hcr2
  (refine Zh (by kernel_rfl) (by kernel_rfl) ?_;(iterate 14 (apply Zf;(case hw=>rfl);(case hval=>(intro w1 hw1;have hcx:=Low.cells hw1;simp only [Oper.quietAt];go_simp;first | done | (first | (go_at_call 19;exact Low.calls hw1 (gl.out _ hw1))) | rfl | exact⟨rfl,rfl⟩));simp only [Act.put,zq4,zr4,zs4]));refine wpQuiet_nil ?_;intro w2 hw2)
  obtain⟨w60,hLw⟩:∃ x,x=w2:=⟨_,rfl⟩;subst hLw;have b60:Below w59.heap.size w59 w60:=hw2;clear hw2;replace BW:=zAg BW b60;replace B_X0:=zAg B_X0 b60;replace B_w56:=zAg B_w56 b60;replace B_w57:=zAg B_w57 b60;clear b60 gl q0 y3 y4 y5 xu1;go_wp2;go_ret;exact⟨rfl,BW.out⟩
 ·skip
  obtain⟨hany,hon⟩:=Z9z hask;obtain⟨i,rfl,hi,hh⟩:=Z4h hon;have hpl:=Z4x hh;clear hask hon;have hd:=Z2I V.ways hk;have fc:=fun j (hj:j<dep m (k+1)) w1=>Z8i m l k j w1
  have fe:=fun j (hj:j<dep m (k+1))=>(bk_ok V (l:=l) hk hj).1
  have fp:=fun j (hj:j<dep m (k+1)) w1 v1 h=>Z0z v1 (bkP m l k j) ⟨px,py⟩ w1 h
  have fz:=fun j (hj:j<dep m (k+1))=>Z3L (bk_ok V (l:=l) hk hj).2 hpl
  have rb:=fun j (hj:j≤dep m (k+1))=>bk_bd V l hk hj
  have hlt:=fun j (hj:j≤dep m (k+1))=>Z0m V.ways hk hj
  have hgb:=fun i j hi hj=>Z01 V.leg V.ways (i:=i) (j:=j) hi hj
  have hsR:∀ j,bkR m (k+1) (rdB m l (k+1)) (j+1)=bkR m (k+1) (rdB m l (k+1)) j+gLeg m (itB m (k+1) j) (itB m (k+1) (j+1)):=fun _=>rfl
  have hsA:=Z3r m l k ⟨px,py⟩;have hr0:Hid (bkR m (k+1) (rdB m l (k+1)) 0=rdB m l (k+1)):=rfl;have hA0:Hid (anyTo m l k ⟨px,py⟩ 0=false):=rfl;have hAn:Hid (anyTo m l k ⟨px,py⟩ (dep m (k+1))=true):=hany;clear hany;obtain⟨n9,hn9⟩:∃ n,dep m (k+1)=n:=⟨_,rfl⟩;have HC9:Hid (b2<w57.heap.size∧∀ j,j<n9+1→w57.cell? ⟨b2,o2+j,none⟩=some (.int .i64 ((intL (upto (itB m K) (n9+1))).getD j 0))):=by have h:=HC2.out;rw [← hKe,hn9] at h;rw [← hKe];exact h
  have hdn:dep m K=n9:=by rw [← hKe];exact hn9
  have Z2':=Z2.out;simp only [hn9] at *;simp only [hKe] at fc rb hlt hsR hr0 Z2' hd hk;clear Z2 HC2 V hV hn9 hpl Z1;simp only [hdn] at *;replace fc:=Lib.hid fc;replace fe:=Lib.hid fe;replace fp:=Lib.hid fp;replace fz:=Lib.hid fz;replace rb:=Lib.hid rb;replace hlt:=Lib.hid hlt;replace hgb:=Lib.hid hgb;replace hsR:=Lib.hid hsR;replace hsA:=Lib.hid hsA;generalize hrg:rdB m l K=r0 at *;clear hrg;have Z3:=Lib.hid Z2';clear Z2';have hK':(K:Int)<m.ways.length:=by omega
  have hK0:(0:Int)≤K:=by omega
  have z2:=(B_w56.out.cell (p:=⟨bb,ob+K,none⟩) hbb'.out).trans Z3.out;go_wp2;clear z2 c0 c1 c2 c3 c4 c5 c6 c7 c8 c9 c10 hs s0' s1' s2' s3' s4' s5';have MBl:=Lib.hid (zCn MB B_X0);have XBl:=Lib.hid (zCn XB B_X0);have BWl:=Lib.hid BW.out;have BTl:=Lib.hid (Below.refl w57.heap.size w57)
  go_loopw [19,20,21] (fun r f i wr=>∃ j:Nat,j≤n9∧r=.int .i64 (bkR m K r0 j)∧f=.bool (anyTo m l k ⟨px,py⟩ j)∧i=.int .i64 ((j:Int)+1)∧Below w57.heap.size w57 wr) (fun _ _ i _=>n9+1-(intOf i).toNat)
  case atStart=>exact⟨0,Nat.zero_le _,by rw [hr0.out],by rw [hA0.out],rfl,Below.refl _ _⟩
  case round =>
   obtain⟨j,hj,rfl,rfl,rfl,hB⟩:=hrel;obtain⟨wo,hwo⟩:∃ x,x=wr:=⟨_,rfl⟩;subst hwo;have BO:=BWl.out.trans (hB.mono BWl.out.size);have BT9:=BTl.out.trans (hB.mono BTl.out.size);have BB:=Lib.hid (And.intro hB (And.intro BO BT9));clear hB BO BT9;by_cases hjn:j<n9
   ·have h1:=hlt.out j (by omega)
    have h2:=hlt.out (j+1) (by omega)
    have r1:=rb.out j (by omega)
    have r2:=rb.out (j+1) (by omega)
    have y1:=HC9.out.2 j (by omega)
    have y2:=HC9.out.2 (j+1) (by omega)
    rw [Z0I (by omega)] at y1 y2
    replace y1:=(BB.out.2.2.cell (p:=⟨b2,o2+j,none⟩) HC9.out.1).trans y1;replace y2:=(BB.out.2.2.cell (p:=⟨b2,o2+(j+1),none⟩) HC9.out.1).trans y2;obtain⟨x1,x2,-⟩:=HW.out.2 _ h1;obtain⟨x3,x4,-⟩:=HW.out.2 _ h2;have RR:=MBl.out.below BB.out.1 MBl.out.lt;have gl:=Lib.hid (fun w2 (B:Low wo w2)=>flg.out w2 (BB.out.2.1.trans (B.out.mono BB.out.2.1.size)) _ _ h1 h2)
    have gc:=fc.out j hjn;rw [fe.out j hjn] at gc;have gp:=fp.out j hjn;rw [fz.out j hjn] at gp;have s1:Hid _:=hsR.out j;have s2:Hid _:=hsA.out j;have gb:=hgb.out _ _ h1 h2;have d1:decide ((j:Int)+1<(n9:Int)+1)=true:=by rw [decide_eq_true_eq];omega
    have jl:(j:Int)+1<(n9:Int)+1:=by omega
    have jl1:(j:Int)<(n9:Int)+1:=by omega
    have jl0:(0:Int)≤(j:Int)+1:=by omega
    have jl2:(0:Int)≤(j:Int):=by omega
    have jw9:IntKind.i64.wrap (j:Int)=(j:Int):=zW2;obtain⟨ra,hra⟩:∃ x,bkR m K r0 j=x:=⟨_,rfl⟩;obtain⟨rc,hrc⟩:∃ x,bkR m K r0 (j+1)=x:=⟨_,rfl⟩;obtain⟨f0,hf0⟩:∃ x,anyTo m l k ⟨px,py⟩ j=x:=⟨_,rfl⟩;obtain⟨pp1,hp1⟩:∃ x,itB m K j=x:=⟨_,rfl⟩;obtain⟨pp2,hp2⟩:∃ x,itB m K (j+1)=x:=⟨_,rfl⟩;simp only [hra,hrc,hf0,hp1,hp2] at r1 r2 gc gl s1 s2 y1 y2 x1 x2 x3 x4 gb h1 h2 ⊢;generalize hasB (bkP m l k j) ⟨px,py⟩=f1 at *;generalize bkP m l k j=bp at *;generalize (wy m.ways pp1).x=ax at *;generalize (wy m.ways pp1).y=ay at *;generalize (wy m.ways pp2).x=qx at *;generalize (wy m.ways pp2).y=qy at *;generalize gLeg m pp1 pp2=gg at *;generalize dLeg m pp1 pp2=dd at *;generalize tLeg m pp1 pp2=tt at *;have rw1:IntKind.i64.wrap (ra+gg)=rc:=by rw [← s1.out];exact zW2
    have h1':(pp1:Int)<m.ways.length:=by omega
    have h2':(pp2:Int)<m.ways.length:=by omega
    have h10:(0:Int)≤pp1:=by omega
    have h20:(0:Int)≤pp2:=by omega
    have hs12:=Lib.hid (And.intro s1.out (And.intro s2.out (And.intro hrc hf0)));replace gc:=Lib.hid gc;replace gp:=Lib.hid gp;replace x1:=(BB.out.2.1.cell (p:=⟨bw,ow+pp1*5,none⟩) HW.out.1).trans x1;replace x2:=(BB.out.2.1.cell (p:=⟨bw,ow+pp1*5+1,none⟩) HW.out.1).trans x2;replace x3:=(BB.out.2.1.cell (p:=⟨bw,ow+pp2*5,none⟩) HW.out.1).trans x3;replace x4:=(BB.out.2.1.cell (p:=⟨bw,ow+pp2*5+1,none⟩) HW.out.1).trans x4;have z1:=Low.fact y1;have z2:=Low.fact y2;have XF:=Lib.hid (And.intro x1 (And.intro x2 (And.intro x3 (And.intro x4 (And.intro y1 y2)))));clear s1 s2 y1 y2 x1 x2 x3 x4 r1 r2 gb hra hrc hf0 hp1 hp2;go_wp2;have q0:=Low.fact (RR.cell (i:=0) rfl);have q1:=Low.fact (RR.cell (i:=1) rfl);have q2:=Low.fact (RR.cell (i:=2) rfl);have q3:=Low.fact (RR.cell (i:=3) rfl);have q4:=Low.fact (RR.cell (i:=4) rfl);have q5:=Low.fact (RR.cell (i:=5) rfl);have q6:=Low.fact (RR.cell (i:=6) rfl);have q7:=Low.fact (RR.cell (i:=7) rfl);have q8:=Low.fact (RR.cell (i:=8) rfl);have q9:=Low.fact (RR.cell (i:=9) rfl);have q10:=Low.fact (RR.cell (i:=10) rfl)
    (refine Zh (by kernel_rfl) (by kernel_rfl) ?_;(iterate 20 (apply Zf;(case hw=>rfl);(case hval=>(intro w1 hw1;have hcx:=Low.cells hw1;simp only [Oper.quietAt];go_simp;first | done | (first | (go_at_call 20;exact Low.calls hw1 (gl.out _ hw1))) | rfl | exact⟨rfl,rfl⟩));simp only [Act.put,zq4,zr4,zs4]));refine wpQuiet_nil ?_;intro w2 hw2)
    obtain⟨wa,hwa⟩:∃ x,x=w2:=⟨_,rfl⟩;subst hwa;have hw:Below wo.heap.size wo wa:=hw2;clear hw2 gl z1 z2 q0 q1 q2 q3 q4 q5 q6 q7 q8 q9 q10;obtain⟨x1,x2,x3,x4,y1,y2⟩:=XF.out;have HM:=RR.below hw RR.lt;have m0:wa.cell? ⟨w.heap.size,0,none⟩=some (.slice (some ⟨bw,ow,none⟩) m.ways.length (m.ways.length+c1)):=HM.cell (i:=0) rfl;have HXB:=Lib.hid ((XBl.out.below BB.out.1 XBl.out.lt).below hw (XBl.out.below BB.out.1 XBl.out.lt).lt);replace x1:=(hw.cell (World.block_lt_of_cell? _ _ x1)).trans x1;replace x2:=(hw.cell (World.block_lt_of_cell? _ _ x2)).trans x2;replace x3:=(hw.cell (World.block_lt_of_cell? _ _ x3)).trans x3;replace x4:=(hw.cell (World.block_lt_of_cell? _ _ x4)).trans x4;replace y1:=(hw.cell (World.block_lt_of_cell? _ _ y1)).trans y1;replace y2:=(hw.cell (World.block_lt_of_cell? _ _ y2)).trans y2;have BA:=Lib.hid (BB.out.1.trans (hw.mono BB.out.1.size));have BZ:=Lib.hid (Below.refl wa.heap.size wa);clear hw RR HM;go_wp2;refine (wpIn_wide (n:=9)).1 ?_;refine Zg (Zj _) 28 (fun X=>Below wa.heap.size wa X) (by kernel_rfl) (by kernel_rfl) (by kernel_rfl) fun hH inv0=>?_
    have hD:=Below.drew (Below.refl wa.heap.size wa);generalize hXXd:wa.drew=Xd at *;clear hXXd;have BZ:=Lib.hid hD;clear hD;refine sk hH (i:=0) (v:=.pointer (some ⟨w.heap.size,0,none⟩)) (Zd rfl) inv0 (fun X hX=>?_) fun inv1=>?_
    ·go_simp
    simp only [Act.put,zq4,zr4,zs4];clear inv0;refine sk hH (i:=1) (v:=.slice (some ⟨bw,ow,none⟩) m.ways.length (m.ways.length+c1)) (Zd rfl) inv1 (fun X hX=>?_) fun inv2=>?_
    ·have r0:=(hX.cell (p:=⟨w.heap.size,0,none⟩) (World.block_lt_of_cell? _ _ m0)).trans m0;go_simp
    simp only [Act.put,zq4,zr4,zs4];clear inv1;refine sk hH (i:=2) (v:=.slice (some ⟨b2,o2,none⟩) (n9+1) (n9+1+cap4)) (Zd rfl) inv2 (fun X hX=>?_) fun inv3=>?_
    ·go_simp
    simp only [Act.put,zq4,zr4,zs4];clear inv2;refine sk hH (i:=3) (v:=.int .i64 ((j:Int)+1)) (Zd rfl) inv3 (fun X hX=>?_) fun inv4=>?_
    ·go_simp
    simp only [Act.put,zq4,zr4,zs4];clear inv3;refine sk hH (i:=4) (v:=.int .i64 (j:Int)) (Zd rfl) inv4 (fun X hX=>?_) fun inv5=>?_
    ·go_simp
    simp only [Act.put,zq4,zr4,zs4];clear inv4;refine sk hH (i:=5) (v:=.pointer (some ⟨b2,o2+j,none⟩)) (Zd rfl) inv5 (fun X hX=>?_) fun inv6=>?_
    ·go_simp
    simp only [Act.put,zq4,zr4,zs4];clear inv5;refine sk hH (i:=6) (v:=.int .i64 (pp1:Int)) (Zd rfl) inv6 (fun X hX=>?_) fun inv7=>?_
    ·have r0:=(hX.cell (p:=⟨b2,o2+j,none⟩) (World.block_lt_of_cell? _ _ y1)).trans y1;go_simp
    simp only [Act.put,zq4,zr4,zs4];clear inv6;refine sk hH (i:=7) (v:=.pointer (some ⟨bw,ow+pp1*5,none⟩)) (Zd rfl) inv7 (fun X hX=>?_) fun inv8=>?_
    ·go_simp
    simp only [Act.put,zq4,zr4,zs4];clear inv7;refine sk hH (i:=8) (v:=.pointer (some ⟨bw,ow+pp1*5,none⟩)) (Zd rfl) inv8 (fun X hX=>?_) fun inv9=>?_
    ·go_simp
    simp only [Act.put,zq4,zr4,zs4];clear inv8;refine sk hH (i:=9) (v:=.agg #[.int .i64 ax,.int .i64 ay]) (Zd rfl) inv9 (fun X hX=>?_) fun inv10=>?_
    ·have r0:=(hX.cell (p:=⟨bw,ow+pp1*5,none⟩) (World.block_lt_of_cell? _ _ x1)).trans x1;have r1:=(hX.cell (p:=⟨bw,ow+pp1*5+1,none⟩) (World.block_lt_of_cell? _ _ x2)).trans x2;go_simp
    simp only [Act.put,zq4,zr4,zs4];clear inv9;refine sk hH (i:=10) (v:=.int .i64 ra) (Zd rfl) inv10 (fun X hX=>?_) fun inv11=>?_
    ·go_simp
    simp only [Act.put,zq4,zr4,zs4];clear inv10;refine sk hH (i:=11) (v:=.pointer (some ⟨w.heap.size,0,none⟩)) (Zd rfl) inv11 (fun X hX=>?_) fun inv12=>?_
    ·go_simp
    simp only [Act.put,zq4,zr4,zs4];clear inv11;refine sk hH (i:=12) (v:=.slice (some ⟨bw,ow,none⟩) m.ways.length (m.ways.length+c1)) (Zd rfl) inv12 (fun X hX=>?_) fun inv13=>?_
    ·have r0:=(hX.cell (p:=⟨w.heap.size,0,none⟩) (World.block_lt_of_cell? _ _ m0)).trans m0;go_simp
    simp only [Act.put,zq4,zr4,zs4];clear inv12;refine sk hH (i:=13) (v:=.slice (some ⟨b2,o2,none⟩) (n9+1) (n9+1+cap4)) (Zd rfl) inv13 (fun X hX=>?_) fun inv14=>?_
    ·go_simp
    simp only [Act.put,zq4,zr4,zs4];clear inv13;refine sk hH (i:=14) (v:=.int .i64 ((j:Int)+1)) (Zd rfl) inv14 (fun X hX=>?_) fun inv15=>?_
    ·go_simp
    simp only [Act.put,zq4,zr4,zs4];clear inv14;refine sk hH (i:=15) (v:=.pointer (some ⟨b2,o2+(j+1),none⟩)) (Zd rfl) inv15 (fun X hX=>?_) fun inv16=>?_
    ·go_simp
    simp only [Act.put,zq4,zr4,zs4];clear inv15;refine sk hH (i:=16) (v:=.int .i64 (pp2:Int)) (Zd rfl) inv16 (fun X hX=>?_) fun inv17=>?_
    ·have r0:=(hX.cell (p:=⟨b2,o2+(j+1),none⟩) (World.block_lt_of_cell? _ _ y2)).trans y2;go_simp
    simp only [Act.put,zq4,zr4,zs4];clear inv16;refine sk hH (i:=17) (v:=.pointer (some ⟨bw,ow+pp2*5,none⟩)) (Zd rfl) inv17 (fun X hX=>?_) fun inv18=>?_
    ·go_simp
    simp only [Act.put,zq4,zr4,zs4];clear inv17;refine sk hH (i:=18) (v:=.pointer (some ⟨bw,ow+pp2*5,none⟩)) (Zd rfl) inv18 (fun X hX=>?_) fun inv19=>?_
    ·go_simp
    simp only [Act.put,zq4,zr4,zs4];clear inv18;refine sk hH (i:=19) (v:=.agg #[.int .i64 qx,.int .i64 qy]) (Zd rfl) inv19 (fun X hX=>?_) fun inv20=>?_
    ·have r0:=(hX.cell (p:=⟨bw,ow+pp2*5,none⟩) (World.block_lt_of_cell? _ _ x3)).trans x3;have r1:=(hX.cell (p:=⟨bw,ow+pp2*5+1,none⟩) (World.block_lt_of_cell? _ _ x4)).trans x4;go_simp
    simp only [Act.put,zq4,zr4,zs4];clear inv19;refine sk hH (i:=20) (v:=.int .i64 ra) (Zd rfl) inv20 (fun X hX=>?_) fun inv21=>?_
    ·go_simp
    simp only [Act.put,zq4,zr4,zs4];clear inv20;refine sk hH (i:=21) (v:=.int .i64 gg) (Zd rfl) inv21 (fun X hX=>?_) fun inv22=>?_
    ·go_simp
    simp only [Act.put,zq4,zr4,zs4];clear inv21;refine sk hH (i:=22) (v:=.int .i64 rc) (Zd rfl) inv22 (fun X hX=>?_) fun inv23=>?_
    ·go_simp
    simp only [Act.put,zq4,zr4,zs4];clear inv22;have inv24:=HeadInv.put2 inv23 (j:=23) (by kernel_rfl) (by omega)
    clear inv23;refine sa1 (r:=23) BZ.out ?_;refine Zp (Zd rfl) rfl (f:=18) (args:=#[.agg #[.int .i64 ax,.int .i64 ay],.int .i64 ra,.agg #[.int .i64 qx,.int .i64 qy],.int .i64 rc]) (by go_simp) (gc.out Xd) ?_
    rintro e w61 ⟨v1,rfl,p1,b61⟩;refine⟨_,rfl,?_⟩;simp only [Act.put,zq4,zr4,zs4];replace BZ:=zAg BZ b61;clear b61;have P1:=Lib.hid p1;clear p1;refine sk hH (i:=24) (v:=.tuple #[v1,.int .i64 0]) (Zd rfl) inv24 (fun X hX=>?_) fun inv25=>?_
    ·go_simp
    simp only [Act.put,zq4,zr4,zs4];clear inv24;refine sk hH (i:=25) (v:=v1) (Zd rfl) inv25 (fun X hX=>?_) fun inv26=>?_
    ·go_simp
    simp only [Act.put,zq4,zr4,zs4];clear inv25;refine sk hH (i:=26) (v:=.int .i64 0) (Zd rfl) inv26 (fun X hX=>?_) fun inv27=>?_
    ·go_simp
    simp only [Act.put,zq4,zr4,zs4];clear inv26;refine sk hH (i:=27) (v:=v1) (Zd rfl) inv27 (fun X hX=>?_) fun inv28=>?_
    ·go_simp
    simp only [Act.put,zq4,zr4,zs4];clear inv27 inv28 hH;refine Zm (by kernel_rfl) BZ.out ?_
    simp only [List.drop_succ_cons,List.drop_zero];obtain⟨g1,d2,hv1⟩:=P1.out.len;subst hv1;clear x1 x2 x3 x4 y1 y2 m0;gi_wp2;have t4:=(zCn HXB BZ).cell (i:=4) rfl;have t5:=(zCn HXB BZ).cell (i:=5) rfl;go_wp2_with fail;refine (gp.out w61 _ P1.out).mono ?_;rintro e w62 ⟨rfl,b62⟩;replace BZ:=zAg BZ b62;have B_w61:=Lib.hid b62;clear b62 t4 t5;have BF:=Lib.hid (BA.out.trans (BZ.out.mono BA.out.size));cases f0 <;> cases f1
    all_goals
     go_wp2;go_roundw
     case rel=>exact⟨j+1,by omega,by rw [hs12.out.2.2.1],by rw [hs12.out.2.1];rfl,by go_num,BF.out⟩
     case measure=>simp [intOf];omega
   ·obtain rfl:j=n9:=by omega
    have d1:decide ((j:Int)+1<(j:Int)+1)=false:=by simp
    replace BW:=Lib.hid BB.out.2.1;have MB9:=Lib.hid (MBl.out.below BB.out.1 MBl.out.lt);have XB9:=Lib.hid (XBl.out.below BB.out.1 XBl.out.lt);clear BB MBl XBl BWl BTl MB XB;have MB:=MB9;have XB:=XB9;clear MB9 XB9;have y2:=XB.out.cell (i:=2) rfl;rw [hAn.out];go_upto_region 31 with fail
    clear y2;have hiN:(i:Int)<(m.rocks.length:Int):=by omega
    have hi0:(0:Int)≤(i:Int):=by omega
    obtain⟨-,aR,cR,eR,hcr⟩:=hrd.out;obtain⟨br,or',eA,hbr,hcr2⟩:=hcr.resolve_left (by intro h;rw [h] at hi;simp at hi)
    clear hcr;simp only [Value.slice.injEq] at eR;obtain⟨eR,-,-⟩:=eR;subst eR;subst eA;obtain⟨u,xu,pu⟩:=hcr2 i hi;have gh:∀ w1,Below w.heap.size w w1→Calls Tryz.prog 19 #[u,.agg #[.int .i64 px,.int .i64 py]] w1 fun e w'=>e=.returned (.tuple #[.bool true,.int .i64 0])∧Below w1.heap.size w1 w':=fun w1 B=>by
     have:=Z0z u (rk m.rocks i) ⟨px,py⟩ w1 ((pu.below B).mono B.size)
     rwa [hh,Z3M hh] at this
    obtain⟨au,cu,hu⟩:=pu.len;subst hu;go_upto_region 31 with fail
    have gl:=Lib.hid (fun w1 (B:Low wo w1)=>gh w1 (BW.out.trans (B.out.mono BW.out.size)))
    have q0:=Low.fact (MB.out.cell (i:=3) rfl);have y3:=Low.fact (XB.out.cell (i:=3) rfl);have y4:=Low.fact (XB.out.cell (i:=4) rfl);have y5:=Low.fact (XB.out.cell (i:=5) rfl);have xu1:=Low.fact ((BW.out.cell (p:=⟨br,or'+i,none⟩) hbr).trans xu);clear gh xu pu hcr2
    (refine Zh (by kernel_rfl) (by kernel_rfl) ?_;(iterate 14 (apply Zf;(case hw=>rfl);(case hval=>(intro w1 hw1;have hcx:=Low.cells hw1;simp only [Oper.quietAt];go_simp;first | done | (first | (go_at_call 19;exact Low.calls hw1 (gl.out _ hw1))) | rfl | exact⟨rfl,rfl⟩));simp only [Act.put,zq4,zr4,zs4]));refine wpQuiet_nil ?_;intro w2 hw2)
    obtain⟨w63,hLw⟩:∃ x,x=w2:=⟨_,rfl⟩;subst hLw;have b63:Below wo.heap.size wo w63:=hw2;clear hw2;replace BW:=zAg BW b63;have B_wo:=Lib.hid b63;clear b63 gl q0 y3 y4 y5 xu1;go_wp2;go_ret;exact⟨rfl,BW.out⟩
 ·skip
  obtain⟨rfl,hmh,hho⟩:=Z9y hask;have hpl:=Z4x hmh;have hdr:=bk_bd V l hk (Nat.le_refl (dep m (k+1)));obtain⟨hd1,hd2,-⟩:=Z7w V hdr;have hvm:=Z9b V (l:=l) hk;have fh1:=fun w1 v1 h=>Z0z v1 (hmP m l k) ⟨px,py⟩ w1 h
  rw [hmh,Z3M hmh] at fh1;have fh2:=fun w1 (B:Below w.heap.size w w1)=>Z0z _ m.home ⟨px,py⟩ w1 (fm.out w1 B).2.1
  rw [hho,Z3L V.home hpl] at fh2;have fs1:=fun w1=>Z2x (hmR m l k) w1
  have fs2:=fun v w1 h=>Z0s v (dskL (hmR m l k)) ⟨(wy m.ways 0).x,(wy m.ways 0).y⟩ w1 h
  have hd1':dskE (hmR m l k)=0:=hd1;have hd2':shE (dskL (hmR m l k)) ⟨(wy m.ways 0).x,(wy m.ways 0).y⟩=0:=hd2;rw [hd1'] at fs1;rw [hd2'] at fs2
  try simp only at fs2
  have fs2':∀ v w1,Z8 w1.heap.size w1 v (dskL (hmR m l k))→Calls Tryz.prog 22 #[v,.agg #[.int .i64 (wy m.ways 0).x,.int .i64 (wy m.ways 0).y]] w1 fun e w'=>∃ r,e=.returned (.tuple #[r,.int .i64 0])∧Z8 w'.heap.size w' r (hmP m l k)∧Below w1.heap.size w1 w':=fs2
  clear hask hdr hd1 hd2 hd1' hd2' hmh hho hvm fs2;obtain⟨u1,u2,-⟩:=HW.out.2 0 h0;rw [Nat.zero_mul,Nat.add_zero] at u1 u2;generalize hmP m l k=hp at *;have hrr:Hid (hmR m l k=bkR m (k+1) (rdB m l (k+1)) (dep m (k+1))):=rfl;obtain⟨hr9,hhr⟩:∃ r,hmR m l k=r:=⟨_,rfl⟩;rw [hhr] at hrr fs1 fs2';clear hhr;generalize dskL hr9=dl at *;generalize (wy m.ways 0).x=qx0 at *;generalize (wy m.ways 0).y=qy0 at *;replace fh1:=Lib.hid fh1;replace fh2:=Lib.hid fh2;replace fs1:=Lib.hid fs1;replace fs2':=Lib.hid fs2';have U:=Lib.hid (And.intro u1 u2);clear u1 u2;have h0':(0:Int)<m.ways.length:=by omega
  have hd:=Z2I V.ways hk;have fc:=fun j (hj:j<dep m (k+1)) w1=>Z8i m l k j w1
  have fe:=fun j (hj:j<dep m (k+1))=>(bk_ok V (l:=l) hk hj).1
  have fp:=fun j (hj:j<dep m (k+1)) w1 v1 h=>Z0z v1 (bkP m l k j) ⟨px,py⟩ w1 h
  have fz:=fun j (hj:j<dep m (k+1))=>Z3L (bk_ok V (l:=l) hk hj).2 hpl
  have rb:=fun j (hj:j≤dep m (k+1))=>bk_bd V l hk hj
  have hlt:=fun j (hj:j≤dep m (k+1))=>Z0m V.ways hk hj
  have hgb:=fun i j hi hj=>Z01 V.leg V.ways (i:=i) (j:=j) hi hj
  have hsR:∀ j,bkR m (k+1) (rdB m l (k+1)) (j+1)=bkR m (k+1) (rdB m l (k+1)) j+gLeg m (itB m (k+1) j) (itB m (k+1) (j+1)):=fun _=>rfl
  have hsA:=Z3r m l k ⟨px,py⟩;have hr0:Hid (bkR m (k+1) (rdB m l (k+1)) 0=rdB m l (k+1)):=rfl;have hA0:Hid (anyTo m l k ⟨px,py⟩ 0=false):=rfl;obtain⟨n9,hn9⟩:∃ n,dep m (k+1)=n:=⟨_,rfl⟩;have HC9:Hid (b2<w57.heap.size∧∀ j,j<n9+1→w57.cell? ⟨b2,o2+j,none⟩=some (.int .i64 ((intL (upto (itB m K) (n9+1))).getD j 0))):=by have h:=HC2.out;rw [← hKe,hn9] at h;rw [← hKe];exact h
  have hdn:dep m K=n9:=by rw [← hKe];exact hn9
  have Z2':=Z2.out;simp only [hn9] at *;simp only [hKe] at fc rb hlt hsR hr0 Z2' hd hk hrr;clear Z2 HC2 V hV hn9 hpl Z1;simp only [hdn] at *;replace fc:=Lib.hid fc;replace fe:=Lib.hid fe;replace fp:=Lib.hid fp;replace fz:=Lib.hid fz;replace rb:=Lib.hid rb;replace hlt:=Lib.hid hlt;replace hgb:=Lib.hid hgb;replace hsR:=Lib.hid hsR;replace hsA:=Lib.hid hsA;generalize hrg:rdB m l K=r0 at *;clear hrg;have Z3:=Lib.hid Z2';clear Z2';have hK':(K:Int)<m.ways.length:=by omega
  have hK0:(0:Int)≤K:=by omega
  have z2:=(B_w56.out.cell (p:=⟨bb,ob+K,none⟩) hbb'.out).trans Z3.out;go_wp2;clear z2 c0 c1 c2 c3 c4 c5 c6 c7 c8 c9 c10 hs s0' s1' s2' s3' s4' s5';have MBl:=Lib.hid (zCn MB B_X0);have XBl:=Lib.hid (zCn XB B_X0);have BWl:=Lib.hid BW.out;have BTl:=Lib.hid (Below.refl w57.heap.size w57)
  go_loopw [19,20,21] (fun r f i wr=>∃ j:Nat,j≤n9∧r=.int .i64 (bkR m K r0 j)∧f=.bool (anyTo m l k ⟨px,py⟩ j)∧i=.int .i64 ((j:Int)+1)∧Below w57.heap.size w57 wr) (fun _ _ i _=>n9+1-(intOf i).toNat)
  case atStart=>exact⟨0,Nat.zero_le _,by rw [hr0.out],by rw [hA0.out],rfl,Below.refl _ _⟩
  case round =>
   obtain⟨j,hj,rfl,rfl,rfl,hB⟩:=hrel;obtain⟨wo,hwo⟩:∃ x,x=wr:=⟨_,rfl⟩;subst hwo;have BO:=BWl.out.trans (hB.mono BWl.out.size);have BT9:=BTl.out.trans (hB.mono BTl.out.size);have BB:=Lib.hid (And.intro hB (And.intro BO BT9));clear hB BO BT9;by_cases hjn:j<n9
   ·have h1:=hlt.out j (by omega)
    have h2:=hlt.out (j+1) (by omega)
    have r1:=rb.out j (by omega)
    have r2:=rb.out (j+1) (by omega)
    have y1:=HC9.out.2 j (by omega)
    have y2:=HC9.out.2 (j+1) (by omega)
    rw [Z0I (by omega)] at y1 y2
    replace y1:=(BB.out.2.2.cell (p:=⟨b2,o2+j,none⟩) HC9.out.1).trans y1;replace y2:=(BB.out.2.2.cell (p:=⟨b2,o2+(j+1),none⟩) HC9.out.1).trans y2;obtain⟨x1,x2,-⟩:=HW.out.2 _ h1;obtain⟨x3,x4,-⟩:=HW.out.2 _ h2;have RR:=MBl.out.below BB.out.1 MBl.out.lt;have gl:=Lib.hid (fun w2 (B:Low wo w2)=>flg.out w2 (BB.out.2.1.trans (B.out.mono BB.out.2.1.size)) _ _ h1 h2)
    have gc:=fc.out j hjn;rw [fe.out j hjn] at gc;have gp:=fp.out j hjn;rw [fz.out j hjn] at gp;have s1:Hid _:=hsR.out j;have s2:Hid _:=hsA.out j;have gb:=hgb.out _ _ h1 h2;have d1:decide ((j:Int)+1<(n9:Int)+1)=true:=by rw [decide_eq_true_eq];omega
    have jl:(j:Int)+1<(n9:Int)+1:=by omega
    have jl1:(j:Int)<(n9:Int)+1:=by omega
    have jl0:(0:Int)≤(j:Int)+1:=by omega
    have jl2:(0:Int)≤(j:Int):=by omega
    have jw9:IntKind.i64.wrap (j:Int)=(j:Int):=zW2;obtain⟨ra,hra⟩:∃ x,bkR m K r0 j=x:=⟨_,rfl⟩;obtain⟨rc,hrc⟩:∃ x,bkR m K r0 (j+1)=x:=⟨_,rfl⟩;obtain⟨f0,hf0⟩:∃ x,anyTo m l k ⟨px,py⟩ j=x:=⟨_,rfl⟩;obtain⟨pp1,hp1⟩:∃ x,itB m K j=x:=⟨_,rfl⟩;obtain⟨pp2,hp2⟩:∃ x,itB m K (j+1)=x:=⟨_,rfl⟩;simp only [hra,hrc,hf0,hp1,hp2] at r1 r2 gc gl s1 s2 y1 y2 x1 x2 x3 x4 gb h1 h2 ⊢;generalize hasB (bkP m l k j) ⟨px,py⟩=f1 at *;generalize bkP m l k j=bp at *;generalize (wy m.ways pp1).x=ax at *;generalize (wy m.ways pp1).y=ay at *;generalize (wy m.ways pp2).x=qx at *;generalize (wy m.ways pp2).y=qy at *;generalize gLeg m pp1 pp2=gg at *;generalize dLeg m pp1 pp2=dd at *;generalize tLeg m pp1 pp2=tt at *;have rw1:IntKind.i64.wrap (ra+gg)=rc:=by rw [← s1.out];exact zW2
    have h1':(pp1:Int)<m.ways.length:=by omega
    have h2':(pp2:Int)<m.ways.length:=by omega
    have h10:(0:Int)≤pp1:=by omega
    have h20:(0:Int)≤pp2:=by omega
    have hs12:=Lib.hid (And.intro s1.out (And.intro s2.out (And.intro hrc hf0)));replace gc:=Lib.hid gc;replace gp:=Lib.hid gp;replace x1:=(BB.out.2.1.cell (p:=⟨bw,ow+pp1*5,none⟩) HW.out.1).trans x1;replace x2:=(BB.out.2.1.cell (p:=⟨bw,ow+pp1*5+1,none⟩) HW.out.1).trans x2;replace x3:=(BB.out.2.1.cell (p:=⟨bw,ow+pp2*5,none⟩) HW.out.1).trans x3;replace x4:=(BB.out.2.1.cell (p:=⟨bw,ow+pp2*5+1,none⟩) HW.out.1).trans x4;have z1:=Low.fact y1;have z2:=Low.fact y2;have XF:=Lib.hid (And.intro x1 (And.intro x2 (And.intro x3 (And.intro x4 (And.intro y1 y2)))));clear s1 s2 y1 y2 x1 x2 x3 x4 r1 r2 gb hra hrc hf0 hp1 hp2;go_wp2;have q0:=Low.fact (RR.cell (i:=0) rfl);have q1:=Low.fact (RR.cell (i:=1) rfl);have q2:=Low.fact (RR.cell (i:=2) rfl);have q3:=Low.fact (RR.cell (i:=3) rfl);have q4:=Low.fact (RR.cell (i:=4) rfl);have q5:=Low.fact (RR.cell (i:=5) rfl);have q6:=Low.fact (RR.cell (i:=6) rfl);have q7:=Low.fact (RR.cell (i:=7) rfl);have q8:=Low.fact (RR.cell (i:=8) rfl);have q9:=Low.fact (RR.cell (i:=9) rfl);have q10:=Low.fact (RR.cell (i:=10) rfl)
    (refine Zh (by kernel_rfl) (by kernel_rfl) ?_;(iterate 20 (apply Zf;(case hw=>rfl);(case hval=>(intro w1 hw1;have hcx:=Low.cells hw1;simp only [Oper.quietAt];go_simp;first | done | (first | (go_at_call 20;exact Low.calls hw1 (gl.out _ hw1))) | rfl | exact⟨rfl,rfl⟩));simp only [Act.put,zq4,zr4,zs4]));refine wpQuiet_nil ?_;intro w2 hw2)
    obtain⟨wa,hwa⟩:∃ x,x=w2:=⟨_,rfl⟩;subst hwa;have hw:Below wo.heap.size wo wa:=hw2;clear hw2 gl z1 z2 q0 q1 q2 q3 q4 q5 q6 q7 q8 q9 q10;obtain⟨x1,x2,x3,x4,y1,y2⟩:=XF.out;have HM:=RR.below hw RR.lt;have m0:wa.cell? ⟨w.heap.size,0,none⟩=some (.slice (some ⟨bw,ow,none⟩) m.ways.length (m.ways.length+c1)):=HM.cell (i:=0) rfl;have HXB:=Lib.hid ((XBl.out.below BB.out.1 XBl.out.lt).below hw (XBl.out.below BB.out.1 XBl.out.lt).lt);replace x1:=(hw.cell (World.block_lt_of_cell? _ _ x1)).trans x1;replace x2:=(hw.cell (World.block_lt_of_cell? _ _ x2)).trans x2;replace x3:=(hw.cell (World.block_lt_of_cell? _ _ x3)).trans x3;replace x4:=(hw.cell (World.block_lt_of_cell? _ _ x4)).trans x4;replace y1:=(hw.cell (World.block_lt_of_cell? _ _ y1)).trans y1;replace y2:=(hw.cell (World.block_lt_of_cell? _ _ y2)).trans y2;have BA:=Lib.hid (BB.out.1.trans (hw.mono BB.out.1.size));have BZ:=Lib.hid (Below.refl wa.heap.size wa);clear hw RR HM;go_wp2;refine (wpIn_wide (n:=9)).1 ?_;refine Zg (Zj _) 28 (fun X=>Below wa.heap.size wa X) (by kernel_rfl) (by kernel_rfl) (by kernel_rfl) fun hH inv0=>?_
    have hD:=Below.drew (Below.refl wa.heap.size wa);generalize hXXd:wa.drew=Xd at *;clear hXXd;have BZ:=Lib.hid hD;clear hD;refine sk hH (i:=0) (v:=.pointer (some ⟨w.heap.size,0,none⟩)) (Zd rfl) inv0 (fun X hX=>?_) fun inv1=>?_
    ·go_simp
    simp only [Act.put,zq4,zr4,zs4];clear inv0;refine sk hH (i:=1) (v:=.slice (some ⟨bw,ow,none⟩) m.ways.length (m.ways.length+c1)) (Zd rfl) inv1 (fun X hX=>?_) fun inv2=>?_
    ·have r0:=(hX.cell (p:=⟨w.heap.size,0,none⟩) (World.block_lt_of_cell? _ _ m0)).trans m0;go_simp
    simp only [Act.put,zq4,zr4,zs4];clear inv1;refine sk hH (i:=2) (v:=.slice (some ⟨b2,o2,none⟩) (n9+1) (n9+1+cap4)) (Zd rfl) inv2 (fun X hX=>?_) fun inv3=>?_
    ·go_simp
    simp only [Act.put,zq4,zr4,zs4];clear inv2;refine sk hH (i:=3) (v:=.int .i64 ((j:Int)+1)) (Zd rfl) inv3 (fun X hX=>?_) fun inv4=>?_
    ·go_simp
    simp only [Act.put,zq4,zr4,zs4];clear inv3;refine sk hH (i:=4) (v:=.int .i64 (j:Int)) (Zd rfl) inv4 (fun X hX=>?_) fun inv5=>?_
    ·go_simp
    simp only [Act.put,zq4,zr4,zs4];clear inv4;refine sk hH (i:=5) (v:=.pointer (some ⟨b2,o2+j,none⟩)) (Zd rfl) inv5 (fun X hX=>?_) fun inv6=>?_
    ·go_simp
    simp only [Act.put,zq4,zr4,zs4];clear inv5;refine sk hH (i:=6) (v:=.int .i64 (pp1:Int)) (Zd rfl) inv6 (fun X hX=>?_) fun inv7=>?_
    ·have r0:=(hX.cell (p:=⟨b2,o2+j,none⟩) (World.block_lt_of_cell? _ _ y1)).trans y1;go_simp
    simp only [Act.put,zq4,zr4,zs4];clear inv6;refine sk hH (i:=7) (v:=.pointer (some ⟨bw,ow+pp1*5,none⟩)) (Zd rfl) inv7 (fun X hX=>?_) fun inv8=>?_
    ·go_simp
    simp only [Act.put,zq4,zr4,zs4];clear inv7;refine sk hH (i:=8) (v:=.pointer (some ⟨bw,ow+pp1*5,none⟩)) (Zd rfl) inv8 (fun X hX=>?_) fun inv9=>?_
    ·go_simp
    simp only [Act.put,zq4,zr4,zs4];clear inv8;refine sk hH (i:=9) (v:=.agg #[.int .i64 ax,.int .i64 ay]) (Zd rfl) inv9 (fun X hX=>?_) fun inv10=>?_
    ·have r0:=(hX.cell (p:=⟨bw,ow+pp1*5,none⟩) (World.block_lt_of_cell? _ _ x1)).trans x1;have r1:=(hX.cell (p:=⟨bw,ow+pp1*5+1,none⟩) (World.block_lt_of_cell? _ _ x2)).trans x2;go_simp
    simp only [Act.put,zq4,zr4,zs4];clear inv9;refine sk hH (i:=10) (v:=.int .i64 ra) (Zd rfl) inv10 (fun X hX=>?_) fun inv11=>?_
    ·go_simp
    simp only [Act.put,zq4,zr4,zs4];clear inv10;refine sk hH (i:=11) (v:=.pointer (some ⟨w.heap.size,0,none⟩)) (Zd rfl) inv11 (fun X hX=>?_) fun inv12=>?_
    ·go_simp
    simp only [Act.put,zq4,zr4,zs4];clear inv11;refine sk hH (i:=12) (v:=.slice (some ⟨bw,ow,none⟩) m.ways.length (m.ways.length+c1)) (Zd rfl) inv12 (fun X hX=>?_) fun inv13=>?_
    ·have r0:=(hX.cell (p:=⟨w.heap.size,0,none⟩) (World.block_lt_of_cell? _ _ m0)).trans m0;go_simp
    simp only [Act.put,zq4,zr4,zs4];clear inv12;refine sk hH (i:=13) (v:=.slice (some ⟨b2,o2,none⟩) (n9+1) (n9+1+cap4)) (Zd rfl) inv13 (fun X hX=>?_) fun inv14=>?_
    ·go_simp
    simp only [Act.put,zq4,zr4,zs4];clear inv13;refine sk hH (i:=14) (v:=.int .i64 ((j:Int)+1)) (Zd rfl) inv14 (fun X hX=>?_) fun inv15=>?_
    ·go_simp
    simp only [Act.put,zq4,zr4,zs4];clear inv14;refine sk hH (i:=15) (v:=.pointer (some ⟨b2,o2+(j+1),none⟩)) (Zd rfl) inv15 (fun X hX=>?_) fun inv16=>?_
    ·go_simp
    simp only [Act.put,zq4,zr4,zs4];clear inv15;refine sk hH (i:=16) (v:=.int .i64 (pp2:Int)) (Zd rfl) inv16 (fun X hX=>?_) fun inv17=>?_
    ·have r0:=(hX.cell (p:=⟨b2,o2+(j+1),none⟩) (World.block_lt_of_cell? _ _ y2)).trans y2;go_simp
    simp only [Act.put,zq4,zr4,zs4];clear inv16;refine sk hH (i:=17) (v:=.pointer (some ⟨bw,ow+pp2*5,none⟩)) (Zd rfl) inv17 (fun X hX=>?_) fun inv18=>?_
    ·go_simp
    simp only [Act.put,zq4,zr4,zs4];clear inv17;refine sk hH (i:=18) (v:=.pointer (some ⟨bw,ow+pp2*5,none⟩)) (Zd rfl) inv18 (fun X hX=>?_) fun inv19=>?_
    ·go_simp
    simp only [Act.put,zq4,zr4,zs4];clear inv18;refine sk hH (i:=19) (v:=.agg #[.int .i64 qx,.int .i64 qy]) (Zd rfl) inv19 (fun X hX=>?_) fun inv20=>?_
    ·have r0:=(hX.cell (p:=⟨bw,ow+pp2*5,none⟩) (World.block_lt_of_cell? _ _ x3)).trans x3;have r1:=(hX.cell (p:=⟨bw,ow+pp2*5+1,none⟩) (World.block_lt_of_cell? _ _ x4)).trans x4;go_simp
    simp only [Act.put,zq4,zr4,zs4];clear inv19;refine sk hH (i:=20) (v:=.int .i64 ra) (Zd rfl) inv20 (fun X hX=>?_) fun inv21=>?_
    ·go_simp
    simp only [Act.put,zq4,zr4,zs4];clear inv20;refine sk hH (i:=21) (v:=.int .i64 gg) (Zd rfl) inv21 (fun X hX=>?_) fun inv22=>?_
    ·go_simp
    simp only [Act.put,zq4,zr4,zs4];clear inv21;refine sk hH (i:=22) (v:=.int .i64 rc) (Zd rfl) inv22 (fun X hX=>?_) fun inv23=>?_
    ·go_simp
    simp only [Act.put,zq4,zr4,zs4];clear inv22;have inv24:=HeadInv.put2 inv23 (j:=23) (by kernel_rfl) (by omega)
    clear inv23;refine sa1 (r:=23) BZ.out ?_;refine Zp (Zd rfl) rfl (f:=18) (args:=#[.agg #[.int .i64 ax,.int .i64 ay],.int .i64 ra,.agg #[.int .i64 qx,.int .i64 qy],.int .i64 rc]) (by go_simp) (gc.out Xd) ?_
    rintro e w64 ⟨v1,rfl,p1,b64⟩;refine⟨_,rfl,?_⟩;simp only [Act.put,zq4,zr4,zs4];replace BZ:=zAg BZ b64;clear b64;have P1:=Lib.hid p1;clear p1;refine sk hH (i:=24) (v:=.tuple #[v1,.int .i64 0]) (Zd rfl) inv24 (fun X hX=>?_) fun inv25=>?_
    ·go_simp
    simp only [Act.put,zq4,zr4,zs4];clear inv24;refine sk hH (i:=25) (v:=v1) (Zd rfl) inv25 (fun X hX=>?_) fun inv26=>?_
    ·go_simp
    simp only [Act.put,zq4,zr4,zs4];clear inv25;refine sk hH (i:=26) (v:=.int .i64 0) (Zd rfl) inv26 (fun X hX=>?_) fun inv27=>?_
    ·go_simp
    simp only [Act.put,zq4,zr4,zs4];clear inv26;refine sk hH (i:=27) (v:=v1) (Zd rfl) inv27 (fun X hX=>?_) fun inv28=>?_
    ·go_simp
    simp only [Act.put,zq4,zr4,zs4];clear inv27 inv28 hH;refine Zm (by kernel_rfl) BZ.out ?_
    simp only [List.drop_succ_cons,List.drop_zero];obtain⟨g1,d2,hv1⟩:=P1.out.len;subst hv1;clear x1 x2 x3 x4 y1 y2 m0;gi_wp2;have t4:=(zCn HXB BZ).cell (i:=4) rfl;have t5:=(zCn HXB BZ).cell (i:=5) rfl;go_wp2_with fail;refine (gp.out w64 _ P1.out).mono ?_;rintro e w65 ⟨rfl,b65⟩;replace BZ:=zAg BZ b65;have B_w64:=Lib.hid b65;clear b65 t4 t5;have BF:=Lib.hid (BA.out.trans (BZ.out.mono BA.out.size));cases f0 <;> cases f1
    all_goals
     go_wp2;go_roundw
     case rel=>exact⟨j+1,by omega,by rw [hs12.out.2.2.1],by rw [hs12.out.2.1];rfl,by go_num,BF.out⟩
     case measure=>simp [intOf];omega
   ·obtain rfl:j=n9:=by omega
    have d1:decide ((j:Int)+1<(j:Int)+1)=false:=by simp
    replace BW:=Lib.hid BB.out.2.1;have MB9:=Lib.hid (MBl.out.below BB.out.1 MBl.out.lt);have XB9:=Lib.hid (XBl.out.below BB.out.1 XBl.out.lt);clear BB MBl XBl BWl BTl MB XB;have MB:=MB9;have XB:=XB9;clear MB9 XB9;have y2:=XB.out.cell (i:=2) rfl;have hr9':=hrr.out;rw [← hr9'];clear hr9';go_wp2_with fail;refine (fs1.out wo).mono ?_;rintro e w66 ⟨v1,rfl,p1,b66⟩;replace BW:=zAg BW b66;have B_wo:=Lib.hid b66;clear b66;have P1:=Lib.hid p1;clear p1;obtain⟨e1,d1',hv1⟩:=P1.out.len;subst hv1;clear y2 fs1;obtain⟨c0,c1,c2,c3,c4,c5,c6,c7,c8,c9,c10⟩:=Zi (m:=m) (zCn MB B_wo);have hs:=(zCn XB B_wo);have s0':=hs.cell (i:=0) rfl;have s1':=hs.cell (i:=1) rfl;have s2':=hs.cell (i:=2) rfl;have s3':=hs.cell (i:=3) rfl;have s4':=hs.cell (i:=4) rfl;have s5':=hs.cell (i:=5) rfl;have s0:=(zCn MB B_wo).cell (i:=0) rfl;have t1:=(BW.out.cell (p:=⟨bw,ow,none⟩) HW.out.1).trans U.out.1;have t2:=(BW.out.cell (p:=⟨bw,ow+1,none⟩) HW.out.1).trans U.out.2;go_wp2_with fail;refine (fs2'.out _ w66 P1.out).mono ?_;rintro e w67 ⟨v2,rfl,p2,b67⟩;replace BW:=zAg BW b67;replace B_wo:=zAg B_wo b67;have B_w66:=Lib.hid b67;clear b67;have P2:=Lib.hid p2;clear p2;obtain⟨e2,d2',hv2⟩:=P2.out.len;subst hv2;clear s0 t1 t2 fs2' c0 c1 c2 c3 c4 c5 c6 c7 c8 c9 c10 hs s0' s1' s2' s3' s4' s5';obtain⟨c0,c1,c2,c3,c4,c5,c6,c7,c8,c9,c10⟩:=Zi (m:=m) (zCn MB B_wo);have hs:=(zCn XB B_wo);have s0':=hs.cell (i:=0) rfl;have s1':=hs.cell (i:=1) rfl;have s2':=hs.cell (i:=2) rfl;have s3':=hs.cell (i:=3) rfl;have s4':=hs.cell (i:=4) rfl;have s5':=hs.cell (i:=5) rfl;have t4:=(zCn XB B_wo).cell (i:=4) rfl;have t5:=(zCn XB B_wo).cell (i:=5) rfl;go_wp2_with fail;refine (fh1.out w67 _ P2.out).mono ?_;rintro e w68 ⟨rfl,b68⟩;replace BW:=zAg BW b68;replace B_wo:=zAg B_wo b68;replace B_w66:=zAg B_w66 b68;have B_w67:=Lib.hid b68;clear b68 t4 t5 fh1 c0 c1 c2 c3 c4 c5 c6 c7 c8 c9 c10 hs s0' s1' s2' s3' s4' s5';obtain⟨c0,c1,c2,c3,c4,c5,c6,c7,c8,c9,c10⟩:=Zi (m:=m) (zCn MB B_wo);have hs:=(zCn XB B_wo);have s0':=hs.cell (i:=0) rfl;have s1':=hs.cell (i:=1) rfl;have s2':=hs.cell (i:=2) rfl;have s3':=hs.cell (i:=3) rfl;have s4':=hs.cell (i:=4) rfl;have s5':=hs.cell (i:=5) rfl;have s1:=(zCn MB B_wo).cell (i:=1) rfl;have t4:=(zCn XB B_wo).cell (i:=4) rfl;have t5:=(zCn XB B_wo).cell (i:=5) rfl;go_wp2_with fail;refine (fh2.out w68 BW.out).mono ?_;rintro e w69 ⟨rfl,b69⟩;replace BW:=zAg BW b69;replace B_wo:=zAg B_wo b69;replace B_w66:=zAg B_w66 b69;replace B_w67:=zAg B_w67 b69;clear b69 s1 t4 t5 fh2 c0 c1 c2 c3 c4 c5 c6 c7 c8 c9 c10 hs s0' s1' s2' s3' s4' s5';obtain⟨c0,c1,c2,c3,c4,c5,c6,c7,c8,c9,c10⟩:=Zi (m:=m) (zCn MB B_wo);have hs:=(zCn XB B_wo);have s0':=hs.cell (i:=0) rfl;have s1':=hs.cell (i:=1) rfl;have s2':=hs.cell (i:=2) rfl;have s3':=hs.cell (i:=3) rfl;have s4':=hs.cell (i:=4) rfl;have s5':=hs.cell (i:=5) rfl;go_wp2;go_ret;exact⟨rfl,BW.out⟩
 ·skip
  obtain⟨rfl,e1,e2⟩:=Z9x hK34 hask;simp only at e1 e2;subst e1 e2;clear hask;rcases hK34 with rfl | rfl
  ·skip
   go_wp2;go_ret;exact⟨rfl,BW.out⟩
  ·skip
   go_wp2;go_ret;exact⟨rfl,BW.out⟩
end Go.Proofs.YtdolkgihppgpcaaGreat.scenePlaces
