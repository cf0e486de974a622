/- package scene: the iterator over the corridors home, its contract. | package scene: disk, showRock, showBack, showHome. -/
import Derived.Test.YtdolkgihppgpcaaGreatBin29
set_option linter.unusedSimpArgs false
set_option linter.unusedVariables false
set_option maxRecDepth 8000
set_option maxHeartbeats 6400000
namespace Go.Proofs.YtdolkgihppgpcaaGreat
section
attribute [local irreducible] wpQuiet
open Go.RowKit
noncomputable def bkP (m:Msn) (l:List Int) (k j:Nat):List Pt:=corL (atW m (itB m (k+1) j)) (bkR m (k+1) (rdB m l (k+1)) j) (atW m (itB m (k+1) (j+1))) (bkR m (k+1) (rdB m l (k+1)) (j+1))
noncomputable def bkE (m:Msn) (l:List Int) (k j:Nat):Int:=corE (atW m (itB m (k+1) j)) (bkR m (k+1) (rdB m l (k+1)) j) (atW m (itB m (k+1) (j+1))) (bkR m (k+1) (rdB m l (k+1)) (j+1))
def bkX (m:Msn) (l:List Int) (k:Nat) (x:Value × Nat):Array Value:=#[x.1,.int .i64 (bkR m (k+1) (rdB m l (k+1)) (x.2+1))]
def bkH (m:Msn) (l:List Int) (k:Nat) (x:Value × Nat) (W:World):Prop:=Z8 W.heap.size W x.1 (bkP m l k x.2)∧x.2<dep m (k+1)
def bkK (n0:Nat) (q:Nat→Prop) (_:Nat) (X Y:World):Prop:=Below n0 X Y∧X.heap.size≤Y.heap.size∧∀ b o,¬ q b→X.heap[b]?=some o→o.isCells=true→Y.heap[b]?=some o
theorem bkK.trans {n0:Nat} {q:Nat→Prop} {B:Nat} {X Y Z:World} (h:bkK n0 q B X Y) (k:bkK n0 q B Y Z):bkK n0 q B X Z:=⟨h.1.trans k.1,Nat.le_trans h.2.1 k.2.1,fun b o hq hb hc=>k.2.2 b o hq (h.2.2 b o hq hb hc) hc⟩
theorem bkK.refl (n0:Nat) (q:Nat→Prop) (B:Nat) (X:World):bkK n0 q B X X:=⟨Below.refl _ _,Nat.le_refl _,fun _ _ _ h _=>h⟩
theorem bkK.low {n0:Nat} {q:Nat→Prop} {B:Nat} {X Y:World} (h:Below X.heap.size X Y) (hn:n0≤X.heap.size):bkK n0 q B X Y:=⟨h.mono hn,h.size,fun b _ _ hb _=>(h.block b (Array.getElem?_eq_some_iff.1 hb).1).trans hb⟩
theorem bkK.cell {n0:Nat} {q:Nat→Prop} {B:Nat} {X Y:World} (h:bkK n0 q B X Y) {b i:Nat} {v:Value} (hq:¬ q b) (hc:X.cell? ⟨b,i,none⟩=some v):Y.cell? ⟨b,i,none⟩=some v:=by
 obtain⟨o,h1,h2⟩:=cells_of_cell hc;exact (World.cell?_of_block ((h.2.2 b o hq h1 h2).trans h1.symm)).trans hc
theorem bkK.has {n0:Nat} {q:Nat→Prop} {B:Nat} {X Y:World} (h:bkK n0 q B X Y) {b:Nat} {cs:Array Value} {t:TypeId} (hq:¬ q b) (hc:Has X b cs t):Has Y b cs t:=h.2.2 b _ hq hc rfl
theorem bkK.put {n0:Nat} {q:Nat→Prop} {B:Nat} (W:World) (o o':Obj) {l:Nat} (hl:n0≤l) (h1:W.heap[l]?=some o) (h2:o.isCells=false):bkK n0 q B W (W.putObj l o') :=
 ⟨(Below.refl n0 W).grown (grownBy_putObj' W l o') (by have:=(Array.getElem?_eq_some_iff.1 h1).1;omega) (fun k e=>by cases e;exact hl),by simp,fun b o2 _ hb hc=>(World.putObj_heap_other (fun e=>by subst e;rw [h1] at hb;cases hb;rw [h2] at hc;cases hc)).trans hb⟩
theorem bkH.put {m:Msn} {l:List Int} {k:Nat} (x:Value × Nat) (W:World) (j:Nat) (o o':Obj) (h:bkH m l k x W) (hl:W.heap[j]?=some o) (hc:o.isCells=false):bkH m l k x (W.putObj j o'):=by
 obtain⟨⟨h1,a,cap,e1,h2⟩,h3⟩:=h;refine⟨⟨h1,a,cap,e1,?_⟩,h3⟩;rcases h2 with h2 | ⟨b,o2,e2,hb,hcc⟩
 ·exact .inl h2
 ·by_cases h0:bkP m l k x.2=[]
  ·exact .inl h0
  refine .inr ⟨b,o2,e2,by simpa using hb,fun i hi=>?_⟩
  obtain⟨hx,hy⟩:=hcc i hi;have hbl:b≠j:=by
   obtain⟨o3,ho3,hoc⟩:=cells_of_cell hx;intro e;subst e;rw [show (⟨b,o2+i*2,none⟩:Addr).block=b from rfl,hl] at ho3
   cases ho3;rw [hc] at hoc;cases hoc
  have hs:(W.putObj j o').heap[b]?=W.heap[b]?:=World.putObj_heap_other hbl;exact⟨(World.cell?_of_block hs).trans hx,(World.cell?_of_block hs).trans hy⟩
theorem Z8i (m:Msn) (l:List Int) (k j:Nat) (w:World) :
  Calls Tryz.prog 18 #[.agg #[.int .i64 (wy m.ways (itB m (k+1) j)).x,.int .i64 (wy m.ways (itB m (k+1) j)).y],.int .i64 (bkR m (k+1) (rdB m l (k+1)) j),.agg #[.int .i64 (wy m.ways (itB m (k+1) (j+1))).x,.int .i64 (wy m.ways (itB m (k+1) (j+1))).y],.int .i64 (bkR m (k+1) (rdB m l (k+1)) (j+1))] w fun e w'=>∃ v,e=.returned (.tuple #[v,.int .i64 (bkE m l k j)])∧Z8 w'.heap.size w' v (bkP m l k j)∧Below w.heap.size w w' :=
 Z0o (atW m (itB m (k+1) j)) (atW m (itB m (k+1) (j+1))) (bkR m (k+1) (rdB m l (k+1)) j) (bkR m (k+1) (rdB m l (k+1)) (j+1)) w
attribute [local go_sem] Oper.semAt_some
theorem Z3V (m : Msn) (l : List Int) (vw vh vr vb va : Value) (k n0 : Nat) (q : Nat → Prop) (Bs : Nat) (w : World) (T : StgAt n0 w m l vw vh vr vb va) (V : VMsn m) (hk : k + 1 < m.ways.length) (hn : n0 ≤ w.heap.size)
  (HB:Has w Bs (stgC m vw vh vr vb va k) 67) (hq:∀ b,q b→b<w.heap.size∧b≠Bs) :
  SeqE Tryz.prog 109 #[.pointer (some ⟨Bs,0,none⟩)] (bkX m l k) (bkH m l k) (bkK n0 q) (fun xs=>xs.map (·.2)=List.range (dep m (k+1))) (fun pre=>∃ j,j≤dep m (k+1)∧pre.map (·.2)=List.range j) w:=by
 intro n L J Jx W hW hJ hJx hY h0;have hV:=(Zs m).2 V;have n41:=V.n41;have hd:=Z2I V.ways hk;have hd1:0<dep m (k+1):=by
  rcases Nat.eq_zero_or_pos (dep m (k+1)) with h | h
  ·have h2:=Z8f V.ways hk
   rw [h] at h2;exact absurd (show k+1=0 from h2) (by omega)
  ·exact h
 have fr:=fun w1 (B:Below n0 w w1) (z:n0≤w1.heap.size)=>Z48 m vw vh vr (k+1) w1 ((T.msn.below B).mono z) hV hk
 have fl:=fun w1 (B:Below n0 w w1) (z:n0≤w1.heap.size) (i j:Nat) hi hj=>Z3D (m:=m) (a:=i) (b:=j) hV hi hj ▸ Z3E m vw vh vr i j w1 ((T.msn.below B).mono z)
 have fc:=fun j w1=>Z8i m l k j w1
 have rb:=fun j (hj:j≤dep m (k+1))=>bk_bd V l hk hj
 have hlt:=fun j (hj:j≤dep m (k+1))=>Z0m V.ways hk hj
 have hgb:=fun i j hi hj=>Z01 V.leg V.ways (i:=i) (j:=j) hi hj
 have hHx:∀ j v X,j<dep m (k+1)→Z8 X.heap.size X v (bkP m l k j)→bkH m l k (v,j) X:=fun j v X h1 h2=>⟨h2,h1⟩
 have hXx:∀ j v,bkX m l k (v,j)=#[v,.int .i64 (bkR m (k+1) (rdB m l (k+1)) (j+1))]:=fun _ _=>rfl
 have hsR:∀ j,bkR m (k+1) (rdB m l (k+1)) (j+1)=bkR m (k+1) (rdB m l (k+1)) j+gLeg m (itB m (k+1) j) (itB m (k+1) (j+1)):=fun _=>rfl
 obtain⟨bb,ob,cb,rfl,hbb,hcb⟩:=ZH T.bef (by rw [ZD];omega)
 simp only [ZD] at *;have xb:=(hcb (k+1) hk).trans (by rw [Z10 hk])
 obtain⟨-,aa,ca,rfl,-⟩:=T.aft;obtain⟨⟨-,a1,c1,rfl,hcw⟩,⟨-,a2,c2,rfl,-⟩,⟨-,a3,c3,rfl,hcr⟩⟩:=T.msn;obtain⟨bw,ow,rfl,hbw,hcw⟩:=hcw.resolve_left (by intro h;rw [h] at hk;simp at hk)
 have hlen:(intL (upto (itB m (k+1)) (dep m (k+1)+1))).length=dep m (k+1)+1:=by simp [intL,upto]
 have hr0:Hid (bkR m (k+1) (rdB m l (k+1)) 0=rdB m l (k+1)):=rfl;have HC:=Lib.hid hcw;have HQ:=Lib.hid hq;have HJ:=Lib.hid hJ;have HJx:=Lib.hid hJx;have HY:=Lib.hid hY;have H0:=Lib.hid h0;clear T hcw hcr hcb hV V hq hJ hJx hY h0;replace fr:=Lib.hid fr;replace fl:=Lib.hid fl;replace fc:=Lib.hid fc;replace rb:=Lib.hid rb;replace hlt:=Lib.hid hlt;replace hgb:=Lib.hid hgb;replace hHx:=Lib.hid hHx;replace hXx:=Lib.hid hXx;replace hsR:=Lib.hid hsR;have hlen':=Lib.hid hlen;clear hlen;obtain⟨n9,hn9⟩:∃ x,dep m (k+1)=x:=⟨_,rfl⟩;simp only [hn9] at *;clear hn9;have hBs:=HB.lt;have BW:=Lib.hid (hW.mono hn);have zW:=hW.size;have HBW:=HB.below hW hBs;unfold stgC at HB HBW;unfold Zc at *;have HBX:=Lib.hid HBW;have nqB:¬ q Bs:=fun h=>(HQ.out _ h).2 rfl
 replace xb:=(BW.out.cell (p:=⟨bb,ob+(k+1),none⟩) hbb).trans xb;obtain⟨K,hK⟩:∃ K,k+1=K:=⟨_,rfl⟩;have jw:IntKind.i64.wrap ((k:Int)+1)=(K:Int):=by rw [← hK];exact zW2
 simp only [hK] at *;have hK':(K:Int)<m.ways.length:=by omega
 have hK0:(0:Int)≤K:=by omega
 clear HB hW
 change CallsIn Fence.wide n Tryz.prog _ #[.func (.yield L) #[] #[],.pointer (some ⟨Bs,0,none⟩)] W _
 refine callsIn_of_wp Tryz.func109 rfl trivial ?_ rfl;simp only [Tryz.ntmps109,List.size_toArray,List.length_cons,List.length_nil,Nat.reduceAdd,Nat.reduceSub,Array.replicate_succ,Array.replicate_zero,List.push_toArray,List.append_toArray,List.nil_append,List.cons_append];have s0:=HBW.cell (i:=0) rfl;have s1:=HBW.cell (i:=1) rfl;have s2:=HBW.cell (i:=2) rfl;have s3:=HBW.cell (i:=3) rfl;have s4:=HBW.cell (i:=4) rfl;have s5:=HBW.cell (i:=5) rfl;have s6:=HBW.cell (i:=6) rfl;have s7:=HBW.cell (i:=7) rfl;have s8:=HBW.cell (i:=8) rfl;have s9:=HBW.cell (i:=9) rfl;have s10:=HBW.cell (i:=10) rfl;have s11:=HBW.cell (i:=11) rfl;have s13:=HBW.cell (i:=13) rfl;clear HBW
 gi_wp2_with fail
 refine⟨trivial,(fun h=>by cases h),(callsIn_wide.2 (fr.out _ BW.out (by omega))).mono ?_⟩
 rintro e w1 ⟨v1,rfl,p1,b1,nw1⟩;obtain⟨b2,o2,cap4,hv1,hb2,hc2⟩:=Z12 p1 hlen'.out;subst hv1;have nq2:¬ q b2:=fun h=>by have:=nw1 _ _ _ _ rfl;have:=(HQ.out _ h).1;omega
 clear p1 nw1 fr xb s0 s1 s2 s3 s4 s5 s6 s7 s8 s9 s10 s11 s13;have HB1:=Lib.hid (HBX.out.below b1 (by omega))
 have BW1:=Lib.hid (BW.out.trans (b1.mono (by omega)))
 have J1:=Lib.hid (HJ.out _ _ _ H0.out b1);have z1:=b1.size;have C2:=Lib.hid hc2;clear b1 hc2;have sl1:¬ n9+1+cap4=1:=by omega
 gi_wp2
 gi_loopw [3,33] (fun r i wr=>∃ j:Nat,j≤n9∧r=.int .i64 (bkR m K (rdB m l K) j)∧i=.int .i64 (j:Int)∧(∃ pre,pre.map (·.2)=List.range j∧J pre wr)∧Below n0 w wr∧bkK n0 q 0 w1 wr) (fun _ i _=>n9-(intOf i).toNat)
 case atStart=>exact⟨0,Nat.zero_le _,by rw [hr0.out],rfl,⟨[],rfl,J1.out⟩,BW1.out,bkK.refl _ _ _ _⟩
 case round =>
  obtain⟨j,hj,rfl,rfl,⟨pre,hpre,hJs⟩,hB,hKK⟩:=hrel;obtain⟨wo,hwo⟩:∃ x,x=wr:=⟨_,rfl⟩;subst hwo;by_cases hjn:j<n9
  ·have d1:decide ((j:Int)<(n9:Int))=true:=by rw [decide_eq_true_eq];omega
   have h1:=hlt.out j (by omega)
   have h2:=hlt.out (j+1) (by omega)
   have r1:=rb.out j (by omega)
   have r2:=rb.out (j+1) (by omega)
   have y1:=C2.out j (by omega)
   have y2:=C2.out (j+1) (by omega)
   rw [Z0I (by omega)] at y1 y2
   replace y1:=hKK.cell nq2 y1;replace y2:=hKK.cell nq2 y2;obtain⟨x1,x2,-⟩:=HC.out _ h1;obtain⟨x3,x4,-⟩:=HC.out _ h2;have HX:=hKK.has nqB HB1.out;have zo:=hKK.2.1;have gl:=Lib.hid (fun w2 (B:Low wo w2)=>fl.out w2 (hB.trans (B.out.mono (by omega))) (by have:=B.out.size;omega) _ _ h1 h2)
   have gc:=Lib.hid (fc.out j);have s1:=hsR.out j;have gb:=hgb.out _ _ h1 h2;have hYj:=Lib.hid (fun v X hx hz hJ=>HY.out (n-1) pre (v,j) X hJ (hHx.out j v X hjn hx) hz)
   have EX:=Lib.hid (hXx.out j);obtain⟨ra,hra⟩:∃ x,bkR m K (rdB m l K) j=x:=⟨_,rfl⟩;obtain⟨rc,hrc⟩:∃ x,bkR m K (rdB m l K) (j+1)=x:=⟨_,rfl⟩;obtain⟨pp1,hp1⟩:∃ x,itB m K j=x:=⟨_,rfl⟩;obtain⟨pp2,hp2⟩:∃ x,itB m K (j+1)=x:=⟨_,rfl⟩;simp only [hra,hrc,hp1,hp2] at r1 r2 gc s1 y1 y2 x1 x2 x3 x4 gl gb h1 h2 EX ⊢;generalize bkE m l k j=be at gc;generalize (wy m.ways pp1).x=px at *;generalize (wy m.ways pp1).y=py at *;generalize (wy m.ways pp2).x=qx at *;generalize (wy m.ways pp2).y=qy at *;generalize gLeg m pp1 pp2=gg at *;generalize dLeg m pp1 pp2=dd at *;generalize tLeg m pp1 pp2=tt at *;have rw1:IntKind.i64.wrap (ra+gg)=rc:=by rw [← s1];exact zW2
   have hrc':=Lib.hid hrc;have h1':(pp1:Int)<m.ways.length:=by omega
   have h2':(pp2:Int)<m.ways.length:=by omega
   have h10:(0:Int)≤pp1:=by omega
   have h20:(0:Int)≤pp2:=by omega
   have jl1:(j:Int)<(n9:Int)+1:=by omega
   have jl0:(0:Int)≤(j:Int):=by omega
   have jl2:j<n9+1:=by omega
   have jw1:IntKind.i64.wrap (j:Int)=(j:Int):=zW2;replace x1:=(hB.cell (p:=⟨bw,ow+pp1*5,none⟩) hbw).trans x1;replace x2:=(hB.cell (p:=⟨bw,ow+pp1*5+1,none⟩) hbw).trans x2;replace x3:=(hB.cell (p:=⟨bw,ow+pp2*5,none⟩) hbw).trans x3;replace x4:=(hB.cell (p:=⟨bw,ow+pp2*5+1,none⟩) hbw).trans x4;have y2':wo.cell? ⟨b2,o2+1+j,none⟩=some (.int .i64 (pp2:Int)):=by rw [show o2+1+j=o2+(j+1) by omega];exact y2
   have y2'':=y2;clear s1 hra hrc hp1 hp2 r1 r2 gb;have HR:=Lib.hid (And.intro hB (And.intro hKK (And.intro hJs hpre)));clear hB hKK hJs hpre;gi_wp2;have y1f:=Low.fact y1;have q0:=Low.fact (HX.cell (i:=0) rfl);have q1:=Low.fact (HX.cell (i:=1) rfl);have q2:=Low.fact (HX.cell (i:=2) rfl);have q3:=Low.fact (HX.cell (i:=3) rfl);have q4:=Low.fact (HX.cell (i:=4) rfl);have q5:=Low.fact (HX.cell (i:=5) rfl);have q6:=Low.fact (HX.cell (i:=6) rfl);have q7:=Low.fact (HX.cell (i:=7) rfl);have q8:=Low.fact (HX.cell (i:=8) rfl);have q9:=Low.fact (HX.cell (i:=9) rfl);have q10:=Low.fact (HX.cell (i:=10) rfl);have HXo:=Lib.hid HX;have XF:=Lib.hid (And.intro x1 (And.intro x2 (And.intro x3 (And.intro x4 y1))));clear x1 x2 x3 x4 y2 y2' y2'' HX
   (refine ZQ (Zj _) (by kernel_rfl) (by kernel_rfl) (by kernel_rfl) ?_;(iterate 17 (apply Zf;(case hw=>rfl);(case hval=>(intro w1 hw1;have hcx:=Low.cells hw1;simp only [Oper.quietAt];go_simp;first | done | (first | (go_at_call 20;exact Low.calls hw1 (gl.out _ hw1))) | rfl | exact⟨rfl,rfl⟩));simp only [Act.put,zq4,zr4,zs4]));refine wpQuiet_nil ?_;intro w2 hw2)
   clear gl y1f q0 q1 q2 q3 q4 q5 q6 q7 q8 q9 q10;have hw:Below wo.heap.size wo w2:=hw2.out;clear hw2 y1;have BO:=Lib.hid hw;have zw:=hw.size;have HX2:=HXo.out.below hw HXo.out.lt;have c0:w2.cell? ⟨Bs,0,none⟩=some (.slice (some ⟨bw,ow,none⟩) m.ways.length (m.ways.length+c1)):=HX2.cell (i:=0) rfl;obtain⟨x1,x2,x3,x4,y1⟩:=XF.out;have lb2:b2<wo.heap.size:=World.block_lt_of_cell? _ _ y1;replace x1:=(hw.cell (p:=⟨bw,ow+pp1*5,none⟩) (World.block_lt_of_cell? _ _ x1)).trans x1;replace x2:=(hw.cell (p:=⟨bw,ow+pp1*5+1,none⟩) (World.block_lt_of_cell? _ _ x2)).trans x2;replace x3:=(hw.cell (p:=⟨bw,ow+pp2*5,none⟩) (World.block_lt_of_cell? _ _ x3)).trans x3;replace x4:=(hw.cell (p:=⟨bw,ow+pp2*5+1,none⟩) (World.block_lt_of_cell? _ _ x4)).trans x4;replace y1:=(hw.cell (p:=⟨b2,o2+j,none⟩) lb2).trans y1;clear hw HX2 lb2;gi_wp2;have BZ:=Lib.hid (Below.refl w2.heap.size w2);refine Zg (Zj _) 26 (fun X=>Below w2.heap.size w2 X) (by kernel_rfl) (by kernel_rfl) (by kernel_rfl) fun hH inv0=>?_
   have hD:=Below.drew (Below.refl w2.heap.size w2);generalize hXX1:w2.drew=X1 at *;clear hXX1;have BZ:=Lib.hid hD;clear hD;refine sk hH (i:=0) (v:=.pointer (some ⟨Bs,0,none⟩)) (Zd rfl) inv0 (fun X hX=>?_) fun inv1=>?_
   ·go_simp
   simp only [Act.put,zq4,zr4,zs4];clear inv0;refine sk hH (i:=1) (v:=.pointer (some ⟨Bs,0,none⟩)) (Zd rfl) inv1 (fun X hX=>?_) fun inv2=>?_
   ·go_simp
   simp only [Act.put,zq4,zr4,zs4];clear inv1;refine sk hH (i:=2) (v:=.slice (some ⟨bw,ow,none⟩) m.ways.length (m.ways.length+c1)) (Zd rfl) inv2 (fun X hX=>?_) fun inv3=>?_
   ·have r0:=(hX.cell (p:=⟨Bs,0,none⟩) (World.block_lt_of_cell? _ _ c0)).trans c0;go_simp
   simp only [Act.put,zq4,zr4,zs4];clear inv2;refine sk hH (i:=3) (v:=.slice (some ⟨b2,o2,none⟩) (n9+1) (n9+1+cap4)) (Zd rfl) inv3 (fun X hX=>?_) fun inv4=>?_
   ·go_simp
   simp only [Act.put,zq4,zr4,zs4];clear inv3;refine sk hH (i:=4) (v:=.int .i64 (j:Int)) (Zd rfl) inv4 (fun X hX=>?_) fun inv5=>?_
   ·go_simp
   simp only [Act.put,zq4,zr4,zs4];clear inv4;refine sk hH (i:=5) (v:=.pointer (some ⟨b2,o2+j,none⟩)) (Zd rfl) inv5 (fun X hX=>?_) fun inv6=>?_
   ·go_simp
   simp only [Act.put,zq4,zr4,zs4];clear inv5;refine sk hH (i:=6) (v:=.int .i64 (pp1:Int)) (Zd rfl) inv6 (fun X hX=>?_) fun inv7=>?_
   ·have r0:=(hX.cell (p:=⟨b2,o2+j,none⟩) (World.block_lt_of_cell? _ _ y1)).trans y1;go_simp
   simp only [Act.put,zq4,zr4,zs4];clear inv6;refine sk hH (i:=7) (v:=.pointer (some ⟨bw,ow+pp1*5,none⟩)) (Zd rfl) inv7 (fun X hX=>?_) fun inv8=>?_
   ·go_simp
   simp only [Act.put,zq4,zr4,zs4];clear inv7;refine sk hH (i:=8) (v:=.pointer (some ⟨bw,ow+pp1*5,none⟩)) (Zd rfl) inv8 (fun X hX=>?_) fun inv9=>?_
   ·go_simp
   simp only [Act.put,zq4,zr4,zs4];clear inv8;refine sk hH (i:=9) (v:=.agg #[.int .i64 px,.int .i64 py]) (Zd rfl) inv9 (fun X hX=>?_) fun inv10=>?_
   ·have r0:=(hX.cell (p:=⟨bw,ow+pp1*5,none⟩) (World.block_lt_of_cell? _ _ x1)).trans x1;have r1:=(hX.cell (p:=⟨bw,ow+pp1*5+1,none⟩) (World.block_lt_of_cell? _ _ x2)).trans x2;go_simp
   simp only [Act.put,zq4,zr4,zs4];clear inv9;refine sk hH (i:=10) (v:=.int .i64 ra) (Zd rfl) inv10 (fun X hX=>?_) fun inv11=>?_
   ·go_simp
   simp only [Act.put,zq4,zr4,zs4];clear inv10;refine sk hH (i:=11) (v:=.pointer (some ⟨Bs,0,none⟩)) (Zd rfl) inv11 (fun X hX=>?_) fun inv12=>?_
   ·go_simp
   simp only [Act.put,zq4,zr4,zs4];clear inv11;refine sk hH (i:=12) (v:=.pointer (some ⟨Bs,0,none⟩)) (Zd rfl) inv12 (fun X hX=>?_) fun inv13=>?_
   ·go_simp
   simp only [Act.put,zq4,zr4,zs4];clear inv12;refine sk hH (i:=13) (v:=.slice (some ⟨bw,ow,none⟩) m.ways.length (m.ways.length+c1)) (Zd rfl) inv13 (fun X hX=>?_) fun inv14=>?_
   ·have r0:=(hX.cell (p:=⟨Bs,0,none⟩) (World.block_lt_of_cell? _ _ c0)).trans c0;go_simp
   simp only [Act.put,zq4,zr4,zs4];clear inv13;refine sk hH (i:=14) (v:=.int .i64 (pp2:Int)) (Zd rfl) inv14 (fun X hX=>?_) fun inv15=>?_
   ·go_simp
   simp only [Act.put,zq4,zr4,zs4];clear inv14;refine sk hH (i:=15) (v:=.pointer (some ⟨bw,ow+pp2*5,none⟩)) (Zd rfl) inv15 (fun X hX=>?_) fun inv16=>?_
   ·go_simp
   simp only [Act.put,zq4,zr4,zs4];clear inv15;refine sk hH (i:=16) (v:=.pointer (some ⟨bw,ow+pp2*5,none⟩)) (Zd rfl) inv16 (fun X hX=>?_) fun inv17=>?_
   ·go_simp
   simp only [Act.put,zq4,zr4,zs4];clear inv16;refine sk hH (i:=17) (v:=.agg #[.int .i64 qx,.int .i64 qy]) (Zd rfl) inv17 (fun X hX=>?_) fun inv18=>?_
   ·have r0:=(hX.cell (p:=⟨bw,ow+pp2*5,none⟩) (World.block_lt_of_cell? _ _ x3)).trans x3;have r1:=(hX.cell (p:=⟨bw,ow+pp2*5+1,none⟩) (World.block_lt_of_cell? _ _ x4)).trans x4;go_simp
   simp only [Act.put,zq4,zr4,zs4];clear inv17;refine sk hH (i:=18) (v:=.int .i64 ra) (Zd rfl) inv18 (fun X hX=>?_) fun inv19=>?_
   ·go_simp
   simp only [Act.put,zq4,zr4,zs4];clear inv18;refine sk hH (i:=19) (v:=.int .i64 gg) (Zd rfl) inv19 (fun X hX=>?_) fun inv20=>?_
   ·go_simp
   simp only [Act.put,zq4,zr4,zs4];clear inv19;refine sk hH (i:=20) (v:=.int .i64 rc) (Zd rfl) inv20 (fun X hX=>?_) fun inv21=>?_
   ·go_simp
   simp only [Act.put,zq4,zr4,zs4];clear inv20;have inv22:=HeadInv.put2 inv21 (j:=21) (by kernel_rfl) (by omega)
   clear inv21;refine sa1 (r:=21) BZ.out ?_;refine Zp (Zd rfl) rfl (f:=18) (args:=#[.agg #[.int .i64 px,.int .i64 py],.int .i64 ra,.agg #[.int .i64 qx,.int .i64 qy],.int .i64 rc]) (by go_simp) (gc.out X1) ?_
   rintro e w3 ⟨v1,rfl,p1,b3⟩;refine⟨_,rfl,?_⟩;simp only [Act.put,zq4,zr4,zs4];replace BZ:=zAg BZ b3;clear b3;have P1:=Lib.hid p1;clear p1;refine sk hH (i:=22) (v:=.tuple #[v1,.int .i64 be]) (Zd rfl) inv22 (fun X hX=>?_) fun inv23=>?_
   ·go_simp
   simp only [Act.put,zq4,zr4,zs4];clear inv22;refine sk hH (i:=23) (v:=v1) (Zd rfl) inv23 (fun X hX=>?_) fun inv24=>?_
   ·go_simp
   simp only [Act.put,zq4,zr4,zs4];clear inv23;refine sk hH (i:=24) (v:=.int .i64 be) (Zd rfl) inv24 (fun X hX=>?_) fun inv25=>?_
   ·go_simp
   simp only [Act.put,zq4,zr4,zs4];clear inv24;refine sk hH (i:=25) (v:=v1) (Zd rfl) inv25 (fun X hX=>?_) fun inv26=>?_
   ·go_simp
   simp only [Act.put,zq4,zr4,zs4];clear inv25 inv26 hH;refine Zm (by kernel_rfl) BZ.out ?_
   simp only [List.drop_succ_cons,List.drop_zero];obtain⟨g1,d2,hv1⟩:=P1.out.len;subst hv1;clear x1 x2 x3 x4 y1 c0;have B3:=Lib.hid (BO.out.trans (BZ.out.mono BO.out.size));have zb:=B3.out.size;have hy9:=hYj.out _ w3 P1.out (by omega) (HJ.out _ _ _ HR.out.2.2.1 B3.out)
   rw [EX.out] at hy9;obtain⟨fn,tmps,assign,body,hy,hR⟩:=hy9;have rw2:=rw1;gi_wp2;refine⟨(fun h=>by cases h),hR.mono ?_⟩
   rintro e w9 (⟨rfl,hJ3,hk3⟩ | ⟨rfl,hJx3⟩)
   ·have hk9:=(HR.out.2.1.trans (bkK.low B3.out (by omega))).trans hk3
    have hb9:=(HR.out.1.trans (B3.out.mono (by omega))).trans hk3.1
    have HZ:=Lib.hid (And.intro hk9 (And.intro hb9 hJ3));clear hk9 hb9 hk3 hJ3 hy hR;gi_wp2;go_roundw
    case rel=>exact⟨j+1,by omega,by rw [hrc'.out],by go_num,⟨_,by rw [List.map_append,HR.out.2.2.2,List.range_succ];rfl,HZ.out.2.2⟩,HZ.out.2.1,HZ.out.1⟩
    case measure=>simp [intOf];omega
   ·have HZ:=Lib.hid hJx3
    clear hJx3 hy hR;gi_wp2;refine bodyPost_ret (results_none rfl _ _ _) rfl ?_;exact⟨⟨_,rfl⟩,.inr ⟨_,⟨j+1,by omega,by rw [List.map_append,HR.out.2.2.2,List.range_succ];rfl⟩,HZ.out⟩⟩
  ·obtain rfl:j=n9:=by omega
   have HZ:=Lib.hid (And.intro hJs hpre);clear hJs hpre hB hKK;gi_wp2;go_end0;exact⟨⟨_,rfl⟩,.inl ⟨_,HZ.out.2,HZ.out.1⟩⟩
end
section
attribute [local irreducible] wpQuiet
open Go.RowKit
theorem Z8.put {W:World} {v:Value} {p:List Pt} (h:Z8 W.heap.size W v p) {j:Nat} {o:Obj} (o':Obj) (hl:W.heap[j]?=some o) (hc:o.isCells=false):Z8 (W.putObj j o').heap.size (W.putObj j o') v p:=by
 obtain⟨h1,a,cap,e1,h2⟩:=h;refine⟨h1,a,cap,e1,?_⟩;rcases h2 with h2 | ⟨b,o2,e2,hb,hcc⟩
 ·exact .inl h2
 ·by_cases h0:p=[]
  ·exact .inl h0
  refine .inr ⟨b,o2,e2,by simpa using hb,fun i hi=>?_⟩
  obtain⟨hx,hy⟩:=hcc i hi;have hbl:b≠j:=by
   obtain⟨o3,ho3,hoc⟩:=cells_of_cell hx;intro e;subst e;rw [show (⟨b,o2+i*2,none⟩:Addr).block=b from rfl,hl] at ho3
   cases ho3;rw [hc] at hoc;cases hoc
  have hs:(W.putObj j o').heap[b]?=W.heap[b]?:=World.putObj_heap_other hbl;exact⟨(World.cell?_of_block hs).trans hx,(World.cell?_of_block hs).trans hy⟩
theorem Has.putO {W:World} {b:Nat} {cs:Array Value} {t:TypeId} (h:Has W b cs t) {j:Nat} {o:Obj} (o':Obj) (hl:W.heap[j]?=some o) (hc:o.isCells=false):Has (W.putObj j o') b cs t :=
 (World.putObj_heap_other (fun e=>by subst e;rw [show W.heap[b]?=_ from h] at hl;cases hl;cases hc)).trans h
theorem Z0U {n:Nat} {A W:World} (h:Below n A W) {j:Nat} (o':Obj) (hj:n≤j) (hn:n≤A.heap.size):Below n A (W.putObj j o') :=
 h.grown (grownBy_putObj' W j o') (Nat.le_trans hn h.size) (fun k e=>by cases e;exact hj)
theorem StgAt.low {n0:Nat} {A B:World} {m:Msn} {l:List Int} {vw vh vr vb va:Value} (h:StgAt n0 A m l vw vh vr vb va) (k:Below n0 A B):StgAt n0 B m l vw vh vr vb va:=⟨h.msn.below k,h.bef.below k,h.aft.below k⟩
theorem Z2z {B:Nat} {X Y:World} (h:Below X.heap.size X Y):KeepsFrom B X Y:=KeepsFrom.of_grownBy (Z3O h none) (fun _ e=>by cases e)
theorem Z3N {A B C:World} {row:Option Nat} (h:A.grownBy B row) (k:Below A.heap.size B C):A.grownBy C row:=⟨k.os.trans h.os,k.tape.trans h.tape,k.output.trans h.output,Nat.le_trans h.size k.size,fun i hi hne=>(k.block i hi).trans (h.block i hi hne)⟩
theorem bkK.set {n0:Nat} {q:Nat→Prop} {B:Nat} (X:World) (b i:Nat) (v:Value) (hn:n0≤X.heap.size) (hb:n0≤b) (hq:q b):bkK n0 q B X (X.setCell ⟨b,i,none⟩ v) :=
 ⟨Z4y (ZJ X b i v) hb hn,by simp,fun c _ hc h _=>(Below.heap_setCell X ⟨b,i,none⟩ v c (fun e=>hc (by rw [e];exact hq))).trans h⟩
theorem grown_low' {A B C:World} {b n:Nat} (k:Below n A B) (h:B.grownBy C (some b)) (hn:n≤b) (hn2:n≤A.heap.size):Below n A C:=k.grown h (Nat.le_trans hn2 k.size) (fun j e=>by cases e;exact hn)
theorem OwnD.grownTo {α:Type} {B:Nat} (w0:World) (row0:Option Nat) (hm:w0.heap.size≤B):OwnD noOwn B (fun (_:List α) W=>w0.grownBy W row0):=fun _ _ _ row hs hg hr =>
 Z3N hs ((Below.refl w0.heap.size _).grown hg hs.size (fun k e=>by
  obtain⟨o,_,h2⟩:=hr k e;rcases h2 with⟨_,h2⟩ | ⟨_,h2⟩
  ·exact h2.elim
  ·omega))
noncomputable def hmR (m:Msn) (l:List Int) (k:Nat):Int:=bkR m (k+1) (rdB m l (k+1)) (dep m (k+1))
noncomputable def hmP (m:Msn) (l:List Int) (k:Nat):List Pt:=shL (dskL (hmR m l k)) (atW m 0)
noncomputable def lstR (m:Msn) (l:List Int) (k:Nat) (pre:List (Value × Nat)):Int:=bkR m (k+1) (rdB m l (k+1)) (pre.foldl (fun _ x=>x.2+1) 0)
theorem Z90 (m:Msn) (l:List Int) (k:Nat) (pre:List (Value × Nat)) (v:Value) (j:Nat):lstR m l k (pre++[(v,j)])=bkR m (k+1) (rdB m l (k+1)) (j+1):=by unfold lstR;rw [List.foldl_append];rfl
theorem Z91 {m:Msn} {l:List Int} {k n:Nat} {pre:List (Value × Nat)} (h:pre.map (·.2)=List.range n):lstR m l k pre=bkR m (k+1) (rdB m l (k+1)) n:=by
 have key:∀ n:Nat,(List.range n).foldl (fun _ j=>j+1) 0=n:=by
  intro n;cases n with
  | zero=>rfl
  | succ n=>rw [List.range_succ,List.foldl_append];rfl
 have e:pre.foldl (fun _ x=>x.2+1) 0=(pre.map (·.2)).foldl (fun _ j=>j+1) 0:=by rw [List.foldl_map]
 unfold lstR;rw [e,h,key]
def lastJ (s:List (Value × Nat)):Nat:=(s.map (·.2)).getLast?.getD 0
theorem Z4l (pre:List (Value × Nat)) (v:Value) (j:Nat):lastJ (pre++[(v,j)])=j:=by simp [lastJ]
theorem Z31 {f:Nat→Bool} {s s0:List (Value × Nat)} {x:Value × Nat} {n j:Nat} (h:s.map (·.2)=List.range j) (hj:j≤n) (e:s=s0++[x]) (h0:∀ y ∈ s0,f y.2=false) (hx:f x.2=true):lastJ s<n∧f (lastJ s)=true∧∀ i,i<lastJ s→f i=false:=by
 obtain⟨v,u⟩:=x;subst e;rw [Z4l];rw [List.map_append] at h;have hlen:s0.length+1=j:=by have:=congrArg List.length h;simpa using this
 subst hlen;rw [List.range_succ] at h;obtain⟨e1,e2⟩:=List.append_inj h (by simp)
 simp only [List.map_cons,List.map_nil,List.cons.injEq,and_true] at e2;subst e2;refine⟨by omega,hx,fun i hi=>?_⟩
 have:i ∈ s0.map (·.2):=by rw [e1];exact List.mem_range.2 hi
 obtain⟨y,hy,rfl⟩:=List.mem_map.1 this;exact h0 y hy
theorem Z69 {f:Nat→Bool} {s:List (Value × Nat)} {n:Nat} (h:s.map (·.2)=List.range n) (h0:∀ y ∈ s,f y.2=false):∀ i,i<n→f i=false:=by
 intro i hi;have:i ∈ s.map (·.2):=by rw [h];exact List.mem_range.2 hi
 obtain⟨y,hy,rfl⟩:=List.mem_map.1 this;exact h0 y hy
attribute [local go_sem] Oper.semAt_some
theorem Z45 (m:Msn) (l:List Int) (vw vh vr vb va:Value) (w:World) (T:StgAt w.heap.size w m l vw vh vr vb va) (V:VMsn m) (k:Nat) (hk:k+1<m.ways.length) :
  Calls Tryz.prog 61 #[.agg (stgC m vw vh vr vb va k)] w (PtsQ (hmP m l k) w):=by
 have n41:=V.n41;have hr:0≤hmR m l k∧hmR m l k≤100000:=bk_bd V l hk (Nat.le_refl _);obtain⟨e1,e2,-⟩:=Z7w V hr;have f1:=fun w1=>Z2x (hmR m l k) w1
 have f2:=fun v w1 h=>Z0s v (dskL (hmR m l k)) ⟨(wy m.ways 0).x,(wy m.ways 0).y⟩ w1 h
 have fs:=fun (W0:World) (Bs:Nat) (q:Nat→Prop) (B:Below w.heap.size w W0) (HB:Has W0 Bs (stgC m vw vh vr vb va k) 67) (hq:∀ b,q b→b<W0.heap.size∧b≠Bs)=>Z3V m l vw vh vr vb va k w.heap.size q Bs W0 (T.low B) V hk B.size HB hq
 have hL0:lstR m l k []=rdB m l (k+1):=rfl;have hLa:=fun pre v j=>Z90 m l k pre v j
 have hLe:∀ xs:List (Value × Nat),xs.map (·.2)=List.range (dep m (k+1))→lstR m l k xs=hmR m l k:=fun xs h=>Z91 h
 have hbX:∀ v j,bkX m l k (v,j)=#[v,.int .i64 (bkR m (k+1) (rdB m l (k+1)) (j+1))]:=fun _ _=>rfl
 unfold hmP PtsQ;unfold atW at *;rw [e1] at f1;rw [e2] at f2
 try simp only at f2
 generalize shL (dskL (hmR m l k)) ⟨(wy m.ways 0).x,(wy m.ways 0).y⟩=sl at *;generalize dskL (hmR m l k)=dl at *;generalize hmR m l k=hr9 at *;have h0:0<m.ways.length:=by omega
 obtain⟨bb,ob,cb,rfl,hbb,hcb⟩:=ZH T.bef (by rw [ZD];omega)
 simp only [ZD] at *;have xb:=(hcb (k+1) hk).trans (by rw [Z10 hk])
 obtain⟨-,aa,ca,rfl,-⟩:=T.aft;obtain⟨⟨-,a1,c1,rfl,hcw⟩,⟨-,a2,c2,rfl,-⟩,⟨-,a3,c3,rfl,hcr⟩⟩:=T.msn;obtain⟨bw,ow,rfl,hbw,hcw⟩:=hcw.resolve_left (by intro h;rw [h] at hk;simp at hk)
 obtain⟨x1,x2,-⟩:=hcw 0 h0;rw [Nat.zero_mul,Nat.add_zero] at x1 x2;clear T hcw hcr hcb V e1 e2 hr;generalize (wy m.ways 0).x=px at *;generalize (wy m.ways 0).y=py at *;unfold stgC at *;replace f1:=Lib.hid f1;replace f2:=Lib.hid f2;replace fs:=Lib.hid fs;replace hL0:=Lib.hid hL0;replace hLa:=Lib.hid hLa;replace hLe:=Lib.hid hLe;replace hbX:=Lib.hid hbX;obtain⟨K,hK⟩:∃ K,k+1=K:=⟨_,rfl⟩;have jw:IntKind.i64.wrap ((k:Int)+1)=(K:Int):=by rw [← hK];exact zW2
 simp only [hK] at *;have hK':(K:Int)<m.ways.length:=by omega
 have hK0:(0:Int)≤K:=by omega
 have h0':(0:Int)<m.ways.length:=by omega
 have BW:=Lib.hid (Below.refl w.heap.size w);refine (callsIn_wide (n:=9)).1 ?_;refine callsIn_of_wp_marks Tryz.func61 rfl trivial ?_ rfl;simp only [Tryz.ntmps61,List.size_toArray,List.length_cons,List.length_nil,Nat.reduceAdd,Nat.reduceSub,Array.replicate_succ,Array.replicate_zero,List.push_toArray,List.append_toArray,List.nil_append,List.cons_append];refine wpIn_wide.2 ?_;go_upto_region 1 with fail
 generalize hXX0:World.alloc w _=X0;obtain⟨q0,hA,hzX0⟩:=box1 hXX0;clear hXX0;have BW:=Lib.hid hA;clear hA;have SB:=Lib.hid q0;clear q0;have hBX0:=Lib.hid BW.out;replace xb:=(BW.out.cell (p:=⟨bb,ob+K,none⟩) hbb).trans xb;have s11:=SB.out.cell (i:=11) rfl;have s13:=SB.out.cell (i:=13) rfl;have HZ0:=Lib.hid hzX0;clear hzX0;go_upto_region 2 with fail
 generalize hXX1:World.alloc X0 _=X1;obtain⟨q0,hA,hzX1⟩:=box1 hXX1;clear hXX1;replace BW:=zAg BW hA;have B_X0:=Lib.hid hA;clear hA;have LB:=Lib.hid q0;clear q0;have HZ1:=Lib.hid hzX1;clear hzX1 s11 s13 xb;have HS1:=(zCn SB B_X0);obtain⟨s0,s1,s2,s3,s4,s5,s6,s7,s8,s9,s10,s11,s12,s13⟩:=ZF (m:=m) (k:=k) HS1;clear HS1;go_wp2_with fail;refine (Z2o m _ _ _ _ _ k X1).mono ?_;rintro e W0 ⟨rfl,hW0⟩;obtain⟨BB,hA0,hz0⟩:=box1 hW0.symm;clear hW0 s0 s1 s2 s3 s4 s5 s6 s7 s8 s9 s10 s11 s12 s13;have zz0:w.heap.size<X0.heap.size:=by have:=HZ0.out;omega
 have zz1:X0.heap.size<X1.heap.size:=by have:=HZ1.out;omega
 have zz2:X1.heap.size<W0.heap.size:=by omega
 clear hz0;have BX0:=zAg B_X0 hA0;have BW0:=zAg BW hA0;have LB0:=Lib.hid (LB.out.below hA0 LB.out.lt);have hseq:=fs.out W0 X1.heap.size (fun b=>b=X0.heap.size) BW0.out BB (fun b hb=>by have hb':b=X0.heap.size:=hb;omega)
 clear hA0 BB;go_wp2;refine (wpIn_wide (n:=9)).1 ?_;refine Z1b (by omega) (gf:=109) (lb:=#[.pointer (some ⟨X1.heap.size,0,none⟩)]) rfl (enters_of Tryz.func109 (by kernel_rfl) rfl) hseq bkH.put (fun h k=>bkK.trans h k) (fun W o o' h1 h2=>bkK.put W o o' (by omega) h1 h2) (Below.refl _ _) (fun _=>rfl)
  (fun pre W=>Has W X0.heap.size #[.int .i64 (lstR m l k pre)] 3∧Below X0.heap.size X0 W)
  (fun c s W=>False)
  (OwnD.and (OwnD.has X0.heap.size (fun _ h=>h) (fun pre=>#[.int .i64 (lstR m l k pre)]) 3) (OwnD.below X0 (Nat.le_refl _) (by omega) (fun _ _ h=>h.elim))) (fun c=>OwnD.pure (fun _=>False)) ⟨by rw [hL0.out];exact LB0.out,BX0.out⟩ ?round ?done ?stop
 case round =>
  rintro ll rm pre ⟨v,j⟩ W hll hI0 hx hsz;obtain⟨a9,c9,hv9⟩:=hx.1.len;simp only at hv9;subst hv9;rw [hbX.out];clear hseq;gi_wp2;refine⟨trivial,?_⟩;rintro V9 ⟨r9,hr9'⟩ ⟨hI1,hI2⟩ hx9 hz9;have y0:=hI1.cell (i:=0) rfl;have y1:=Ze hI1 0;have HI:=Lib.hid (And.intro hI1 hI2);have hz8:=hI2.size;clear hI0 hx hI1 hI2 hx9 hr9';have HL:=Lib.hid hll;clear hll;gi_wp2;have hO1:=HI.out.1.set 0 (.int .i64 (bkR m K (rdB m l K) (j+1)));simp only [zq4,zr4,zs4] at hO1;refine⟨KeepsFrom.of_grownBy (ZJ V9 X0.heap.size 0 _) (fun j e=>by cases e;omega),bkK.set V9 X0.heap.size 0 _ (by omega) (by omega) rfl,(by rw [hLa.out];exact hO1),grown_low' HI.out.2 (ZJ V9 X0.heap.size 0 _) (Nat.le_refl _) (Nat.le_refl _)⟩
 case stop=>exact fun _ _ _ _ _ _ hf _=>hf.elim
 case done =>
  rintro D xs W5 hD hxs ⟨hI1,hI2⟩ hK;rw [hLe.out xs hxs] at hI1;have y0:=hI1.cell (i:=0) rfl;have HI:=Lib.hid hI2;have HK:=Lib.hid hK;clear hI1 hI2 hK hseq;go_wp2_with fail;refine (f1.out W5).mono ?_;rintro e w6 ⟨v1,rfl,p1,b1⟩;have P1:=Lib.hid p1;clear p1 y0;obtain⟨g1,k1,hv1⟩:=P1.out.len;subst hv1;have HI6:=zAg HI b1;have HK6:=Lib.hid ((b1.block D (Array.getElem?_eq_some_iff.1 HK.out).1).trans HK.out);clear HK b1;have hSB:=SB.out.below HI6.out SB.out.lt;have s0:=hSB.cell (i:=0) rfl;have t1:=((hBX0.out.trans (HI6.out.mono hBX0.out.size)).cell (p:=⟨bw,ow,none⟩) hbw).trans x1;have t2:=((hBX0.out.trans (HI6.out.mono hBX0.out.size)).cell (p:=⟨bw,ow+1,none⟩) hbw).trans x2;go_wp2_with fail;refine (f2.out _ w6 P1.out).mono ?_;rintro e w7 ⟨v2,rfl,p2,b2⟩;obtain⟨g2,k2,hv2⟩:=p2.len;subst hv2;have hK7:=(b2.block D (Array.getElem?_eq_some_iff.1 HK6.out).1).trans HK6.out;have HF:=Lib.hid (And.intro (p2.put (.deferred none) hK7 rfl) (HI6.out.trans (b2.mono HI6.out.size)));have HK7:=Lib.hid hK7;clear hK7 p2 b2 s0 t1 t2;go_wp2;refine⟨by simp,.inl ⟨_,_,rfl,run_takeDeferred HK7.out,?_⟩⟩
  exact⟨_,by simp [results,Tryz.f61,go_sem],_,rfl,HF.out.1,Z0U (hBX0.out.trans (HF.out.2.mono hBX0.out.size)) (.deferred none) (by omega) (Nat.le_refl _)⟩
noncomputable def outC (m:Msn) (vs:Value) (q1 q2:Int) (p:List Pt):Array Value:=#[vs,.int .i64 q1,.int .i64 q2,.int .i64 (firI p m.rocks),.int .i64 (hitX p (rk m.rocks (firI p m.rocks).toNat)),.int .i64 (hitY p (rk m.rocks (firI p m.rocks).toNat))]
noncomputable def outE (m:Msn) (p:List Pt):Int:=hitE p (rk m.rocks (firI p m.rocks).toNat)
theorem Z3x (m:Msn) (l:List Int) (vw vh vr vb va:Value) (w:World) (T:StgAt w.heap.size w m l vw vh vr vb va) (V:VMsn m) (k:Nat) (hk:k+1<m.ways.length) (Bo:Nat) (vs:Value) (q1 q2 q3 q4 q5:Int) (HO:Has w Bo #[vs,.int .i64 q1,.int .i64 q2,.int .i64 q3,.int .i64 q4,.int .i64 q5] 33) :
  Calls Tryz.prog 27 #[.agg (stgC m vw vh vr vb va k),.pointer (some ⟨Bo,0,none⟩)] w fun e w' =>
   ((∀ j,j<dep m (k+1)→firB (bkP m l k j) m.rocks=false)∧e=.returned (.int .i64 0)∧Below w.heap.size w w') ∨
   (∃ j,j<dep m (k+1)∧(∀ i,i<j→firB (bkP m l k i) m.rocks=false)∧firB (bkP m l k j) m.rocks=true∧e=.returned (.int .i64 (outE m (bkP m l k j)))∧Has w' Bo (outC m vs q1 q2 (bkP m l k j)) 33∧w.grownBy w' (some Bo)):=by
 have lo:=HO.lt;have fs:=fun (W0:World) (Bs:Nat) (q:Nat→Prop) (B:Below w.heap.size w W0) (HB:Has W0 Bs (stgC m vw vh vr vb va k) 67) (hq:∀ b,q b→b<W0.heap.size∧b≠Bs)=>Z3V m l vw vh vr vb va k w.heap.size q Bs W0 (T.low B) V hk B.size HB hq
 have fn:=fun (W:World) (B:Below w.heap.size w W) vp p hp (hf:firB p m.rocks=false)=>Z9M m l vw vh vr vb va W (T.up B) k vp p hp Bo vs q1 q2 q3 q4 q5 (HO.below B lo) hf
 have fy:∀ (W:World) (B:Below w.heap.size w W) vp p (hp:Z8 W.heap.size W vp p) (hf:firB p m.rocks=true),Calls Tryz.prog 58 #[.agg (stgC m vw vh vr vb va k),vp,.pointer (some ⟨Bo,0,none⟩)] W fun e w'=>e=.returned (.tuple #[.bool true,.int .i64 (outE m p)])∧Has w' Bo (outC m vs q1 q2 p) 33∧W.grownBy w' (some Bo) :=
  fun (W:World) (B:Below w.heap.size w W) vp p hp (hf:firB p m.rocks=true)=>Z5K m l vw vh vr vb va W (T.up B) k vp p hp Bo vs q1 q2 q3 q4 q5 (HO.below B lo) hf
 have hbX:∀ v j,bkX m l k (v,j)=#[v,.int .i64 (bkR m (k+1) (rdB m l (k+1)) (j+1))]:=fun _ _=>rfl
 have hla:=fun pre v j=>Z4l pre v j
 obtain⟨-,ab,cb,rfl,-⟩:=T.bef;obtain⟨-,aa,ca,rfl,-⟩:=T.aft;obtain⟨⟨-,a1,c1,rfl,hcw⟩,⟨-,a2,c2,rfl,-⟩,⟨-,a3,c3,rfl,hcr⟩⟩:=T.msn;clear T hcw hcr V;unfold stgC at *;generalize outC m vs q1 q2=oc at *;generalize outE m=oe at *;obtain⟨f,hf⟩:∃ f:Nat→Bool,(fun j=>firB (bkP m l k j) m.rocks)=f:=⟨_,rfl⟩
 have hff:∀ j,firB (bkP m l k j) m.rocks=f j:=fun j=>by rw [← hf]
 simp only [hff];clear hf;replace fn:=Lib.hid fn;replace fy:=Lib.hid fy;replace fs:=Lib.hid fs;replace hbX:=Lib.hid hbX;replace hla:=Lib.hid hla;replace hff:=Lib.hid hff;have HOh:=Lib.hid HO;clear HO;have BW:=Lib.hid (Below.refl w.heap.size w);refine (callsIn_wide (n:=9)).1 ?_;refine callsIn_of_wp_marks Tryz.func27 rfl trivial ?_ rfl;simp only [Tryz.ntmps27,List.size_toArray,List.length_cons,List.length_nil,Nat.reduceAdd,Nat.reduceSub,Array.replicate_succ,Array.replicate_zero,List.push_toArray,List.append_toArray,List.nil_append,List.cons_append];refine wpIn_wide.2 ?_;go_upto_region 1 with fail
 generalize hXX0:World.alloc (World.alloc (World.alloc w _) _) _=X0;obtain⟨q0,q1,q2,hA,hzX0⟩:=box3 hXX0;clear hXX0;have BW:=Lib.hid hA;clear hA;have SB:=Lib.hid q0;clear q0;have OB:=Lib.hid q1;clear q1;have RB:=Lib.hid q2;clear q2;have hS1:=SB.out;obtain⟨s0,s1,s2,s3,s4,s5,s6,s7,s8,s9,s10,s11,s12,s13⟩:=ZF (m:=m) (k:=k) hS1;clear hS1;have HZ0:=Lib.hid hzX0;clear hzX0;go_wp2_with fail;refine (Z2o m _ _ _ _ _ k X0).mono ?_;rintro e W0 ⟨rfl,hW0⟩;obtain⟨BB,hA0,hz0⟩:=box1 hW0.symm;clear hW0 s0 s1 s2 s3 s4 s5 s6 s7 s8 s9 s10 s11 s12 s13;have zz0:w.heap.size+3=X0.heap.size:=HZ0.out.symm;have zz2:X0.heap.size<W0.heap.size:=by omega
 have zz3:w.heap.size+3≤X0.heap.size:=by omega
 clear hz0;have BW0:=zAg BW hA0;have SB0:=Lib.hid (SB.out.below hA0 (by omega))
 have OB0:=Lib.hid (OB.out.below hA0 (by omega))
 have RB0:=Lib.hid (RB.out.below hA0 (by omega))
 clear zz0;have hseq:=fs.out W0 X0.heap.size (fun _=>False) BW0.out BB (fun b hb=>hb.elim)
 clear hA0 BB;go_wp2;refine (wpIn_wide (n:=9)).1 ?_;refine Z1b (by omega) (gf:=109) (lb:=#[.pointer (some ⟨X0.heap.size,0,none⟩)]) rfl (enters_of Tryz.func109 (by kernel_rfl) rfl) hseq bkH.put (fun h k=>bkK.trans h k) (fun W o o' h1 h2=>bkK.put W o o' (by omega) h1 h2) (Below.refl _ _) (fun _=>rfl)
  (fun pre W=>(∀ y:Value × Nat,y ∈ pre→f y.2=false)∧Below W0.heap.size W0 W)
  (fun c s W=>(c=.ret∧∃ (s0:List (Value × Nat)) (x:Value × Nat),s=s0++[x]∧(∀ y:Value × Nat,y ∈ s0→f y.2=false)∧f x.2=true)∧Has W (w.heap.size+1+1) #[.int .i64 (oe (bkP m l k (lastJ s)))] 34∧Has W Bo (oc (bkP m l k (lastJ s))) 33∧w.grownBy W (some Bo))
  (OwnD.and (OwnD.pure (fun pre=>∀ y:Value × Nat,y ∈ pre→f y.2=false)) (OwnD.below W0 (Nat.le_refl _) (Nat.le_refl _) (fun _ _ h=>h.elim))) (fun c=>OwnD.and (OwnD.pure (fun s=>c=.ret∧∃ (s0:List (Value × Nat)) (x:Value × Nat),s=s0++[x]∧(∀ y:Value × Nat,y ∈ s0→f y.2=false)∧f x.2=true)) (OwnD.and (OwnD.has (w.heap.size+1+1) (fun _ h=>h) (fun s=>#[.int .i64 (oe (bkP m l k (lastJ s)))]) 34) (OwnD.and (OwnD.has Bo (fun _ h=>h) (fun s=>oc (bkP m l k (lastJ s))) 33) (OwnD.grownTo w (some Bo) (by omega))))) ⟨(fun y hy=>by cases hy),Below.refl _ _⟩ ?round ?done ?stop
 case round =>
  rintro ll rm pre ⟨v,j⟩ W hll hI0 hx hsz;obtain⟨a9,c9,hv9⟩:=hx.1.len;simp only at hv9;subst hv9;rw [hbX.out];clear hseq;gi_wp2;refine⟨trivial,?_⟩;rintro V9 ⟨r9,hr9'⟩ ⟨hI1,hI2⟩ hx9 hz9;have HP:=Lib.hid hx9.1;have HI:=Lib.hid (And.intro hI1 hI2);have hz8:=hI2.size;have BV:=zAg BW0 hI2;have hS9:=SB0.out.below hI2 (by omega)
  have hO9:=OB0.out.below hI2 (by omega)
  have hR9:=RB0.out.below hI2 (by omega)
  obtain⟨s0,s1,s2,s3,s4,s5,s6,s7,s8,s9,s10,s11,s12,s13⟩:=ZF (m:=m) (k:=k) hS9;have o0:=hO9.cell (i:=0) rfl;have HR9:=Lib.hid hR9;clear hI0 hx hI1 hI2 hx9 hr9' hS9 hO9 hR9;have HL:=Lib.hid hll;clear hll;cases hfj:f j
  ·have g4:=Lib.hid (fn.out V9 BV.out _ _ HP.out (by rw [hff.out];exact hfj))
   have HJ:=Lib.hid hfj;clear hfj
   gi_wp2_with fail
   refine⟨trivial,(fun h=>by cases h),(CallsIn.inRound ll (callsIn_wide.2 g4.out)).mono ?_⟩
   rintro e W4 ⟨rfl,b4⟩;have B4:=Lib.hid b4;clear b4 s0 s1 s2 s3 s4 s5 s6 s7 s8 s9 s10 s11 s12 s13 o0 g4;gi_wp2;refine⟨Z2z B4.out,bkK.low B4.out (by omega),?_,HI.out.2.trans (B4.out.mono HI.out.2.size)⟩
   intro y hy;rcases List.mem_append.1 hy with h | h
   ·exact HI.out.1 y h
   ·rw [List.mem_singleton.1 h];exact HJ.out
  ·have g4:=Lib.hid (fy.out V9 BV.out _ _ HP.out (by rw [hff.out];exact hfj))
   have HJ:=Lib.hid hfj;clear hfj
   gi_wp2_with fail
   refine⟨trivial,(fun h=>by cases h),(CallsIn.inRound ll (callsIn_wide.2 g4.out)).mono ?_⟩
   rintro e W4 ⟨rfl,h4,n4⟩;have hR4:Has W4 (w.heap.size+1+1) #[.int .i64 0] 34:=(n4.block _ (by omega) (fun e=>by cases e;omega)).trans HR9.out
   have r0:=hR4.cell (i:=0) rfl;have r1:=Ze hR4 0;have H4:=Lib.hid (And.intro h4 (And.intro n4 hR4));clear h4 n4 hR4 s0 s1 s2 s3 s4 s5 s6 s7 s8 s9 s10 s11 s12 s13 o0 g4;have z4:=H4.out.2.1.size;gi_wp2;have hO1:=H4.out.2.2.set 0 (.int .i64 (oe (bkP m l k j)));simp only [zq4,zr4,zs4] at hO1;refine⟨(KeepsFrom.of_grownBy H4.out.2.1 (fun j e=>by cases e;omega)).trans (KeepsFrom.of_grownBy (ZJ W4 (w.heap.size+1+1) 0 _) (fun j e=>by cases e;omega)),⟨rfl,pre,_,rfl,HI.out.1,HJ.out⟩,?_,?_,?_⟩
   ·rw [hla.out];exact hO1
   ·rw [hla.out];exact (Below.heap_setCell W4 ⟨(w.heap.size+1+1),0,none⟩ _ Bo (by show Bo≠(w.heap.size+1+1);omega)).trans H4.out.1
   ·exact Z3N (Z62 BV.out H4.out.2.1) (Z4y (ZJ W4 (w.heap.size+1+1) 0 _) (by omega) (by omega))
 case stop =>
  rintro D c s W5 hD ⟨j,hj,hs⟩ ⟨⟨rfl,s0,x,hs0,ha,hx⟩,hI1,hI2,hI3⟩ hK;obtain⟨p1,p2,p3⟩:=Z31 hs hj hs0 ha hx;have y1:=(hI1.putO (.deferred none) hK rfl).cell (i:=0) rfl;have HF:=Lib.hid (And.intro (hI2.putO (.deferred none) hK rfl) (And.intro (show w.grownBy (W5.putObj D (.deferred none)) (some Bo) from Z3N hI3 (Z0U (Below.refl w.heap.size W5) _ (by omega) hI3.size)) (And.intro p1 (And.intro p2 p3))))
  have HK:=Lib.hid hK;have HY:=Lib.hid y1;clear hI1 hI2 hI3 hK hseq hs hs0 ha hx p1 p2 p3 y1;refine wpIn_wide.2 ?_;go_wp2;refine⟨by simp,.inl ⟨_,_,rfl,run_takeDeferred HK.out,?_⟩⟩
  exact⟨.int .i64 (oe (bkP m l k (lastJ s))),by simp [results,Tryz.f27,go_sem,HY.out],.inr ⟨lastJ s,HF.out.2.2.1,HF.out.2.2.2.2,HF.out.2.2.2.1,rfl,HF.out.1,HF.out.2.1⟩⟩
 case done =>
  rintro D xs W5 hD hxs ⟨hI1,hI2⟩ hK;have AL:=Lib.hid (Z69 hxs hI1);have hR:=RB0.out.below hI2 (by omega)
  have y0:=hR.cell (i:=0) rfl;have y1:=Ze hR 0;have hz5:=hI2.size;have HI:=Lib.hid (And.intro hI2 (And.intro hR hK));clear hI1 hI2 hK hseq hxs hR;go_wp2;have hO1:=HI.out.2.1.set 0 (.int .i64 0);simp only [zq4,zr4,zs4] at hO1;have hK2:(W5.setCell ⟨(w.heap.size+1+1),0,none⟩ (.int .i64 0)).heap[D]?=some (.deferred (some [])):=(Below.heap_setCell W5 ⟨(w.heap.size+1+1),0,none⟩ _ D (by show D≠(w.heap.size+1+1);omega)).trans HI.out.2.2
  have y2:=(hO1.putO (.deferred none) hK2 rfl).cell (i:=0) rfl;refine⟨by simp,.inl ⟨_,_,rfl,run_takeDeferred hK2,?_⟩⟩
  exact⟨.int .i64 0,by simp [results,Tryz.f27,go_sem,y2],.inl ⟨AL.out,rfl,Z0U (BW0.out.trans (grown_low' (HI.out.1.mono BW0.out.size) (ZJ W5 (w.heap.size+1+1) 0 _) (by omega) BW0.out.size)) (.deferred none) (by omega) (Nat.le_refl _)⟩⟩
end
end Go.Proofs.YtdolkgihppgpcaaGreat
