/- package plan: farthest: what its rounds keep. | package scene: open, own, back, has, hit. -/
import Derived.Test.YtdolkgihppgpcaaGreatBin21
import Derived.Test.YtdolkgihppgpcaaGreatBin28
set_option linter.unusedSimpArgs false
set_option linter.unusedVariables false
set_option maxRecDepth 8000
set_option maxHeartbeats 3200000
namespace Go.Proofs.YtdolkgihppgpcaaGreat
section
open Go.RowKit
noncomputable def bestP (m:Msn):Int × List Int:=farL (kpL m) (allTo (fixL m) ((fixL m).length+1))
theorem Z2P (l:List Int) {k:Nat}:∀ {n:Nat},k<n→∃ R,allTo l n=allTo l k++(combos l k++R)
 | n + 1, h => by
  rcases Nat.lt_succ_iff_lt_or_eq.1 h with h | h
  ·obtain⟨R,hR⟩:=Z2P l h
   exact⟨R++combos l n,by rw [Z18,hR];simp⟩
  ·subst h
   exact⟨[],by rw [Z18];simp⟩
theorem Z8u (m:Msn) {k:Nat} {pre u:List (List Int)} {n1:Int} (ht:∀ l,kpL m l≤n1) (hu:pre++u=combos (fixL m) k) (hk:k<(fixL m).length+1)
  (htp:(pre.foldl (farS (kpL m)) ((allTo (fixL m) k).foldl (farS (kpL m)) (-1,[]))).1=n1):pre.foldl (farS (kpL m)) ((allTo (fixL m) k).foldl (farS (kpL m)) (-1,[]))=bestP m:=by
 obtain⟨R,hR⟩:=Z2P (fixL m) hk;unfold bestP farL;rw [hR,← hu,List.foldl_append,List.foldl_append,List.foldl_append,Z84 (kpL m) ht htp u,Z84 (kpL m) ht htp R]
theorem Boxed.store {W:World} {B:Nat} {t:TypeId} {v:Value} (h:Boxed W B t v):W.setCell ⟨B,0,none⟩ v=W:=by
 have hlt:=h.lt;have hv:W.heap[B]=.cells #[v] t (0,0):=(Array.getElem?_eq_some_iff.1 h).2;unfold World.setCell;cases W with
 | mk heap tape drawn os output =>
  congr 1
  apply Array.ext
  ·simp
  ·intro k h1 h2
   simp only [Array.getElem_modify]
   split
   ·rename_i hk;subst hk;simp at hv;simp [hv]
   ·rfl
structure FarI (BL BS BE:Nat) (w w2:World) (st:Int × List Int) (ds:List Nat) (v:Value) (W:World):Prop where
 leg:Boxed W BL 3 (.int .i64 st.1)
 sto:Boxed W BS 27 v
 err:Boxed W BE 34 (.int .i64 0)
 val:Z9 W.heap.size W v st.2
 low:Below w.heap.size w W
 kee:KeepsP (fun b=>b<w2.heap.size∧b≠BL∧b≠BS∧b≠BE) w2 W
 mar:∀ D,D ∈ ds→w2.heap.size≤D∧W.heap[D]?=some (.deferred (some []))
 nod:ds.Nodup
 new:∀ r,v.ownBlock=some r→w2.heap.size≤r∧r<W.heap.size
structure FarB (BL BS BE:Nat) (w w2:World):Prop where
 l:BL<w2.heap.size∧w.heap.size≤BL
 s:BS<w2.heap.size∧w.heap.size≤BS
 e:BE<w2.heap.size∧w.heap.size≤BE
 ls:BL≠BS
 le:BL≠BE
 se:BS≠BE
 w:w.heap.size≤w2.heap.size
section
variable {BL BS BE:Nat} {w w2:World} {st:Int × List Int} {ds:List Nat} {v:Value} {W X:World}
theorem Z9.offG {l : List Int} {row : Option Nat} (h : Z9 W.heap.size W v l) (hg : W.grownBy X row) (hne : ∀ r, row = some r → l = [] ∨ v.ownBlock ≠ some r) : Z9 X.heap.size X v l := by
 obtain⟨hl,a,cap,e,hc⟩:=h;refine⟨hl,a,cap,e,?_⟩;rcases hc with hc | ⟨b,o,e1,hb,hc⟩
 ·exact .inl hc
 ·by_cases hl0:l=[]
  ·exact .inl hl0
  ·refine .inr ⟨b,o,e1,Nat.lt_of_lt_of_le hb hg.size,fun j hj=>?_⟩
   have hbn:some b≠row:=fun er=>by
    rcases hne b er.symm with h | h
    ·exact hl0 h
    ·exact h (by rw [e,e1];rfl)
   exact (World.cell?_of_block (hg.block b hb hbn)).trans (hc j hj)
theorem FarI.off (hB:FarB BL BS BE w w2) (h:FarI BL BS BE w w2 st ds v W) {row:Option Nat} (hg:W.grownBy X row) (hne:∀ r,row=some r→w2.heap.size≤r∧r ∉ ds∧(st.2=[]∨v.ownBlock≠some r)):FarI BL BS BE w w2 st ds v X:=by
 have hlt:∀ b,b<w2.heap.size→some b≠row:=fun b hb e=>by have:=(hne b e.symm).1;omega
 have hk:=h.kee.1;refine⟨h.leg.kept hg (hlt _ hB.l.1),h.sto.kept hg (hlt _ hB.s.1),h.err.kept hg (hlt _ hB.e.1),h.val.offG hg (fun r e=>(hne r e).2.2),h.low.grown hg (by have:=hB.w;omega) (fun k e=>by have:=(hne k e).1;have:=hB.w;omega),⟨Nat.le_trans hk hg.size,fun b hb=>(hg.block b (by omega) (hlt b hb.1)).trans (h.kee.2 b hb)⟩,fun D hD=>⟨(h.mar D hD).1,?_⟩,h.nod,fun r e=>⟨(h.new r e).1,Nat.lt_of_lt_of_le (h.new r e).2 hg.size⟩⟩
 have m:=(h.mar D hD).2;exact (hg.block D (Array.getElem?_eq_some_iff.1 m).1 (fun e=>(hne D e.symm).2.1 hD)).trans m
theorem FarI.below (hB:FarB BL BS BE w w2) (h:FarI BL BS BE w w2 st ds v W) (k:Below W.heap.size W X):FarI BL BS BE w w2 st ds v X :=
 h.off hB (row:=none) ⟨k.os,k.tape,k.output,k.size,fun b hb _=>k.block b hb⟩ (fun r e=>by cases e)
theorem FarI.upd (hB:FarB BL BS BE w w2) (h:FarI BL BS BE w w2 st ds v W) {st':Int × List Int} {v':Value} (hv:Z9 W.heap.size W v' st'.2) (hn:∀ r,v'.ownBlock=some r→w2.heap.size≤r∧r<W.heap.size) :
  FarI BL BS BE w w2 st' ds v' ((W.setCell ⟨BL,0,none⟩ (.int .i64 st'.1)).setCell ⟨BS,0,none⟩ v'):=by
 obtain⟨hl,hs,he,n1,n2,n3,hw⟩:=hB;have hoff:∀ (b:Nat) (u:Value),b<w2.heap.size→∀ {Y:World} {l:List Int} {vv:Value},(∀ r,vv.ownBlock=some r→w2.heap.size≤r)→Z9 Y.heap.size Y vv l→Z9 (Y.setCell ⟨b,0,none⟩ u).heap.size (Y.setCell ⟨b,0,none⟩ u) vv l:=fun b u hb Y l vv hnn hI =>
  hI.offG (grownBy_setCell' Y b u) (fun r e=>.inr fun e2=>by cases e;have:=hnn b e2;omega)
 refine⟨((h.leg.set _).other n1 _),(h.sto.other n1.symm _).set _,(h.err.other n2.symm _).other n3.symm _,hoff _ _ hs.1 (fun r e=>(hn r e).1) (hoff _ _ hl.1 (fun r e=>(hn r e).1) hv),(h.low.setCell (p:=⟨BL,0,none⟩) hl.2 _).setCell (p:=⟨BS,0,none⟩) hs.2 _,⟨by simpa using h.kee.1,fun b hb=>?_⟩,fun D hD=>⟨(h.mar D hD).1,?_⟩,h.nod,fun r e=>by simpa using hn r e⟩
 ·rw [Below.heap_setCell _ _ _ b hb.2.2.1,Below.heap_setCell _ _ _ b hb.2.1];exact h.kee.2 b hb
 ·have:=(h.mar D hD).1
  rw [Below.heap_setCell _ _ _ D (by simp only;omega),Below.heap_setCell _ _ _ D (by simp only;omega)];exact (h.mar D hD).2
theorem FarI.keeps (hB:FarB BL BS BE w w2) (h:FarI BL BS BE w w2 st ds v W) (hz:W.heap.size≤X.heap.size) (hk:∀ b,b<W.heap.size→b≠BL→b≠BS→b≠BE→X.heap[b]?=W.heap[b]?) (B B2:Nat) (hB2:w2.heap.size≤B2) (q:Nat→Prop) (hq:∀ b,q b→b<W.heap.size∧b≠BL∧b≠BS∧b≠BE):KeepsFrom B W X∧chK q B2 W X:=by
 obtain⟨hl,hs,he,-⟩:=hB;refine⟨⟨hz,fun k o _ hko ho=>?_⟩,hz,fun b hb=>?_⟩
 ·have hlt:=(Array.getElem?_eq_some_iff.1 hko).1
  have n1:k≠BL:=fun e=>by subst e;rw [show W.heap[k]?=_ from h.leg] at hko;cases hko;cases ho
  have n2:k≠BS:=fun e=>by subst e;rw [show W.heap[k]?=_ from h.sto] at hko;cases hko;cases ho
  have n3:k≠BE:=fun e=>by subst e;rw [show W.heap[k]?=_ from h.err] at hko;cases hko;cases ho
  exact (hk k hlt n1 n2 n3).trans hko
 ·rcases hb with hb | hb
  ·have:=hq b hb;exact hk b this.1 this.2.1 this.2.2.1 this.2.2.2
  ·exact hk b hb.2 (by omega) (by omega) (by omega)
theorem FarI.own (hB : FarB BL BS BE w w2) {B : Nat} (hBz : w2.heap.size ≤ B) (F : List (Value × List Int) → Int × List Int) (hds : ∀ D ∈ ds, D < B) (p : List (Value × List Int) → Prop) :
  OwnD chOwn B (fun s W=>p s∧∃ v,FarI BL BS BE w w2 (F s) ds v W∧∀ r,v.ownBlock=some r→r<B∨∃ x,x ∈ s∧x.1.ownBlock=some r):=by
 rintro s W X row ⟨hp,v,h,hv⟩ hg hr;refine⟨hp,v,h.off hB hg fun r e=>?_,hv⟩
 obtain⟨o,ho,hc⟩:=hr r e;have hge:B≤r:=by
  rcases hc with⟨_,hc⟩ | ⟨_,hc⟩
  ·have:=hc.1;omega
  ·exact hc
 refine⟨by omega,fun hD=>by have:=hds r hD;omega,?_⟩
 by_cases hl:(F s).2=[]
 ·exact .inl hl
 ·refine .inr fun ev=>?_
  rcases hv r ev with h1 | ⟨x,hx,h1⟩
  ·omega
  ·rcases hc with⟨_,hc⟩ | ⟨hc,_⟩
   ·exact hc.2 x hx h1
   ·obtain⟨_,a,cap,e1,hcells⟩:=h.val
    obtain⟨b,o',e2,hb,hcc⟩:=hcells.resolve_left hl;have hbr:b=r:=by rw [e1,e2] at ev;simpa [Value.ownBlock] using ev
    have h0:0<(F s).2.length:=List.length_pos_iff.2 hl;obtain⟨o2,ho2,hoc⟩:=cells_of_cell (hcc 0 h0);rw [show (⟨b,o'+0,none⟩:Addr).block=r from hbr,ho] at ho2
    cases ho2;rw [hc] at hoc;cases hoc
theorem FarI.leave {F:Fence} {n:Nat} {P:Program} {fn:Func} {tmps:Array Value} {R:Ending→World→Prop} (hB:FarB BL BS BE w w2):∀ (ds:List Nat) (W:World),FarI BL BS BE w w2 st ds v W→(∀ W',FarI BL BS BE w w2 st [] v W'→LeavesIn F n P fn tmps R [] .returning W') →
  LeavesInM F n P fn tmps R (ds.map fun D=>{ target:=.collected D,args:=#[] }) .returning W
 | [],W,h,hl=>hl W h
 | D :: ds, W, h, hl => by
  have m:=h.mar D (by simp)
  have nd:=List.nodup_cons.1 h.nod;refine⟨by simp,.inl ⟨D,_,rfl,run_takeDeferred m.2,?_⟩⟩
  refine FarI.leave hB ds _ ?_ hl;have h1:FarI BL BS BE w w2 st ds v W:=⟨h.leg,h.sto,h.err,h.val,h.low,h.kee,fun E hE=>h.mar E (by simp [hE]),nd.2,h.new⟩
  refine h1.off hB (grownBy_putObj' W D _) fun r e=>?_
  cases e;refine⟨m.1,nd.1,?_⟩;by_cases hl:st.2=[]
  ·exact .inl hl
  ·refine .inr fun ev=>?_
   obtain⟨_,a,cap,e1,hcells⟩:=h.val;obtain⟨b,o',e2,hb,hcc⟩:=hcells.resolve_left hl;have hbr:b=D:=by rw [e1,e2] at ev;simpa [Value.ownBlock] using ev
   have h0:0<st.2.length:=List.length_pos_iff.2 hl;obtain⟨o2,ho2,hoc⟩:=cells_of_cell (hcc 0 h0);rw [show (⟨b,o'+0,none⟩:Addr).block=D from hbr,m.2] at ho2
   cases ho2;cases hoc
end
end
section
attribute [local irreducible] wpQuiet
open Go.RowKit
def stgC (m:Msn) (vw vh vr vb va:Value) (k:Nat):Array Value:=#[vw,vh,.int .i64 m.start,vr,.int .i64 m.speed,.int .i64 m.part,.int .i64 m.flow,.int .i64 m.idle,.int .i64 m.drive,.int .i64 m.battery,.int .i64 m.deadline,vb,va,.int .i64 (k:Int)]
structure StgAt (n0:Nat) (W:World) (m:Msn) (l:List Int) (vw vh vr vb va:Value):Prop where
 msn:MsnAt n0 W m vw vh vr
 bef:Z9 n0 W vb (rdBU m l)
 aft:Z9 n0 W va (rdAU m l)
theorem StgAt.up {A B:World} {m:Msn} {l:List Int} {vw vh vr vb va:Value} (h:StgAt A.heap.size A m l vw vh vr vb va) (k:Below A.heap.size A B):StgAt B.heap.size B m l vw vh vr vb va :=
 ⟨(h.msn.below k).mono k.size,(h.bef.below k).mono k.size,(h.aft.below k).mono k.size⟩
theorem ZF {W:World} {B:Nat} {m:Msn} {vw vh vr vb va:Value} {k:Nat} {T:TypeId} (H:Has W B (stgC m vw vh vr vb va k) T):W.cell? ⟨B,0,none⟩=some (vw)∧W.cell? ⟨B,1,none⟩=some (vh)∧W.cell? ⟨B,2,none⟩=some (.int .i64 m.start)∧W.cell? ⟨B,3,none⟩=some (vr)∧W.cell? ⟨B,4,none⟩=some (.int .i64 m.speed)∧W.cell? ⟨B,5,none⟩=some (.int .i64 m.part)∧W.cell? ⟨B,6,none⟩=some (.int .i64 m.flow)∧W.cell? ⟨B,7,none⟩=some (.int .i64 m.idle)∧W.cell? ⟨B,8,none⟩=some (.int .i64 m.drive)∧W.cell? ⟨B,9,none⟩=some (.int .i64 m.battery)∧W.cell? ⟨B,10,none⟩=some (.int .i64 m.deadline)∧W.cell? ⟨B,11,none⟩=some (vb)∧W.cell? ⟨B,12,none⟩=some (va)∧W.cell? ⟨B,13,none⟩=some (.int .i64 (k:Int)) :=
 ⟨H.cell (i:=0) rfl,H.cell (i:=1) rfl,H.cell (i:=2) rfl,H.cell (i:=3) rfl,H.cell (i:=4) rfl,H.cell (i:=5) rfl,H.cell (i:=6) rfl,H.cell (i:=7) rfl,H.cell (i:=8) rfl,H.cell (i:=9) rfl,H.cell (i:=10) rfl,H.cell (i:=11) rfl,H.cell (i:=12) rfl,H.cell (i:=13) rfl⟩
theorem Z62 {A B C:World} {row:Option Nat} (h:Below A.heap.size A B) (k:B.grownBy C row):A.grownBy C row:=⟨k.os.trans h.os,k.tape.trans h.tape,k.output.trans h.output,Nat.le_trans h.size k.size,fun i hi hne=>(k.block i (Nat.lt_of_lt_of_le hi h.size) hne).trans (h.block i hi)⟩
theorem Z1w {A B C:World} {row:Option Nat} (h:A.grownBy B row) (k:B.grownBy C row):A.grownBy C row:=⟨k.os.trans h.os,k.tape.trans h.tape,k.output.trans h.output,Nat.le_trans h.size k.size,fun i hi hne=>(k.block i (Nat.lt_of_lt_of_le hi h.size) hne).trans (h.block i hi hne)⟩
theorem Z3O {A B:World} (h:Below A.heap.size A B) (row:Option Nat):A.grownBy B row:=⟨h.os,h.tape,h.output,h.size,fun i hi _=>h.block i hi⟩
theorem ZJ (W:World) (b i:Nat) (v:Value):W.grownBy (W.setCell ⟨b,i,none⟩ v) (some b):=⟨rfl,rfl,rfl,by simp [World.setCell],fun k _ hk=>Below.heap_setCell _ _ _ k (fun e=>hk (by rw [e]))⟩
theorem Z4y {A B:World} {b n:Nat} (h:A.grownBy B (some b)) (hn:n≤b) (hn2:n≤A.heap.size):Below n A B:=(Below.refl n A).grown h hn2 (fun k e=>by cases e;exact hn)
theorem set14 {X Z:World} {B:Nat} {cs:Array Value} {T:TypeId} {v0 v1 v2 v3 v4 v5 v6 v7 v8 v9 v10 v11 v12 v13:Value} (H:Has X B cs T) (hs:cs.size=14) (hz:((((((((((((((X.setCell ⟨B,0,none⟩ v0).setCell ⟨B,1,none⟩ v1).setCell ⟨B,2,none⟩ v2).setCell ⟨B,3,none⟩ v3).setCell ⟨B,4,none⟩ v4).setCell ⟨B,5,none⟩ v5).setCell ⟨B,6,none⟩ v6).setCell ⟨B,7,none⟩ v7).setCell ⟨B,8,none⟩ v8).setCell ⟨B,9,none⟩ v9).setCell ⟨B,10,none⟩ v10).setCell ⟨B,11,none⟩ v11).setCell ⟨B,12,none⟩ v12).setCell ⟨B,13,none⟩ v13)=Z) :
  Has Z B #[v0,v1,v2,v3,v4,v5,v6,v7,v8,v9,v10,v11,v12,v13] T∧(∀ n,n≤B→Below n X Z)∧Z.heap.size=X.heap.size∧∀ b,b≠B→Z.heap[b]?=X.heap[b]?:=by
 subst hz;obtain⟨l,rfl⟩:∃ l:List Value,cs=l.toArray:=⟨cs.toList,by simp⟩
 obtain⟨u0,u1,u2,u3,u4,u5,u6,u7,u8,u9,u10,u11,u12,u13,rfl⟩:∃ u0 u1 u2 u3 u4 u5 u6 u7 u8 u9 u10 u11 u12 u13,l=[u0,u1,u2,u3,u4,u5,u6,u7,u8,u9,u10,u11,u12,u13]:=by
  match l,hs with
  | [u0,u1,u2,u3,u4,u5,u6,u7,u8,u9,u10,u11,u12,u13],_=>exact⟨_,_,_,_,_,_,_,_,_,_,_,_,_,_,rfl⟩
 refine⟨?_,fun n hn=>?_,by simp,fun b hb=>?_⟩
 ·have:=((((((((((((((H.set 0 v0).set 1 v1).set 2 v2).set 3 v3).set 4 v4).set 5 v5).set 6 v6).set 7 v7).set 8 v8).set 9 v9).set 10 v10).set 11 v11).set 12 v12).set 13 v13)
  simpa only [zq4,zr4,zs4] using this
 ·exact (((((((((((((((Below.refl n X).setCell (p:=⟨B,0,none⟩) hn v0).setCell (p:=⟨B,1,none⟩) hn v1).setCell (p:=⟨B,2,none⟩) hn v2).setCell (p:=⟨B,3,none⟩) hn v3).setCell (p:=⟨B,4,none⟩) hn v4).setCell (p:=⟨B,5,none⟩) hn v5).setCell (p:=⟨B,6,none⟩) hn v6).setCell (p:=⟨B,7,none⟩) hn v7).setCell (p:=⟨B,8,none⟩) hn v8).setCell (p:=⟨B,9,none⟩) hn v9).setCell (p:=⟨B,10,none⟩) hn v10).setCell (p:=⟨B,11,none⟩) hn v11).setCell (p:=⟨B,12,none⟩) hn v12).setCell (p:=⟨B,13,none⟩) hn v13)
 ·iterate 14 (rw [Below.heap_setCell _ _ _ _ (by exact hb)])
theorem Z3Y (m:Msn) (l:List Int) (vw vh vr vl:Value) (k:Nat) (w:World) (hm:MsnAt w.heap.size w m vw vh vr) (hl:Z9 w.heap.size w vl l) (hok:radOkB m l=true) :
  Calls Tryz.prog 29 #[.agg (Zc m vw vh vr),vl,.int .i64 (k:Int)] w fun e w'=>∃ vb va,e=.returned (.agg (stgC m vw vh vr vb va k))∧StgAt w'.heap.size w' m l vw vh vr vb va∧Below w.heap.size w w'∧NewI w.heap.size vb∧NewI w.heap.size va:=by
 have hvs:validB m=true∧stopsB m l=true:=by simpa [radOkB] using hok
 have f1:=fun w1 (B:Below w.heap.size w w1)=>Z1p m vw vh vr vl l w1 ((hm.below B).mono B.size) ((hl.below B).mono B.size) hvs.1 hvs.2
 have hmm:=fun w1 (B:Below w.heap.size w w1)=>hm.below B
 obtain⟨⟨-,a1,c1,rfl,-⟩,⟨-,a2,c2,rfl,-⟩,⟨-,a3,c3,rfl,-⟩⟩:=hm;obtain⟨-,al,cl,rfl,-⟩:=hl;unfold Zc UsedN at *;replace f1:=Lib.hid f1;replace hmm:=Lib.hid hmm;clear hok hvs;have BW:=Lib.hid (Below.refl w.heap.size w);go_enter Tryz.func29,Tryz.ntmps29;go_wp2_with fail;generalize hXX0:World.alloc (World.alloc w _) _=X0;obtain⟨q0,q1,hA,hzX0⟩:=box2 hXX0;clear hXX0;have BW:=Lib.hid hA;clear hA;have MB:=Lib.hid q0;clear q0;have RV:=Lib.hid q1;clear q1;have HZX:=Lib.hid hzX0;clear hzX0;obtain⟨c0,c1,c2,c3,c4,c5,c6,c7,c8,c9,c10⟩:=Zi (m:=m) MB.out;refine (f1.out _ BW.out).mono ?_;rintro e w1 ⟨vb,va,rfl,p1,p2,b1,n1,n2⟩;replace BW:=zAg BW b1;have B_X0:=Lib.hid b1;clear b1;have P1:=Lib.hid p1;clear p1;have P2:=Lib.hid p2;clear p2;have N1:=Lib.hid (show NewI (w.heap.size+1+1) vb from n1.mono (by have:=HZX.out;omega))
 have N2:=Lib.hid (show NewI (w.heap.size+1+1) va from n2.mono (by have:=HZX.out;omega))
 clear n1 n2;have MM:=Lib.hid (hmm.out _ BW.out);obtain⟨-,ab,cb,hvb,-⟩:=P1.out;subst hvb;obtain⟨-,aa,ca,hva,-⟩:=P2.out;subst hva;clear c0 c1 c2 c3 c4 c5 c6 c7 c8 c9 c10;obtain⟨c0,c1,c2,c3,c4,c5,c6,c7,c8,c9,c10⟩:=Zi (m:=m) (zCn MB B_X0);have hR:=(zCn RV B_X0);have ltR:=hR.lt;have r0:=hR.cell (i:=0) rfl;have z0:=Ze hR 0;have r1:=hR.cell (i:=1) rfl;have z1:=Ze hR 1;have r2:=hR.cell (i:=2) rfl;have z2:=Ze hR 2;have r3:=hR.cell (i:=3) rfl;have z3:=Ze hR 3;have r4:=hR.cell (i:=4) rfl;have z4:=Ze hR 4;have r5:=hR.cell (i:=5) rfl;have z5:=Ze hR 5;have r6:=hR.cell (i:=6) rfl;have z6:=Ze hR 6;have r7:=hR.cell (i:=7) rfl;have z7:=Ze hR 7;have r8:=hR.cell (i:=8) rfl;have z8:=Ze hR 8;have r9:=hR.cell (i:=9) rfl;have z9:=Ze hR 9;have r10:=hR.cell (i:=10) rfl;have z10:=Ze hR 10;have r11:=hR.cell (i:=11) rfl;have z11:=Ze hR 11;have r12:=hR.cell (i:=12) rfl;have z12:=Ze hR 12;have r13:=hR.cell (i:=13) rfl;have z13:=Ze hR 13;have HR:=Lib.hid hR;clear hR;go_wp2;clear r0 z0 r1 z1 r2 z2 r3 z3 r4 z4 r5 z5 r6 z6 r7 z7 r8 z8 r9 z9 r10 z10 r11 z11 r12 z12 r13 z13;generalize hZ:World.setCell (World.setCell (World.setCell (World.setCell (World.setCell (World.setCell (World.setCell (World.setCell (World.setCell (World.setCell (World.setCell (World.setCell (World.setCell (World.setCell w1 _ _) _ _) _ _) _ _) _ _) _ _) _ _) _ _) _ _) _ _) _ _) _ _) _ _) _ _=Z;obtain⟨HZ,hl2,hs2,he2⟩:=set14 HR.out rfl hZ;clear hZ;have hg9:w1.grownBy Z (some (w.heap.size+1)):=⟨(hl2 0 (Nat.zero_le _)).os,(hl2 0 (Nat.zero_le _)).tape,(hl2 0 (Nat.zero_le _)).output,by omega,fun i _ hne=>he2 i (fun e=>hne (by rw [e]))⟩
 have r0:=HZ.cell (i:=0) rfl;have r1:=HZ.cell (i:=1) rfl;have r2:=HZ.cell (i:=2) rfl;have r3:=HZ.cell (i:=3) rfl;have r4:=HZ.cell (i:=4) rfl;have r5:=HZ.cell (i:=5) rfl;have r6:=HZ.cell (i:=6) rfl;have r7:=HZ.cell (i:=7) rfl;have r8:=HZ.cell (i:=8) rfl;have r9:=HZ.cell (i:=9) rfl;have r10:=HZ.cell (i:=10) rfl;have r11:=HZ.cell (i:=11) rfl;have r12:=HZ.cell (i:=12) rfl;have r13:=HZ.cell (i:=13) rfl;have off:∀ {v:Value} {l:List Int},Z9 w1.heap.size w1 v l→NewI (w.heap.size+1+1) v→Z9 Z.heap.size Z v l:=fun h n=>Z9.offG h hg9 (fun r e=>by
  obtain⟨_,a,cap,e1,hc⟩:=h;rcases hc with hc | ⟨b,o,e3,hb,-⟩
  ·exact .inl hc
  ·refine .inr fun e2=>?_
   have:=n b o _ _ (by rw [e1,e3])
   rw [e1,e3] at e2;simp [Value.ownBlock] at e2;cases e;omega)
 have MM9:=(MM.out.below (hl2 w.heap.size (by omega))).mono (show w.heap.size≤Z.heap.size by omega)
 exact bodyPost_ret (v:=.agg (stgC m _ _ _ _ _ k)) (by simp [results,stgC,Tryz.f29,go_sem,r0,r1,r2,r3,r4,r5,r6,r7,r8,r9,r10,r11,r12,r13]) rfl ⟨_,_,rfl,⟨MM9,off P1.out N1.out,off P2.out N2.out⟩,BW.out.trans (hl2 _ (by omega)),N1.out.mono (by omega),N2.out.mono (by omega)⟩
noncomputable def ownC (m:Msn) (l:List Int) (k:Nat):List Pt:=corL (atW m k) (rdA m l k) (atW m (k+1)) (rdB m l (k+1))
theorem Z5J (m:Msn) (l:List Int) (vw vh vr vb va:Value) (w:World) (T:StgAt w.heap.size w m l vw vh vr vb va) (k:Nat) (hk:k+1<m.ways.length) (n41:m.ways.length≤41) :
  Calls Tryz.prog 59 #[.agg (stgC m vw vh vr vb va k)] w (PtsQ (ownC m l k) w):=by
 have f1:=fun w1=>Z0o ⟨(wy m.ways k).x,(wy m.ways k).y⟩ ⟨(wy m.ways (k+1)).x,(wy m.ways (k+1)).y⟩ (rdA m l k) (rdB m l (k+1)) w1
 unfold ownC atW PtsQ;obtain⟨bb,ob,cb,rfl,hbb,hcb⟩:=ZH T.bef (by rw [ZD];omega)
 obtain⟨ba,oa,ca,rfl,hba,hca⟩:=ZH T.aft (by rw [ZY];omega)
 have z1:=(hca k (by rw [ZY];omega)).trans (by rw [Z3C (by omega)])
 have z2:=(hcb (k+1) (by rw [ZD];omega)).trans (by rw [Z10 hk])
 simp only [ZD,ZY] at *;obtain⟨⟨-,a1,c1,rfl,hcw⟩,⟨-,a2,c2,rfl,-⟩,⟨-,a3,c3,rfl,hcr⟩⟩:=T.msn;obtain⟨bw,ow,rfl,hbw,hcw⟩:=hcw.resolve_left (by intro h;rw [h] at hk;simp at hk)
 obtain⟨x1,x2,-⟩:=hcw k (by omega)
 obtain⟨x3,x4,-⟩:=hcw (k+1) hk;clear T hcw hcr hcb hca;unfold stgC at *;generalize corL ⟨(wy m.ways k).x,(wy m.ways k).y⟩ (rdA m l k) ⟨(wy m.ways (k+1)).x,(wy m.ways (k+1)).y⟩ (rdB m l (k+1))=cl at *;generalize corE ⟨(wy m.ways k).x,(wy m.ways k).y⟩ (rdA m l k) ⟨(wy m.ways (k+1)).x,(wy m.ways (k+1)).y⟩ (rdB m l (k+1))=ce at *
 try simp only at f1
 generalize rdA m l k=ra at *;generalize rdB m l (k+1)=rb at *;obtain⟨K,hK⟩:∃ K,k+1=K:=⟨_,rfl⟩;have jw:IntKind.i64.wrap ((k:Int)+1)=(K:Int):=by rw [← hK];exact zW2
 simp only [hK] at x3 x4 z2 hk f1;generalize (wy m.ways k).x=px at *;generalize (wy m.ways k).y=py at *;generalize (wy m.ways K).x=qx at *;generalize (wy m.ways K).y=qy at *;replace f1:=Lib.hid f1;have hk':(k:Int)<m.ways.length:=by omega
 have hK':(K:Int)<m.ways.length:=by omega
 have hk0:(0:Int)≤k:=by omega
 have hK0:(0:Int)≤K:=by omega
 have hkn:k<m.ways.length:=by omega
 have BW:=Lib.hid (Below.refl w.heap.size w);go_enter Tryz.func59,Tryz.ntmps59;go_upto_region 1 with fail
 generalize hXX0:World.alloc w _=X0;obtain⟨q0,hA,hzX0⟩:=box1 hXX0;clear hXX0;have BW:=Lib.hid hA;clear hA;have RB:=Lib.hid q0;clear q0 hzX0;replace x1:=(BW.out.cell (p:=⟨bw,ow+k*5,none⟩) hbw).trans x1;replace x2:=(BW.out.cell (p:=⟨bw,ow+k*5+1,none⟩) hbw).trans x2;replace x3:=(BW.out.cell (p:=⟨bw,ow+K*5,none⟩) hbw).trans x3;replace x4:=(BW.out.cell (p:=⟨bw,ow+K*5+1,none⟩) hbw).trans x4;replace z1:=(BW.out.cell (p:=⟨ba,oa+k,none⟩) hba).trans z1;replace z2:=(BW.out.cell (p:=⟨bb,ob+K,none⟩) hbb).trans z2;have y0:X0.cell? ⟨w.heap.size,0,none⟩=some (.slice (some ⟨bw,ow,none⟩) m.ways.length (m.ways.length+c1)):=RB.out.cell (i:=0) rfl;have y11:X0.cell? ⟨w.heap.size,11,none⟩=some (.slice (some ⟨bb,ob,none⟩) m.ways.length (m.ways.length+cb)):=RB.out.cell (i:=11) rfl;have y12:X0.cell? ⟨w.heap.size,12,none⟩=some (.slice (some ⟨ba,oa,none⟩) m.ways.length (m.ways.length+ca)):=RB.out.cell (i:=12) rfl;have y13:X0.cell? ⟨w.heap.size,13,none⟩=some (.int .i64 (k:Int)):=RB.out.cell (i:=13) rfl;refine (wpIn_wide (n:=9)).1 ?_;refine Zg (Zj _) 35 (fun X=>Below X0.heap.size X0 X) (by kernel_rfl) (by kernel_rfl) (by kernel_rfl) fun hH inv0=>?_
 have hD:=Below.drew (Below.refl X0.heap.size X0);generalize hXX1:X0.drew=X1 at *;clear hXX1;replace BW:=zAg BW hD;have B_X0:=Lib.hid hD;clear hD;refine sk hH (i:=0) (v:=.pointer (some ⟨w.heap.size,0,none⟩)) (Zd rfl) inv0 (fun X hX=>?_) fun inv1=>?_
 ·go_simp
 simp only [Act.put,zq4,zr4,zs4];clear inv0;refine sk hH (i:=1) (v:=.pointer (some ⟨w.heap.size,0,none⟩)) (Zd rfl) inv1 (fun X hX=>?_) fun inv2=>?_
 ·go_simp
 simp only [Act.put,zq4,zr4,zs4];clear inv1;refine sk hH (i:=2) (v:=.slice (some ⟨bw,ow,none⟩) m.ways.length (m.ways.length+c1)) (Zd rfl) inv2 (fun X hX=>?_) fun inv3=>?_
 ·have r0:=(hX.cell (p:=⟨w.heap.size,0,none⟩) (World.block_lt_of_cell? _ _ y0)).trans y0;go_simp
 simp only [Act.put,zq4,zr4,zs4];clear inv2;refine sk hH (i:=3) (v:=.pointer (some ⟨w.heap.size,13,none⟩)) (Zd rfl) inv3 (fun X hX=>?_) fun inv4=>?_
 ·go_simp
 simp only [Act.put,zq4,zr4,zs4];clear inv3;refine sk hH (i:=4) (v:=.int .i64 (k:Int)) (Zd rfl) inv4 (fun X hX=>?_) fun inv5=>?_
 ·have r0:=(hX.cell (p:=⟨w.heap.size,13,none⟩) (World.block_lt_of_cell? _ _ y13)).trans y13;go_simp
 simp only [Act.put,zq4,zr4,zs4];clear inv4;refine sk hH (i:=5) (v:=.pointer (some ⟨bw,ow+k*5,none⟩)) (Zd rfl) inv5 (fun X hX=>?_) fun inv6=>?_
 ·go_simp
 simp only [Act.put,zq4,zr4,zs4];clear inv5;refine sk hH (i:=6) (v:=.pointer (some ⟨bw,ow+k*5,none⟩)) (Zd rfl) inv6 (fun X hX=>?_) fun inv7=>?_
 ·go_simp
 simp only [Act.put,zq4,zr4,zs4];clear inv6;refine sk hH (i:=7) (v:=.agg #[.int .i64 px,.int .i64 py]) (Zd rfl) inv7 (fun X hX=>?_) fun inv8=>?_
 ·have r0:=(hX.cell (p:=⟨bw,ow+k*5,none⟩) (World.block_lt_of_cell? _ _ x1)).trans x1;have r1:=(hX.cell (p:=⟨bw,ow+k*5+1,none⟩) (World.block_lt_of_cell? _ _ x2)).trans x2;go_simp
 simp only [Act.put,zq4,zr4,zs4];clear inv7;refine sk hH (i:=8) (v:=.pointer (some ⟨w.heap.size,12,none⟩)) (Zd rfl) inv8 (fun X hX=>?_) fun inv9=>?_
 ·go_simp
 simp only [Act.put,zq4,zr4,zs4];clear inv8;refine sk hH (i:=9) (v:=.slice (some ⟨ba,oa,none⟩) m.ways.length (m.ways.length+ca)) (Zd rfl) inv9 (fun X hX=>?_) fun inv10=>?_
 ·have r0:=(hX.cell (p:=⟨w.heap.size,12,none⟩) (World.block_lt_of_cell? _ _ y12)).trans y12;go_simp
 simp only [Act.put,zq4,zr4,zs4];clear inv9;refine sk hH (i:=10) (v:=.pointer (some ⟨w.heap.size,13,none⟩)) (Zd rfl) inv10 (fun X hX=>?_) fun inv11=>?_
 ·go_simp
 simp only [Act.put,zq4,zr4,zs4];clear inv10;refine sk hH (i:=11) (v:=.int .i64 (k:Int)) (Zd rfl) inv11 (fun X hX=>?_) fun inv12=>?_
 ·have r0:=(hX.cell (p:=⟨w.heap.size,13,none⟩) (World.block_lt_of_cell? _ _ y13)).trans y13;go_simp
 simp only [Act.put,zq4,zr4,zs4];clear inv11;refine sk hH (i:=12) (v:=.pointer (some ⟨ba,oa+k,none⟩)) (Zd rfl) inv12 (fun X hX=>?_) fun inv13=>?_
 ·go_simp
 simp only [Act.put,zq4,zr4,zs4];clear inv12;refine sk hH (i:=13) (v:=.int .i64 ra) (Zd rfl) inv13 (fun X hX=>?_) fun inv14=>?_
 ·have r0:=(hX.cell (p:=⟨ba,oa+k,none⟩) (World.block_lt_of_cell? _ _ z1)).trans z1;go_simp
 simp only [Act.put,zq4,zr4,zs4];clear inv13;refine sk hH (i:=14) (v:=.pointer (some ⟨w.heap.size,0,none⟩)) (Zd rfl) inv14 (fun X hX=>?_) fun inv15=>?_
 ·go_simp
 simp only [Act.put,zq4,zr4,zs4];clear inv14;refine sk hH (i:=15) (v:=.pointer (some ⟨w.heap.size,0,none⟩)) (Zd rfl) inv15 (fun X hX=>?_) fun inv16=>?_
 ·go_simp
 simp only [Act.put,zq4,zr4,zs4];clear inv15;refine sk hH (i:=16) (v:=.slice (some ⟨bw,ow,none⟩) m.ways.length (m.ways.length+c1)) (Zd rfl) inv16 (fun X hX=>?_) fun inv17=>?_
 ·have r0:=(hX.cell (p:=⟨w.heap.size,0,none⟩) (World.block_lt_of_cell? _ _ y0)).trans y0;go_simp
 simp only [Act.put,zq4,zr4,zs4];clear inv16;refine sk hH (i:=17) (v:=.pointer (some ⟨w.heap.size,13,none⟩)) (Zd rfl) inv17 (fun X hX=>?_) fun inv18=>?_
 ·go_simp
 simp only [Act.put,zq4,zr4,zs4];clear inv17;refine sk hH (i:=18) (v:=.int .i64 (k:Int)) (Zd rfl) inv18 (fun X hX=>?_) fun inv19=>?_
 ·have r0:=(hX.cell (p:=⟨w.heap.size,13,none⟩) (World.block_lt_of_cell? _ _ y13)).trans y13;go_simp
 simp only [Act.put,zq4,zr4,zs4];clear inv18;refine sk hH (i:=19) (v:=.int .i64 (K:Int)) (Zd rfl) inv19 (fun X hX=>?_) fun inv20=>?_
 ·go_simp
 simp only [Act.put,zq4,zr4,zs4];clear inv19;refine sk hH (i:=20) (v:=.pointer (some ⟨bw,ow+K*5,none⟩)) (Zd rfl) inv20 (fun X hX=>?_) fun inv21=>?_
 ·go_simp
 simp only [Act.put,zq4,zr4,zs4];clear inv20;refine sk hH (i:=21) (v:=.pointer (some ⟨bw,ow+K*5,none⟩)) (Zd rfl) inv21 (fun X hX=>?_) fun inv22=>?_
 ·go_simp
 simp only [Act.put,zq4,zr4,zs4];clear inv21;refine sk hH (i:=22) (v:=.agg #[.int .i64 qx,.int .i64 qy]) (Zd rfl) inv22 (fun X hX=>?_) fun inv23=>?_
 ·have r0:=(hX.cell (p:=⟨bw,ow+K*5,none⟩) (World.block_lt_of_cell? _ _ x3)).trans x3;have r1:=(hX.cell (p:=⟨bw,ow+K*5+1,none⟩) (World.block_lt_of_cell? _ _ x4)).trans x4;go_simp
 simp only [Act.put,zq4,zr4,zs4];clear inv22;refine sk hH (i:=23) (v:=.pointer (some ⟨w.heap.size,11,none⟩)) (Zd rfl) inv23 (fun X hX=>?_) fun inv24=>?_
 ·go_simp
 simp only [Act.put,zq4,zr4,zs4];clear inv23;refine sk hH (i:=24) (v:=.slice (some ⟨bb,ob,none⟩) m.ways.length (m.ways.length+cb)) (Zd rfl) inv24 (fun X hX=>?_) fun inv25=>?_
 ·have r0:=(hX.cell (p:=⟨w.heap.size,11,none⟩) (World.block_lt_of_cell? _ _ y11)).trans y11;go_simp
 simp only [Act.put,zq4,zr4,zs4];clear inv24;refine sk hH (i:=25) (v:=.pointer (some ⟨w.heap.size,13,none⟩)) (Zd rfl) inv25 (fun X hX=>?_) fun inv26=>?_
 ·go_simp
 simp only [Act.put,zq4,zr4,zs4];clear inv25;refine sk hH (i:=26) (v:=.int .i64 (k:Int)) (Zd rfl) inv26 (fun X hX=>?_) fun inv27=>?_
 ·have r0:=(hX.cell (p:=⟨w.heap.size,13,none⟩) (World.block_lt_of_cell? _ _ y13)).trans y13;go_simp
 simp only [Act.put,zq4,zr4,zs4];clear inv26;refine sk hH (i:=27) (v:=.int .i64 (K:Int)) (Zd rfl) inv27 (fun X hX=>?_) fun inv28=>?_
 ·go_simp
 simp only [Act.put,zq4,zr4,zs4];clear inv27;refine sk hH (i:=28) (v:=.pointer (some ⟨bb,ob+K,none⟩)) (Zd rfl) inv28 (fun X hX=>?_) fun inv29=>?_
 ·go_simp
 simp only [Act.put,zq4,zr4,zs4];clear inv28;refine sk hH (i:=29) (v:=.int .i64 rb) (Zd rfl) inv29 (fun X hX=>?_) fun inv30=>?_
 ·have r0:=(hX.cell (p:=⟨bb,ob+K,none⟩) (World.block_lt_of_cell? _ _ z2)).trans z2;go_simp
 simp only [Act.put,zq4,zr4,zs4];clear inv29;have inv31:=HeadInv.put2 inv30 (j:=30) (by kernel_rfl) (by omega)
 clear inv30;refine sa1 (r:=30) B_X0.out ?_;refine Zp (Zd rfl) rfl (f:=18) (args:=#[.agg #[.int .i64 px,.int .i64 py],.int .i64 ra,.agg #[.int .i64 qx,.int .i64 qy],.int .i64 rb]) (by go_simp) (f1.out X1) ?_
 rintro e w1 ⟨v1,rfl,p1,b1⟩;refine⟨_,rfl,?_⟩;simp only [Act.put,zq4,zr4,zs4];replace BW:=zAg BW b1;replace B_X0:=zAg B_X0 b1;clear b1;have P1:=Lib.hid p1;clear p1;refine sk hH (i:=31) (v:=.tuple #[v1,.int .i64 ce]) (Zd rfl) inv31 (fun X hX=>?_) fun inv32=>?_
 ·go_simp
 simp only [Act.put,zq4,zr4,zs4];clear inv31;refine sk hH (i:=32) (v:=v1) (Zd rfl) inv32 (fun X hX=>?_) fun inv33=>?_
 ·go_simp
 simp only [Act.put,zq4,zr4,zs4];clear inv32;refine sk hH (i:=33) (v:=.int .i64 ce) (Zd rfl) inv33 (fun X hX=>?_) fun inv34=>?_
 ·go_simp
 simp only [Act.put,zq4,zr4,zs4];clear inv33;refine sk hH (i:=34) (v:=v1) (Zd rfl) inv34 (fun X hX=>?_) fun inv35=>?_
 ·go_simp
 simp only [Act.put,zq4,zr4,zs4];clear inv34 inv35 hH;refine Zm (by kernel_rfl) B_X0.out ?_
 simp only [List.drop_succ_cons,List.drop_zero];obtain⟨g1,d1,hv1⟩:=P1.out.len;subst hv1;clear x1 x2 x3 x4 z1 z2 y0 y11 y12 y13;gi_wp2;go_wp2;go_ret;exact⟨_,rfl,P1.out,BW.out⟩
theorem Z2o (m:Msn) (vw vh vr vb va:Value) (k:Nat) (w:World) :
  Calls Tryz.prog 60 #[.agg (stgC m vw vh vr vb va k)] w fun e w'=>e=.returned (.func (.func 109) #[] #[.pointer (some ⟨w.heap.size,0,none⟩)])∧w'=w.alloc (.cells (stgC m vw vh vr vb va k) 67):=by
 unfold stgC;go_enter Tryz.func60,Tryz.ntmps60;go_wp2;go_ret;exact⟨rfl,rfl⟩
theorem Z0Z (v:Value) (p:List Pt) (x:Pt) (w:World) (hp:Z8 w.heap.size w v p) :
  Calls Tryz.prog 62 #[v,.agg #[.int .i64 x.x,.int .i64 x.y]] w fun e w'=>e=.returned (.bool (hasB p x))∧Below w.heap.size w w':=by
 have f1:=fun w1 (B:Below w.heap.size w w1)=>Z0z v p x w1 ((hp.below B).mono B.size)
 obtain⟨ap,cp,rfl⟩:=hp.len;generalize hasB p x=b1 at *;generalize hasE p x=b2 at *;obtain⟨px,py⟩:=x;simp only at f1 ⊢;replace f1:=Lib.hid f1;clear hp;have BW:=Lib.hid (Below.refl w.heap.size w);go_enter Tryz.func62,Tryz.ntmps62;go_wp2_with fail;generalize hXX0:World.alloc w _=X0;obtain⟨q0,hA,hzX0⟩:=box1 hXX0;clear hXX0;have BW:=Lib.hid hA;clear hA;have XB:=Lib.hid q0;clear q0;refine (f1.out _ BW.out).mono ?_;rintro e w1 ⟨rfl,b1⟩;replace BW:=zAg BW b1;have B_X0:=Lib.hid b1;clear b1;go_wp2;go_ret;exact⟨rfl,BW.out⟩
theorem fir_at {c : List Pt} {ls : List (List Pt)} (h : firB c ls = true) : ∃ i : Nat, firI c ls = i ∧ i < ls.length := by
 unfold firB at h;unfold firI;by_cases hc:ls.length≤100∧okRocks c ls=true
 ·rw [if_pos hc] at h ⊢
  have key:∀ n i,hitTo c ls n=some i→i<n:=by
   intro n
   induction n with
   | zero=>intro i h;simp [hitTo] at h
   | succ n ih =>
    intro i h;simp only [hitTo] at h
    split at h
    ·exact Nat.lt_succ_of_lt (ih i h)
    ·split at h
     ·cases h;exact Nat.lt_succ_self _
     ·cases h
  cases he:hitTo c ls ls.length with
  | none=>rw [he] at h;cases h
  | some i=>exact⟨i,rfl,key _ _ he⟩
 ·rw [if_neg hc] at h;cases h
theorem Z9M (m:Msn) (l:List Int) (vw vh vr vb va:Value) (w:World) (T:StgAt w.heap.size w m l vw vh vr vb va) (k:Nat) (vp:Value) (p:List Pt) (hp:Z8 w.heap.size w vp p) (Bo:Nat) (vs:Value) (q1 q2 q3 q4 q5:Int) (HO:Has w Bo #[vs,.int .i64 q1,.int .i64 q2,.int .i64 q3,.int .i64 q4,.int .i64 q5] 33) (hf:firB p m.rocks=false) :
  Calls Tryz.prog 58 #[.agg (stgC m vw vh vr vb va k),vp,.pointer (some ⟨Bo,0,none⟩)] w fun e w'=>e=.returned (.tuple #[.bool false,.int .i64 0])∧Below w.heap.size w w':=by
 have f1:=fun w1 (B:Below w.heap.size w w1)=>Z2F vp vr p m.rocks w1 ((hp.below B).mono B.size) ((T.msn.2.2.below B).mono B.size)
 rw [hf] at f1;obtain⟨ap,cp,rfl⟩:=hp.len;obtain⟨-,ab,cb,rfl,-⟩:=T.bef;obtain⟨-,aa,ca,rfl,-⟩:=T.aft;obtain⟨⟨-,a1,c1,rfl,hcw⟩,⟨-,a2,c2,rfl,-⟩,⟨-,a3,c3,rfl,hcr⟩⟩:=T.msn;generalize firE p m.rocks=e1 at *;generalize firI p m.rocks=i1 at *;unfold stgC at *;replace f1:=Lib.hid f1;clear T hp HO hcr hcw;have BW:=Lib.hid (Below.refl w.heap.size w);go_enter Tryz.func58,Tryz.ntmps58;go_wp2_with fail;generalize hXX0:World.alloc w _=X0;obtain⟨q0,hA,hzX0⟩:=box1 hXX0;clear hXX0;have BW:=Lib.hid hA;clear hA;have SB:=Lib.hid q0;clear q0 hzX0;have s3:=SB.out.cell (i:=3) rfl;refine (f1.out _ BW.out).mono ?_;rintro e w1 ⟨rfl,b1⟩;replace BW:=zAg BW b1;have B_X0:=Lib.hid b1;clear b1 s3;have s3:=(zCn SB B_X0).cell (i:=3) rfl;clear s3;go_wp2;go_ret2;exact⟨rfl,BW.out⟩
theorem Z5K (m:Msn) (l:List Int) (vw vh vr vb va:Value) (w:World) (T:StgAt w.heap.size w m l vw vh vr vb va) (k:Nat) (vp:Value) (p:List Pt) (hp:Z8 w.heap.size w vp p) (Bo:Nat) (vs:Value) (q1 q2 q3 q4 q5:Int) (HO:Has w Bo #[vs,.int .i64 q1,.int .i64 q2,.int .i64 q3,.int .i64 q4,.int .i64 q5] 33) (hf:firB p m.rocks=true) :
  Calls Tryz.prog 58 #[.agg (stgC m vw vh vr vb va k),vp,.pointer (some ⟨Bo,0,none⟩)] w fun e w'=>e=.returned (.tuple #[.bool true,.int .i64 (hitE p (rk m.rocks (firI p m.rocks).toNat))])∧Has w' Bo #[vs,.int .i64 q1,.int .i64 q2,.int .i64 (firI p m.rocks),.int .i64 (hitX p (rk m.rocks (firI p m.rocks).toNat)),.int .i64 (hitY p (rk m.rocks (firI p m.rocks).toNat))] 33∧w.grownBy w' (some Bo):=by
 have f1:=fun w1 (B:Below w.heap.size w w1)=>Z2F vp vr p m.rocks w1 ((hp.below B).mono B.size) ((T.msn.2.2.below B).mono B.size)
 rw [hf] at f1;have f2:=fun vq q w1 (B:Below w.heap.size w w1) hq=>Za5 vp vq p q w1 ((hp.below B).mono B.size) hq
 obtain⟨i,hi1,hi2⟩:=fir_at hf;rw [hi1] at f1 ⊢;rw [Int.toNat_natCast];obtain⟨ap,cp,rfl⟩:=hp.len;obtain⟨-,ab,cb,rfl,-⟩:=T.bef;obtain⟨-,aa,ca,rfl,-⟩:=T.aft;obtain⟨⟨-,a1,c1,rfl,hcw⟩,⟨-,a2,c2,rfl,-⟩,⟨-,a3,c3,rfl,hcr⟩⟩:=T.msn;obtain⟨br,or',rfl,hbr,hcr⟩:=hcr.resolve_left (by intro h;rw [h] at hi2;simp at hi2)
 obtain⟨u,xu,pu⟩:=hcr i hi2;obtain⟨au,cu,rfl⟩:=pu.len;have hi2':(i:Int)<m.rocks.length:=by omega
 have hi0:(0:Int)≤i:=by omega
 replace f2:=fun w1 (B:Below w.heap.size w w1)=>f2 _ (rk m.rocks i) w1 B ((pu.below B).mono B.size)
 generalize hitX p (rk m.rocks i)=hx at *;generalize hitY p (rk m.rocks i)=hy at *;generalize hitB p (rk m.rocks i)=hb' at *;generalize hitE p (rk m.rocks i)=he at *;replace f2:=Lib.hid f2;have hlo:=HO.lt;have HOB:=Lib.hid (fun w1 (B:Below w.heap.size w w1)=>HO.below B hlo)
 generalize firE p m.rocks=e1 at *
 skip
 unfold stgC at *;replace f1:=Lib.hid f1;clear T hp HO hcr hcw pu;have BW:=Lib.hid (Below.refl w.heap.size w);go_enter Tryz.func58,Tryz.ntmps58;go_wp2_with fail;generalize hXX0:World.alloc w _=X0;obtain⟨q0,hA,hzX0⟩:=box1 hXX0;clear hXX0;have BW:=Lib.hid hA;clear hA;have SB:=Lib.hid q0;clear q0 hzX0;have s3:=SB.out.cell (i:=3) rfl;refine (f1.out _ BW.out).mono ?_;rintro e w1 ⟨rfl,b1⟩;replace BW:=zAg BW b1;have B_X0:=Lib.hid b1;clear b1 s3;have s3:=(zCn SB B_X0).cell (i:=3) rfl;have xu1:=(BW.out.cell (p:=⟨br,or'+i,none⟩) hbr).trans xu;go_wp2_with fail;refine (f2.out _ BW.out).mono ?_;rintro e w2 ⟨rfl,b2⟩;replace BW:=zAg BW b2;replace B_X0:=zAg B_X0 b2;clear b2 s3 xu1;have zw2:=BW.out.size;go_upto_region 5 with fail
 generalize hXX3:World.alloc w2 _=X3;obtain⟨q0,hA,hzX3⟩:=box1 hXX3;clear hXX3;replace BW:=zAg BW hA;replace B_X0:=zAg B_X0 hA;clear hA;have XB:=Lib.hid q0;clear q0;have HOX:=HOB.out _ BW.out;have lox:=HOX.lt;clear hzX3;have hne:w2.heap.size≠Bo:=by omega
 have XBX:=XB.out;refine (wpIn_wide (n:=9)).1 ?_;refine Zg (Zj _) 9 (fun X=>Has X w2.heap.size #[.int .i64 hx,.int .i64 hy] 31) (by kernel_rfl) (by kernel_rfl) (by kernel_rfl) fun hH inv0=>?_
 refine sk hH (i:=0) (v:=.pointer (some ⟨Bo,0,none⟩)) (Zd rfl) inv0 (fun X hX=>?_) fun inv1=>?_
 ·go_simp
 simp only [Act.put,zq4,zr4,zs4];clear inv0;refine sk hH (i:=1) (v:=.pointer (some ⟨Bo,0,none⟩)) (Zd rfl) inv1 (fun X hX=>?_) fun inv2=>?_
 ·go_simp
 simp only [Act.put,zq4,zr4,zs4];clear inv1;refine sk hH (i:=2) (v:=.int .i64 (i:Int)) (Zd rfl) inv2 (fun X hX=>?_) fun inv3=>?_
 ·go_simp
 simp only [Act.put,zq4,zr4,zs4];clear inv2;refine sk hH (i:=3) (v:=.agg #[.int .i64 hx,.int .i64 hy]) (Zd rfl) inv3 (fun X hX=>?_) fun inv4=>?_
 ·have r0:=hX.cell (i:=0) rfl;have r1:=hX.cell (i:=1) rfl;go_simp
 simp only [Act.put,zq4,zr4,zs4];clear inv3;refine sk hH (i:=4) (v:=.pointer (some ⟨Bo,0,none⟩)) (Zd rfl) inv4 (fun X hX=>?_) fun inv5=>?_
 ·go_simp
 simp only [Act.put,zq4,zr4,zs4];clear inv4;refine sk hH (i:=5) (v:=.pointer (some ⟨Bo,3,none⟩)) (Zd rfl) inv5 (fun X hX=>?_) fun inv6=>?_
 ·go_simp
 simp only [Act.put,zq4,zr4,zs4];clear inv5;have hS0:Has X3.drew w2.heap.size #[.int .i64 hx,.int .i64 hy] 31:=XBX;have hO0:Has X3.drew Bo _ 33:=HOX;have hD0:w.grownBy X3.drew (some Bo):=Z3O (BW.out.trans ((Below.drew (Below.refl _ _)).mono BW.out.size)) _;generalize X3.drew=XD at *;have inv7:=HeadInv.put2 inv6 (j:=6) (by kernel_rfl) (by omega)
 clear inv6;refine Zw (rs:=[6]) (by kernel_rfl) (by simp) hS0 (by simp) (fun i' hi'=>?_)
 simp only [List.mem_cons,List.not_mem_nil,or_false] at hi';subst hi';have r1:=hO0.cell (i:=3) rfl;have r2:=Ze hO0 3;refine ZW (Zd rfl) rfl (w':=XD.setCell ⟨Bo,3,none⟩ (.int .i64 (i:Int))) (by go_simp) ?_
 simp only [Act.put,zq4,zr4,zs4];have hO1:=hO0.set 3 (.int .i64 (i:Int));have hS1:Has (XD.setCell ⟨Bo,3,none⟩ (.int .i64 (i:Int))) w2.heap.size #[.int .i64 hx,.int .i64 hy] 31:=(Below.heap_setCell XD ⟨Bo,3,none⟩ _ w2.heap.size hne).trans hS0;have hD1:=Z1w hD0 (ZJ XD Bo 3 (.int .i64 (i:Int)));simp only [zq4,zr4,zs4] at hO1;clear r1 r2 hO0 hS0 hD0;generalize XD.setCell ⟨Bo,3,none⟩ (.int .i64 (i:Int))=XE at *;refine sk hH (i:=7) (v:=.pointer (some ⟨Bo,0,none⟩)) (Zd rfl) inv7 (fun X hX=>?_) fun inv8=>?_
 ·go_simp
 simp only [Act.put,zq4,zr4,zs4];clear inv7;refine sk hH (i:=8) (v:=.pointer (some ⟨Bo,4,none⟩)) (Zd rfl) inv8 (fun X hX=>?_) fun inv9=>?_
 ·go_simp
 simp only [Act.put,zq4,zr4,zs4];clear inv8 inv9 hH;have r3:=hO1.cell (i:=4) rfl;have r4:=Ze hO1 4;have r5:=hO1.cell (i:=5) rfl;have r6:=Ze hO1 5;refine Zm (by kernel_rfl) hS1 ?_
 simp only [List.drop_succ_cons,List.drop_zero];gi_wp2;clear r3 r4 r5 r6;have hO2:=(hO1.set 4 (.int .i64 hx)).set 5 (.int .i64 hy);have hD2:=Z1w (Z1w hD1 (ZJ XE Bo 4 (.int .i64 hx))) (ZJ (XE.setCell ⟨Bo,4,none⟩ (.int .i64 hx)) Bo 5 (.int .i64 hy));simp only [zq4,zr4,zs4] at hO2;generalize World.setCell (World.setCell XE _ _) _ _=XF at *;have HX:=Lib.hid (And.intro hO2 hD2);clear hO2 hD2 hO1 hS1 hD1;go_wp2;go_ret2;exact⟨rfl,HX.out⟩
end
end Go.Proofs.YtdolkgihppgpcaaGreat
