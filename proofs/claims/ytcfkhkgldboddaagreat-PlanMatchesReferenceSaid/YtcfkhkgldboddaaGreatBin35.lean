/- package plan: farthest: what its rounds keep. | package plan: farthest. | package plan: Best, Refused. -/
import Derived.Test.YtcfkhkgldboddaaGreatBin24
import Derived.Test.YtcfkhkgldboddaaGreatBin34
set_option linter.unusedSimpArgs false
set_option linter.unusedVariables false
set_option maxRecDepth 8000
set_option maxHeartbeats 6400000
namespace Go.Proofs.YtcfkhkgldboddaaGreat
section
open Go.RowKit
noncomputable def bestP (m:Msn):Int × List Int:=farL (kpL m) (allTo (fixL m) ((fixL m).length+1))
theorem Z3v (l:List Int) {k:Nat}:∀ {n:Nat},k<n→∃ R,allTo l n=allTo l k++(combos l k++R)
 | n + 1, h => by
  rcases Nat.lt_succ_iff_lt_or_eq.1 h with h | h
  ·obtain⟨R,hR⟩:=Z3v l h
   exact⟨R++combos l n,by rw [Z1v,hR];simp⟩
  ·subst h
   exact⟨[],by rw [Z1v];simp⟩
theorem Z9R (m:Msn) {k:Nat} {pre u:List (List Int)} {n1:Int} (ht:∀ l,kpL m l≤n1) (hu:pre++u=combos (fixL m) k) (hk:k<(fixL m).length+1)
  (htp:(pre.foldl (farS (kpL m)) ((allTo (fixL m) k).foldl (farS (kpL m)) (-1,[]))).1=n1):pre.foldl (farS (kpL m)) ((allTo (fixL m) k).foldl (farS (kpL m)) (-1,[]))=bestP m:=by
 obtain⟨R,hR⟩:=Z3v (fixL m) hk;unfold bestP farL;rw [hR,← hu,List.foldl_append,List.foldl_append,List.foldl_append,Z9x (kpL m) ht htp u,Z9x (kpL m) ht htp R]
theorem Boxed.store {W:World} {B:Nat} {t:TypeId} {v:Value} (h:Boxed W B t v):W.setCell ⟨B,0,none⟩ v=W:=by
 have hlt:=h.lt;have hv:W.heap[B]=.cells #[v] t (0,0):=(Array.getElem?_eq_some_iff.1 h).2;unfold World.setCell;cases W with
 | mk heap tape drawn os output =>
  congr 1
  apply Array.ext
  ·simp
  ·intro k h1 h2
   simp only [Array.getElem_modify]
   split
   ·rename_i hk;subst hk;simp at hv;simp [hv]
   ·rfl
structure FarI (BL BS BE:Nat) (w w2:World) (st:Int × List Int) (ds:List Nat) (v:Value) (W:World):Prop where
 leg:Boxed W BL 3 (.int .i64 st.1)
 sto:Boxed W BS 27 v
 err:Boxed W BE 30 (.int .i64 0)
 val:Z9 W.heap.size W v st.2
 low:Below w.heap.size w W
 kee:KeepsP (fun b=>b<w2.heap.size∧b≠BL∧b≠BS∧b≠BE) w2 W
 mar:∀ D,D ∈ ds→w2.heap.size≤D∧W.heap[D]?=some (.deferred (some []))
 nod:ds.Nodup
 new:∀ r,v.ownBlock=some r→w2.heap.size≤r∧r<W.heap.size
structure FarB (BL BS BE:Nat) (w w2:World):Prop where
 l:BL<w2.heap.size∧w.heap.size≤BL
 s:BS<w2.heap.size∧w.heap.size≤BS
 e:BE<w2.heap.size∧w.heap.size≤BE
 ls:BL≠BS
 le:BL≠BE
 se:BS≠BE
 w:w.heap.size≤w2.heap.size
section
variable {BL BS BE:Nat} {w w2:World} {st:Int × List Int} {ds:List Nat} {v:Value} {W X:World}
theorem Z9.offG {l : List Int} {row : Option Nat} (h : Z9 W.heap.size W v l) (hg : W.grownBy X row) (hne : ∀ r, row = some r → l = [] ∨ v.ownBlock ≠ some r) : Z9 X.heap.size X v l := by
 obtain⟨hl,a,cap,e,hc⟩:=h;refine⟨hl,a,cap,e,?_⟩;rcases hc with hc | ⟨b,o,e1,hb,hc⟩
 ·exact .inl hc
 ·by_cases hl0:l=[]
  ·exact .inl hl0
  ·refine .inr ⟨b,o,e1,Nat.lt_of_lt_of_le hb hg.size,fun j hj=>?_⟩
   have hbn:some b≠row:=fun er=>by
    rcases hne b er.symm with h | h
    ·exact hl0 h
    ·exact h (by rw [e,e1];rfl)
   exact (World.cell?_of_block (hg.block b hb hbn)).trans (hc j hj)
theorem FarI.off (hB:FarB BL BS BE w w2) (h:FarI BL BS BE w w2 st ds v W) {row:Option Nat} (hg:W.grownBy X row) (hne:∀ r,row=some r→w2.heap.size≤r∧r ∉ ds∧(st.2=[]∨v.ownBlock≠some r)):FarI BL BS BE w w2 st ds v X:=by
 have hlt:∀ b,b<w2.heap.size→some b≠row:=fun b hb e=>by have:=(hne b e.symm).1;omega
 have hk:=h.kee.1;refine⟨h.leg.kept hg (hlt _ hB.l.1),h.sto.kept hg (hlt _ hB.s.1),h.err.kept hg (hlt _ hB.e.1),h.val.offG hg (fun r e=>(hne r e).2.2),h.low.grown hg (by have:=hB.w;omega) (fun k e=>by have:=(hne k e).1;have:=hB.w;omega),⟨Nat.le_trans hk hg.size,fun b hb=>(hg.block b (by omega) (hlt b hb.1)).trans (h.kee.2 b hb)⟩,fun D hD=>⟨(h.mar D hD).1,?_⟩,h.nod,fun r e=>⟨(h.new r e).1,Nat.lt_of_lt_of_le (h.new r e).2 hg.size⟩⟩
 have m:=(h.mar D hD).2;exact (hg.block D (Array.getElem?_eq_some_iff.1 m).1 (fun e=>(hne D e.symm).2.1 hD)).trans m
theorem FarI.below (hB:FarB BL BS BE w w2) (h:FarI BL BS BE w w2 st ds v W) (k:Below W.heap.size W X):FarI BL BS BE w w2 st ds v X :=
 h.off hB (row:=none) ⟨k.os,k.tape,k.output,k.size,fun b hb _=>k.block b hb⟩ (fun r e=>by cases e)
theorem FarI.upd (hB:FarB BL BS BE w w2) (h:FarI BL BS BE w w2 st ds v W) {st':Int × List Int} {v':Value} (hv:Z9 W.heap.size W v' st'.2) (hn:∀ r,v'.ownBlock=some r→w2.heap.size≤r∧r<W.heap.size) :
  FarI BL BS BE w w2 st' ds v' ((W.setCell ⟨BL,0,none⟩ (.int .i64 st'.1)).setCell ⟨BS,0,none⟩ v'):=by
 obtain⟨hl,hs,he,n1,n2,n3,hw⟩:=hB;have hoff:∀ (b:Nat) (u:Value),b<w2.heap.size→∀ {Y:World} {l:List Int} {vv:Value},(∀ r,vv.ownBlock=some r→w2.heap.size≤r)→Z9 Y.heap.size Y vv l→Z9 (Y.setCell ⟨b,0,none⟩ u).heap.size (Y.setCell ⟨b,0,none⟩ u) vv l:=fun b u hb Y l vv hnn hI =>
  hI.offG (grownBy_setCell' Y b u) (fun r e=>.inr fun e2=>by cases e;have:=hnn b e2;omega)
 refine⟨((h.leg.set _).other n1 _),(h.sto.other n1.symm _).set _,(h.err.other n2.symm _).other n3.symm _,hoff _ _ hs.1 (fun r e=>(hn r e).1) (hoff _ _ hl.1 (fun r e=>(hn r e).1) hv),(h.low.setCell (p:=⟨BL,0,none⟩) hl.2 _).setCell (p:=⟨BS,0,none⟩) hs.2 _,⟨by simpa using h.kee.1,fun b hb=>?_⟩,fun D hD=>⟨(h.mar D hD).1,?_⟩,h.nod,fun r e=>by simpa using hn r e⟩
 ·rw [Below.heap_setCell _ _ _ b hb.2.2.1,Below.heap_setCell _ _ _ b hb.2.1];exact h.kee.2 b hb
 ·have:=(h.mar D hD).1
  rw [Below.heap_setCell _ _ _ D (by simp only;omega),Below.heap_setCell _ _ _ D (by simp only;omega)];exact (h.mar D hD).2
theorem FarI.keeps (hB:FarB BL BS BE w w2) (h:FarI BL BS BE w w2 st ds v W) (hz:W.heap.size≤X.heap.size) (hk:∀ b,b<W.heap.size→b≠BL→b≠BS→b≠BE→X.heap[b]?=W.heap[b]?) (B B2:Nat) (hB2:w2.heap.size≤B2) (q:Nat→Prop) (hq:∀ b,q b→b<W.heap.size∧b≠BL∧b≠BS∧b≠BE):KeepsFrom B W X∧chK q B2 W X:=by
 obtain⟨hl,hs,he,-⟩:=hB;refine⟨⟨hz,fun k o _ hko ho=>?_⟩,hz,fun b hb=>?_⟩
 ·have hlt:=(Array.getElem?_eq_some_iff.1 hko).1
  have n1:k≠BL:=fun e=>by subst e;rw [show W.heap[k]?=_ from h.leg] at hko;cases hko;cases ho
  have n2:k≠BS:=fun e=>by subst e;rw [show W.heap[k]?=_ from h.sto] at hko;cases hko;cases ho
  have n3:k≠BE:=fun e=>by subst e;rw [show W.heap[k]?=_ from h.err] at hko;cases hko;cases ho
  exact (hk k hlt n1 n2 n3).trans hko
 ·rcases hb with hb | hb
  ·have:=hq b hb;exact hk b this.1 this.2.1 this.2.2.1 this.2.2.2
  ·exact hk b hb.2 (by omega) (by omega) (by omega)
theorem FarI.own (hB : FarB BL BS BE w w2) {B : Nat} (hBz : w2.heap.size ≤ B) (F : List (Value × List Int) → Int × List Int) (hds : ∀ D ∈ ds, D < B) (p : List (Value × List Int) → Prop) :
  OwnD chOwn B (fun s W=>p s∧∃ v,FarI BL BS BE w w2 (F s) ds v W∧∀ r,v.ownBlock=some r→r<B∨∃ x,x ∈ s∧x.1.ownBlock=some r):=by
 rintro s W X row ⟨hp,v,h,hv⟩ hg hr;refine⟨hp,v,h.off hB hg fun r e=>?_,hv⟩
 obtain⟨o,ho,hc⟩:=hr r e;have hge:B≤r:=by
  rcases hc with⟨_,hc⟩ | ⟨_,hc⟩
  ·have:=hc.1;omega
  ·exact hc
 refine⟨by omega,fun hD=>by have:=hds r hD;omega,?_⟩
 by_cases hl:(F s).2=[]
 ·exact .inl hl
 ·refine .inr fun ev=>?_
  rcases hv r ev with h1 | ⟨x,hx,h1⟩
  ·omega
  ·rcases hc with⟨_,hc⟩ | ⟨hc,_⟩
   ·exact hc.2 x hx h1
   ·obtain⟨_,a,cap,e1,hcells⟩:=h.val
    obtain⟨b,o',e2,hb,hcc⟩:=hcells.resolve_left hl;have hbr:b=r:=by rw [e1,e2] at ev;simpa [Value.ownBlock] using ev
    have h0:0<(F s).2.length:=List.length_pos_iff.2 hl;obtain⟨o2,ho2,hoc⟩:=cells_of_cell (hcc 0 h0);rw [show (⟨b,o'+0,none⟩:Addr).block=r from hbr,ho] at ho2
    cases ho2;rw [hc] at hoc;cases hoc
theorem FarI.leave {F:Fence} {n:Nat} {P:Program} {fn:Func} {tmps:Array Value} {R:Ending→World→Prop} (hB:FarB BL BS BE w w2):∀ (ds:List Nat) (W:World),FarI BL BS BE w w2 st ds v W→(∀ W',FarI BL BS BE w w2 st [] v W'→LeavesIn F n P fn tmps R [] .returning W') →
  LeavesInM F n P fn tmps R (ds.map fun D=>{ target:=.collected D,args:=#[] }) .returning W
 | [],W,h,hl=>hl W h
 | D :: ds, W, h, hl => by
  have m:=h.mar D (by simp)
  have nd:=List.nodup_cons.1 h.nod;refine⟨by simp,.inl ⟨D,_,rfl,run_takeDeferred m.2,?_⟩⟩
  refine FarI.leave hB ds _ ?_ hl;have h1:FarI BL BS BE w w2 st ds v W:=⟨h.leg,h.sto,h.err,h.val,h.low,h.kee,fun E hE=>h.mar E (by simp [hE]),nd.2,h.new⟩
  refine h1.off hB (grownBy_putObj' W D _) fun r e=>?_
  cases e;refine⟨m.1,nd.1,?_⟩;by_cases hl:st.2=[]
  ·exact .inl hl
  ·refine .inr fun ev=>?_
   obtain⟨_,a,cap,e1,hcells⟩:=h.val;obtain⟨b,o',e2,hb,hcc⟩:=hcells.resolve_left hl;have hbr:b=D:=by rw [e1,e2] at ev;simpa [Value.ownBlock] using ev
   have h0:0<st.2.length:=List.length_pos_iff.2 hl;obtain⟨o2,ho2,hoc⟩:=cells_of_cell (hcc 0 h0);rw [show (⟨b,o'+0,none⟩:Addr).block=D from hbr,m.2] at ho2
   cases ho2;cases hoc
end
end
section
attribute [local go_sem] Oper.semAt_some
attribute [local irreducible] wpQuiet
open Go.RowKit
theorem Z8Y (m:Msn) (l:List Int):kpL m l≤((m.ways.length-1:Nat):Int):=by
 unfold kpL leadV;have:=(Z58 m l).1
 split <;> omega
theorem Z9w (m : Msn) (vw vh vr : Value) (w : World) (hm : MsnAt w.heap.size w m vw vh vr) (hV : validB m = true) (h13 : m.ways.length ≤ 13) :
  Calls Tryz.prog 21 #[.agg (Zc m vw vh vr)] w fun e w'=>∃ v,e=.returned (.tuple #[.int .i64 (bestP m).1,v,.int .i64 0])∧Z9 w'.heap.size w' v (bestP m).2∧Below w.heap.size w w'∧∀ r,v.ownBlock=some r→w.heap.size≤r:=by
 have f1:=fun w1 (B:Below w.heap.size w w1)=>Z0H m vw vh vr w1 ((hm.below B).mono B.size)
 rw [hV] at f1;have f2:=fun w1 (B:Below w.heap.size w w1)=>Z9p m vw vh vr w1 ((hm.below B).mono B.size) (by omega)
 have f3:=fun vl l w1 (B:Below w.heap.size w w1) hl=>Z0r m vw vh vr vl l w1 ((hm.below B).mono B.size) hl
 have n2:=((Zn m).1 hV).n2;have htop:=fun l=>Z8Y m l
 obtain⟨⟨-,a1,c1,rfl,-⟩,⟨-,a2,c2,rfl,-⟩,⟨-,a3,c3,rfl,-⟩⟩:=hm;unfold Zc at *;have hfl:(fixL m).length≤m.ways.length-1:=Z0n m m.ways.length;replace f1:=Lib.hid f1;replace f2:=Lib.hid f2;replace f3:=Lib.hid f3;replace htop:=Lib.hid htop;have BW:=Lib.hid (Below.refl w.heap.size w);refine (callsIn_wide (n:=9)).1 ?_;refine callsIn_of_wp_marks Tryz.func21 rfl trivial ?_ rfl;simp only [Tryz.ntmps21,List.size_toArray,List.length_cons,List.length_nil,Nat.reduceAdd,Nat.reduceSub,Array.replicate_succ,Array.replicate_zero,List.push_toArray,List.append_toArray,List.nil_append,List.cons_append];refine wpIn_wide.2 ?_;go_wp2_with fail;generalize hXX0:World.alloc (World.alloc (World.alloc (World.alloc w _) _) _) _=X0;obtain⟨q0,q1,q2,q3,hA,hzX0⟩:=box4 hXX0;clear hXX0;have BW:=Lib.hid hA;clear hA;have MB:=Lib.hid q0;clear q0;have LB:=Lib.hid q1;clear q1;have SB:=Lib.hid q2;clear q2;have EB:=Lib.hid q3;clear q3;obtain⟨c0,c1,c2,c3,c4,c5,c6,c7,c8,c9,c10⟩:=Zh (m:=m) MB.out;refine (f1.out _ BW.out).mono ?_;rintro e w1 ⟨rfl,b1⟩;replace BW:=zAi BW b1;have B_X0:=Lib.hid b1;clear b1 c0 c1 c2 c3 c4 c5 c6 c7 c8 c9 c10;obtain⟨c0,c1,c2,c3,c4,c5,c6,c7,c8,c9,c10⟩:=Zh (m:=m) (zCq MB B_X0);go_wp2_with fail;have hzw1:=Lib.hid (show w.heap.size+4≤w1.heap.size by have:=B_X0.out.size;omega)
 refine (f2.out _ BW.out).mono ?_;rintro e w2 ⟨v2,rfl,p2,b2,n2'⟩;replace BW:=zAi BW b2;replace B_X0:=zAi B_X0 b2;clear b2;have FX:=Lib.hid p2;clear p2;obtain⟨hfl2,af,cf,hvf,hcf⟩:=FX.out;subst hvf;have NF:=Lib.hid n2';have CF:=Lib.hid hcf;clear n2' hcf c0 c1 c2 c3 c4 c5 c6 c7 c8 c9 c10;obtain⟨c0,c1,c2,c3,c4,c5,c6,c7,c8,c9,c10⟩:=Zh (m:=m) (zCq MB B_X0);clear c0 c1 c2 c3 c4 c5 c6 c7 c8 c9 c10;have dk:decide (((fixL m).length:Int)>12)=false:=by rw [decide_eq_false_iff_not];omega
 have jw:IntKind.i64.wrap (((fixL m).length:Int)+1)=((fixL m).length:Int)+1:=zW2;have h2:=(zCq LB B_X0);have l0:w2.cell? ⟨w.heap.size+1,0,none⟩=some (.int .i64 0):=h2.cell (i:=0) rfl;have l1:=Zf h2 0;have hzw2:=Lib.hid (show w.heap.size+4≤w2.heap.size by have:=B_X0.out.size;omega)
 have ltw2:=hzw2.out;have HX2:=Lib.hid (And.intro (zCq MB B_X0) (And.intro h2 (And.intro (zCq SB B_X0) (zCq EB B_X0))));clear h2;go_wp2;clear l0 l1;generalize hZ:World.setCell w2 _ _=Z;have FB:FarB (w.heap.size+1) (w.heap.size+1+1) (w.heap.size+1+1+1) w Z:=by subst hZ;exact⟨by simp;omega,by simp;omega,by simp;omega,by omega,by omega,by omega,by simp;omega⟩
 have ZS:Z.heap.size=w2.heap.size:=by subst hZ;simp
 have ZK:∀ b,b≠(w.heap.size+1)→Z.heap[b]?=w2.heap[b]?:=fun b hb=>by subst hZ;exact Below.heap_setCell _ _ _ b hb
 have FI0:FarI (w.heap.size+1) (w.heap.size+1+1) (w.heap.size+1+1+1) w Z (-1,[]) [] (.slice none 0 0) Z:=by
  obtain⟨-,g1,g2,g3⟩:=HX2.out;subst hZ;exact⟨Boxed.set _ g1,(ZK _ (by omega)).trans g2,(ZK _ (by omega)).trans g3,Z9.nil _ _,BW.out.setCell (p:=⟨w.heap.size+1,0,none⟩) (by simp) _,KeepsP.refl _ _,(fun D hD=>by cases hD),List.nodup_nil,(fun r e=>by cases e)⟩
 have HMB:Has Z w.heap.size _ 26:=(ZK _ (by omega)).trans HX2.out.1
 have HCF:(fixL m)=[]∨∃ b o,af=some ⟨b,o,none⟩∧b<Z.heap.size∧w.heap.size+4≤b∧∀ j,j<(fixL m).length→Z.cell? ⟨b,o+j,none⟩=some (.int .i64 ((fixL m).getD j 0)):=by
  rcases CF.out with h | ⟨b,o,e1,hb,hc⟩
  ·exact .inl h
  ·have hnb:=NF.out b (by rw [e1];rfl)
   have:=hzw1.out;exact .inr ⟨b,o,e1,by omega,by omega,fun j hj=>(World.cell?_of_block (ZK b (by omega))).trans (hc j hj)⟩
 replace FB:=Lib.hid FB;replace FI0:=Lib.hid FI0;replace HMB:=Lib.hid HMB;replace HCF:=Lib.hid HCF;clear hZ ZK HX2 CF NF hzw1 hzw2 ltw2 ZS BW B_X0 MB LB SB EB FX;refine wp_loop (fun a' W'=>∃ (u6 u7 u8 u9 u10 u23 u24 u25 u26 u27 u28 u29 u30 u31 u32 u33 u34 u35 u36 u37 u38 u39 u40 u41 u42 u43 u44 u45 u46 u47 u48 u49 u50 u51:Value) (k:Nat) (ds:List Nat) (v:Value),k≤(fixL m).length+1∧FarI (w.heap.size+1) (w.heap.size+1+1) (w.heap.size+1+1+1) w Z ((allTo (fixL m) k).foldl (farS (kpL m)) (-1,[])) ds v W'∧a'={ tmps:=#[.agg #[.slice a1 m.ways.length (m.ways.length+c1),.slice a2 m.home.length (m.home.length+c2),.int .i64 m.start,.slice a3 m.rocks.length (m.rocks.length+c3),.int .i64 m.speed,.int .i64 m.part,.int .i64 m.flow,.int .i64 m.idle,.int .i64 m.drive,.int .i64 m.battery,.int .i64 m.deadline],.pointer (some ⟨w.heap.size,0,none⟩),.pointer (some ⟨w.heap.size+1,0,none⟩),.pointer (some ⟨w.heap.size+1+1,0,none⟩),.pointer (some ⟨w.heap.size+1+1+1,0,none⟩),.slice af (fixL m).length ((fixL m).length+cf),u6,u7,u8,u9,u10,.agg #[.slice a1 m.ways.length (m.ways.length+c1),.slice a2 m.home.length (m.home.length+c2),.int .i64 m.start,.slice a3 m.rocks.length (m.rocks.length+c3),.int .i64 m.speed,.int .i64 m.part,.int .i64 m.flow,.int .i64 m.idle,.int .i64 m.drive,.int .i64 m.battery,.int .i64 m.deadline],.bool true,.bool false,.agg #[.slice a1 m.ways.length (m.ways.length+c1),.slice a2 m.home.length (m.home.length+c2),.int .i64 m.start,.slice a3 m.rocks.length (m.rocks.length+c3),.int .i64 m.speed,.int .i64 m.part,.int .i64 m.flow,.int .i64 m.idle,.int .i64 m.drive,.int .i64 m.battery,.int .i64 m.deadline],.slice af (fixL m).length ((fixL m).length+cf),.slice af (fixL m).length ((fixL m).length+cf),.int .i64 ((fixL m).length:Int),.bool false,.slice af (fixL m).length ((fixL m).length+cf),.int .i64 ((fixL m).length:Int),.int .i64 (((fixL m).length:Int)+1),.int .i64 (k:Int),u23,u24,u25,u26,u27,u28,u29,u30,u31,u32,u33,u34,u35,u36,u37,u38,u39,u40,u41,u42,u43,u44,u45,u46,u47,u48,u49,u50,u51],defers:=ds.map (fun D=>{ target:=.collected D,args:=#[] }) }) (fun a' _=>(fixL m).length+2-(intOf (a'.tmps.getD 22 undef)).toNat) ?_ ?_
 ·exact⟨_,_,_,_,_,_,_,_,_,_,_,_,_,_,_,_,_,_,_,_,_,_,_,_,_,_,_,_,_,_,_,_,_,_,0,[],_,by omega,FI0.out,rfl⟩
 ·rintro a' Wo ⟨u6,u7,u8,u9,u10,u23,u24,u25,u26,u27,u28,u29,u30,u31,u32,u33,u34,u35,u36,u37,u38,u39,u40,u41,u42,u43,u44,u45,u46,u47,u48,u49,u50,u51,k,ds,v,hk,hI,rfl⟩
  by_cases hkl:k<(fixL m).length+1
  ·have d1:decide ((k:Int)<((fixL m).length:Int)+1)=true:=by rw [decide_eq_true_eq];omega
   replace hI:=Lib.hid hI;go_wp2_with fail;refine (Z6o _ _ _ _ _).mono ?_;rintro e W1 ⟨rfl,hW1⟩;obtain⟨q0,q1,hA,hz1⟩:=box2 hW1.symm;clear hW1;go_wp2;have zk:=hI.out.kee.1;have zw1:=hA.size;have hI1:=Lib.hid (hI.out.below FB.out hA);have HCB:∀ b,b<Z.heap.size→w.heap.size+4≤b→W1.heap[b]?=Z.heap[b]?:=fun b hb h4=>(hA.block b (by omega)).trans (hI.out.kee.2 b ⟨hb,by omega,by omega,by omega⟩)
   have hseq:=Z7Y (fun b=>b=Wo.heap.size+1∨b=Wo.heap.size∨∃ a,af=some a∧b=a.block∧b<Z.heap.size∧w.heap.size+4≤b) (Wo.heap.size+1) Wo.heap.size k ((fixL m).length+cf) af (fixL m) W1 (by omega) (by omega) (q1.cell (i:=0) rfl) (q0.cell (i:=0) rfl) (.inl rfl) (.inr (.inl rfl)) (fun j hj=>by
    obtain⟨b,o,e1,hb,h4,hc⟩:=HCF.out.resolve_left (by intro h;rw [h] at hj;simp at hj)
    exact⟨b,o,e1,.inr (.inr ⟨_,e1,rfl,hb,h4⟩),(World.cell?_of_block (HCB b hb h4)).trans (hc j hj)⟩) (fun b hb=>by
    rcases hb with h | h | ⟨a,-,-,h,-⟩ <;> omega)
   have hmb:=HMB.out.lt;have hfb:=FB.out;have fbl:=hfb.l;have fbs:=hfb.s;have fbe:=hfb.e;have hds:∀ D ∈ ds,D<W1.heap.size:=fun D hD=>(Array.getElem?_eq_some_iff.1 (hI1.out.mar D hD).2).1
   obtain⟨n1,hn1⟩:∃ n1,m.ways.length-1=n1:=⟨_,rfl⟩;refine (wpIn_wide (n:=9)).1 ?_;refine Z5D (by omega) (gf:=93) (lb:=#[.pointer (some ⟨Wo.heap.size+1,0,none⟩),.pointer (some ⟨Wo.heap.size,0,none⟩)]) rfl (enters_of Tryz.func93 (by kernel_rfl) rfl) hseq ?hHx (fun h k=>⟨Nat.le_trans h.1 k.1,fun b hb=>(k.2 b (by
    rcases hb with hb | hb
    ·exact .inl hb
    ·exact .inr ⟨hb.1,Nat.lt_of_lt_of_le hb.2 h.1⟩)).trans (h.2 b hb)⟩) ?hKb (Below.refl _ _) (fun _=>rfl)
    (fun s W=>True∧∃ v,FarI (w.heap.size+1) (w.heap.size+1+1) (w.heap.size+1+1+1) w Z ((s.map (·.2)).foldl (farS (kpL m)) ((allTo (fixL m) k).foldl (farS (kpL m)) (-1,[]))) ds v W∧∀ r,v.ownBlock=some r→r<W1.heap.size∨∃ x,x ∈ s∧x.1.ownBlock=some r)
    (fun c s W=>(c=.ret∧((s.map (·.2)).foldl (farS (kpL m)) ((allTo (fixL m) k).foldl (farS (kpL m)) (-1,[]))).1=(n1:Int))∧∃ v,FarI (w.heap.size+1) (w.heap.size+1+1) (w.heap.size+1+1+1) w Z ((s.map (·.2)).foldl (farS (kpL m)) ((allTo (fixL m) k).foldl (farS (kpL m)) (-1,[]))) ds v W∧∀ r,v.ownBlock=some r→r<W1.heap.size∨∃ x,x ∈ s∧x.1.ownBlock=some r)
    (FarI.own FB.out (by omega) _ hds (fun _=>True)) (fun c=>FarI.own FB.out (by omega) _ hds (fun s=>c=.ret∧((s.map (·.2)).foldl (farS (kpL m)) ((allTo (fixL m) k).foldl (farS (kpL m)) (-1,[]))).1=(n1:Int))) ⟨trivial,v,hI1.out,fun r e=>.inl ?hvn⟩
    (fun x=>#[.agg #[.slice a1 m.ways.length (m.ways.length+c1),.slice a2 m.home.length (m.home.length+c2),.int .i64 m.start,.slice a3 m.rocks.length (m.rocks.length+c3),.int .i64 m.speed,.int .i64 m.part,.int .i64 m.flow,.int .i64 m.idle,.int .i64 m.drive,.int .i64 m.battery,.int .i64 m.deadline],.pointer (some ⟨w.heap.size,0,none⟩),.pointer (some ⟨w.heap.size+1,0,none⟩),.pointer (some ⟨w.heap.size+1+1,0,none⟩),.pointer (some ⟨w.heap.size+1+1+1,0,none⟩),.slice af (fixL m).length ((fixL m).length+cf),.int .i64 (k:Int),x.1,u8,u9,u10,.agg #[.slice a1 m.ways.length (m.ways.length+c1),.slice a2 m.home.length (m.home.length+c2),.int .i64 m.start,.slice a3 m.rocks.length (m.rocks.length+c3),.int .i64 m.speed,.int .i64 m.part,.int .i64 m.flow,.int .i64 m.idle,.int .i64 m.drive,.int .i64 m.battery,.int .i64 m.deadline],.bool true,.bool false,.agg #[.slice a1 m.ways.length (m.ways.length+c1),.slice a2 m.home.length (m.home.length+c2),.int .i64 m.start,.slice a3 m.rocks.length (m.rocks.length+c3),.int .i64 m.speed,.int .i64 m.part,.int .i64 m.flow,.int .i64 m.idle,.int .i64 m.drive,.int .i64 m.battery,.int .i64 m.deadline],.slice af (fixL m).length ((fixL m).length+cf),.slice af (fixL m).length ((fixL m).length+cf),.int .i64 ((fixL m).length:Int),.bool false,.slice af (fixL m).length ((fixL m).length+cf),.int .i64 ((fixL m).length:Int),.int .i64 (((fixL m).length:Int)+1),.int .i64 (k:Int),.bool true,.int .i64 (k:Int),.slice af (fixL m).length ((fixL m).length+cf),.int .i64 (k:Int),.func (.func 93) #[] #[.pointer (some ⟨Wo.heap.size+1,0,none⟩),.pointer (some ⟨Wo.heap.size,0,none⟩)],x.1,u29,u30,u31,u32,u33,u34,u35,u36,u37,u38,u39,u40,u41,u42,u43,u44,u45,u46,u47,u48,u49,u50,u51]) ?assign ?body ?done ?stop
   case hHx =>
    rintro x W l o o' ⟨h1,h2⟩ hl hc;refine⟨h1.offG (grownBy_putObj' W l o') (fun r e=>?_),fun r e=>by simpa using h2 r e⟩
    cases e;by_cases hl0:x.2=[]
    ·exact .inl hl0
    ·refine .inr fun ev=>?_
     obtain⟨_,a,cap,e1,hcells⟩:=h1;obtain⟨b,o2,e2,hb,hcc⟩:=hcells.resolve_left hl0;have hbr:b=l:=by rw [e1,e2] at ev;simpa [Value.ownBlock] using ev
     obtain⟨o3,ho3,hoc⟩:=cells_of_cell (hcc 0 (List.length_pos_iff.2 hl0));rw [show (⟨b,o2+0,none⟩:Addr).block=l from hbr,hl] at ho3
     cases ho3;rw [hc] at hoc;cases hoc
   case hKb =>
    rintro W o o' h1 h2;refine⟨by simp,fun b hb=>World.putObj_heap_other ?_⟩
    rcases hb with (h | h | ⟨a,-,-,h,-⟩) | h <;> omega
   case hvn =>
    have:=(hI1.out.new r e).2;omega
   case assign =>
    rintro ll rm ⟨y,ly⟩ W K ⟨hx1,-⟩ hK;obtain⟨ay,cy,rfl⟩:∃ a c,y=.slice a ly.length c:=by obtain⟨_,a,c,h,_⟩:=hx1;exact⟨a,_,h⟩
    unfold chE;gi_wp2;exact hK
   case body =>
    rintro ll rm pre x W hll ⟨r,hr⟩ ⟨-,v',hI',hv'⟩ ⟨hx1,hx2⟩ hsz;obtain⟨y,ly⟩:=x;simp only at hx1 hx2 ⊢;obtain⟨ay,cy,rfl⟩:∃ a c,y=.slice a ly.length c:=by obtain⟨_,a,c,h,_⟩:=hx1;exact⟨a,_,h⟩
    have hst:Hid (((pre++[((.slice ay ly.length cy:Value),ly)]).map (·.2)).foldl (farS (kpL m)) ((allTo (fixL m) k).foldl (farS (kpL m)) (-1,[]))=farS (kpL m) ((pre.map (·.2)).foldl (farS (kpL m)) ((allTo (fixL m) k).foldl (farS (kpL m)) (-1,[]))) ly):=by
     show _=_
     rw [List.map_append,List.foldl_append];rfl
    obtain⟨st,hst2⟩:∃ st,(pre.map (·.2)).foldl (farS (kpL m)) ((allTo (fixL m) k).foldl (farS (kpL m)) (-1,[]))=st:=⟨_,rfl⟩;simp only [hst2] at hI' hst;clear hst2;have hkW:=hI'.kee.1;have MBW:=(hI'.kee.2 _ ⟨hmb,by omega,by omega,by omega⟩).trans HMB.out
    obtain⟨c0,c1',c2',c3',c4,c5,c6,c7,c8,c9,c10⟩:=Zh (m:=m) MBW;have g3:=Lib.hid (f3.out _ ly W hI'.low hx1);have hII:=Lib.hid hI';have hVV:=Lib.hid hv';have hXX:=Lib.hid (And.intro hx1 hx2);have hLL:=Lib.hid (And.intro hll hr);clear hI' hv' hx1 hx2 hll hr MBW hseq q0 q1 hA HCB
    gi_wp2_with fail
    refine⟨trivial,(fun h=>by cases h),(CallsIn.inRound ll (callsIn_wide.2 g3.out)).mono ?_⟩
    rintro e W4 ⟨rfl,b4⟩;have hI4:=hII.out.below FB.out b4;have hx4:=(hXX.out.1.below b4).mono b4.size;have k4:=Lib.hid b4;have hz4:=b4.size;have y0:=hI4.leg.cell;have y1:=hI4.leg.frozen;have y2:=hI4.sto.cell;have y3:=hI4.sto.frozen;have y4:=hI4.err.cell;have y5:=hI4.err.frozen;have MB4:Has W4 w.heap.size _ 26:=(hI4.kee.2 _ ⟨hmb,by omega,by omega,by omega⟩).trans HMB.out
    have c0':=MB4.cell (i:=0) rfl;have jw1:IntKind.i64.wrap ((m.ways.length:Int)-1)=(n1:Int):=by rw [show (m.ways.length:Int)-1=(n1:Int) by omega];exact zW2
    clear b4 c0 c1' c2' c3' c4 c5 c6 c7 c8 c9 c10;obtain⟨s1,s2⟩:=st;obtain⟨av,cv,hvv⟩:∃ a c,v'=.slice a s2.length c:=by obtain⟨_,a,c,h,_⟩:=hI4.val;exact⟨a,_,h⟩
    subst hvv;have H4:=Lib.hid (And.intro hI4 hx4);clear hI4 hx4 MB4;obtain⟨kp,hkp⟩:∃ x,kpL m ly=x:=⟨_,rfl⟩;have HKP:=Lib.hid hkp;simp only [hkp];clear hkp;by_cases hgt:s1<kp
    ·have e1:decide (kp>s1)=true:=by rw [decide_eq_true_eq];exact hgt
     have hfs:Hid (farS (kpL m) (s1,s2) ly=(kp,ly)):=by
      show _=_
      unfold farS;rw [HKP.out,if_pos hgt]
     have U:=H4.out.1.upd FB.out (st':=(kp,ly)) H4.out.2 (fun r e=>by have:=hXX.out.2 r e;exact⟨by omega,by omega⟩)
     have MB5:Has _ w.heap.size _ 26:=(U.kee.2 _ ⟨hmb,by omega,by omega,by omega⟩).trans HMB.out
     have z0:=U.leg.cell;have z1:=U.leg.frozen;have z2:=U.sto.cell;have z3:=U.sto.frozen;have z4:=U.err.cell;have z5:=U.err.frozen;have z6:=MB5.cell (i:=0) rfl;have HU:=Lib.hid U;clear U MB5;have HKK:=Lib.hid (fun b (hb:b<W.heap.size) (h1:b≠(w.heap.size+1)) (h2:b≠(w.heap.size+1+1)) (h3:b≠(w.heap.size+1+1+1))=>(Below.heap_setCell (W4.setCell ⟨w.heap.size+1,0,none⟩ (.int .i64 kp)) ⟨w.heap.size+1+1,0,none⟩ (.slice ay ly.length cy) b h2).trans ((Below.heap_setCell W4 ⟨w.heap.size+1,0,none⟩ (.int .i64 kp) b h1).trans (k4.out.block b hb)))
     have HZZ:=Lib.hid (show W.heap.size≤((W4.setCell ⟨w.heap.size+1,0,none⟩ (.int .i64 kp)).setCell ⟨w.heap.size+1+1,0,none⟩ (.slice ay ly.length cy)).heap.size by simp;omega)
     by_cases heq:kp=n1
     ·have e2:((kp:Int) == (n1:Int))=true:=by rw [beq_iff_eq];exact heq
      gi_wp2;subst heq;generalize hY:World.setCell (World.setCell W4 _ _) _ _=Y at *;have hL:=HU.out.leg;have hS:=HU.out.sto;have hE:=HU.out.err;refine Zm (ZJ _ _) 4 (fun X=>Has X (w.heap.size+1) #[.int .i64 (n1:Int)] 3∧Has X (w.heap.size+1+1) #[(.slice ay ly.length cy)] 27) (by kernel_rfl) (by kernel_rfl) (by kernel_rfl) fun hH inv0=>?_
      refine sk hH (i:=0) (v:=.int .i64 (n1:Int)) (Zg rfl) inv0 (fun X hX=>?_) fun inv1=>?_
      ·have r:=hX.1.cell (i:=0) rfl;go_simp
      simp only [Act.put,zq4,zr4,zs4];refine sk hH (i:=1) (v:=(.slice ay ly.length cy)) (Zg rfl) inv1 (fun X hX=>?_) fun inv2=>?_
      ·have r:=hX.2.cell (i:=0) rfl;go_simp
      simp only [Act.put,zq4,zr4,zs4];have hX9:=Below.drew (Below.refl Y.heap.size Y);have hL9:Has Y.drew (w.heap.size+1) #[.int .i64 (n1:Int)] 3:=hL;have hS9:Has Y.drew (w.heap.size+1+1) #[(.slice ay ly.length cy)] 27:=hS;have hE9:Has Y.drew (w.heap.size+1+1+1) #[.int .i64 0] 30:=hE;generalize Y.drew=X9 at *;refine sa1 (r:=2) ⟨hL9,hS9⟩ ?_;refine Z08 (Zg rfl) rfl (w':=X9.setCell ⟨w.heap.size+1,0,none⟩ (.int .i64 (n1:Int))) (by have r1:=Boxed.cell hL9;have r2:=Boxed.frozen hL9;go_simp) ?_
      simp only [Act.put,zq4,zr4,zs4];rw [Boxed.store hL9];refine sa1 (r:=3) ⟨hL9,hS9⟩ ?_;refine Z08 (Zg rfl) rfl (w':=X9.setCell ⟨w.heap.size+1+1,0,none⟩ (.slice ay ly.length cy)) (by have r1:=Boxed.cell hS9;have r2:=Boxed.frozen hS9;go_simp) ?_
      simp only [Act.put,zq4,zr4,zs4];rw [Boxed.store hS9];refine Zw (by kernel_rfl) ⟨hL9,hS9⟩ ?_
      simp only [List.drop_succ_cons,List.drop_zero];have r1:=Boxed.cell hE9;have r2:=Boxed.frozen hE9;clear inv0 inv1 inv2 hH;gi_wp2;rw [Boxed.store hE9];have hk9:∀ b,b<W.heap.size→b≠(w.heap.size+1)→b≠(w.heap.size+1+1)→b≠(w.heap.size+1+1+1)→X9.heap[b]?=W.heap[b]?:=fun b hb h1 h2 h3=>(hX9.block b (by have:=HZZ.out;omega)).trans (HKK.out b hb h1 h2 h3)
      have hz9:W.heap.size≤X9.heap.size:=Nat.le_trans HZZ.out hX9.size;refine⟨(hII.out.keeps FB.out hz9 hk9 (Wo.heap.size+2) (Wo.heap.size+2+2) (by omega) (fun b=>b=Wo.heap.size+1∨b=Wo.heap.size∨∃ a,af=some a∧b=a.block∧b<Z.heap.size∧w.heap.size+4≤b) (fun b hb=>by rcases hb with h | h | ⟨a,-,-,h,h4⟩ <;> exact⟨by omega,by omega,by omega,by omega⟩)).1,(hII.out.keeps FB.out hz9 hk9 (Wo.heap.size+2) (Wo.heap.size+2+2) (by omega) (fun b=>b=Wo.heap.size+1∨b=Wo.heap.size∨∃ a,af=some a∧b=a.block∧b<Z.heap.size∧w.heap.size+4≤b) (fun b hb=>by rcases hb with h | h | ⟨a,-,-,h,h4⟩ <;> exact⟨by omega,by omega,by omega,by omega⟩)).2,⟨rfl,by rw [hst.out,hfs.out]⟩,(.slice ay ly.length cy),?_,fun r e=>.inr ⟨_,⟨_,List.mem_append.2 (.inr (List.mem_singleton.2 rfl))⟩,e⟩⟩
      rw [hst.out,hfs.out];exact HU.out.below FB.out hX9
     ·have e2:((kp:Int) == (n1:Int))=false:=by rw [beq_eq_false_iff_ne];exact heq
      gi_wp2;refine⟨(hII.out.keeps FB.out HZZ.out HKK.out (Wo.heap.size+2) (Wo.heap.size+2+2) (by omega) (fun b=>b=Wo.heap.size+1∨b=Wo.heap.size∨∃ a,af=some a∧b=a.block∧b<Z.heap.size∧w.heap.size+4≤b) (fun b hb=>by rcases hb with h | h | ⟨a,-,-,h,h4⟩ <;> exact⟨by omega,by omega,by omega,by omega⟩)).1,(hII.out.keeps FB.out HZZ.out HKK.out (Wo.heap.size+2) (Wo.heap.size+2+2) (by omega) (fun b=>b=Wo.heap.size+1∨b=Wo.heap.size∨∃ a,af=some a∧b=a.block∧b<Z.heap.size∧w.heap.size+4≤b) (fun b hb=>by rcases hb with h | h | ⟨a,-,-,h,h4⟩ <;> exact⟨by omega,by omega,by omega,by omega⟩)).2,(.slice ay ly.length cy),?_,fun r e=>.inr ⟨_,⟨_,List.mem_append.2 (.inr (List.mem_singleton.2 rfl))⟩,e⟩⟩
      rw [hst.out,hfs.out];exact HU.out
    ·have e1:decide (kp>s1)=false:=by rw [decide_eq_false_iff_not];omega
     have hfs:Hid (farS (kpL m) (s1,s2) ly=(s1,s2)):=by
      show _=_
      unfold farS;rw [HKP.out,if_neg hgt]
     have HKK:=Lib.hid (fun b (hb:b<W.heap.size) (h1:b≠(w.heap.size+1)) (h2:b≠(w.heap.size+1+1)) (h3:b≠(w.heap.size+1+1+1))=>k4.out.block b hb)
     have HZZ:=Lib.hid hz4;have HU:=Lib.hid H4.out.1;by_cases heq:s1=n1
     ·have e2:((s1:Int) == (n1:Int))=true:=by rw [beq_iff_eq];exact heq
      gi_wp2;subst heq
      skip
      have hL:=HU.out.leg;have hS:=HU.out.sto;have hE:=HU.out.err;refine Zm (ZJ _ _) 4 (fun X=>Has X (w.heap.size+1) #[.int .i64 (n1:Int)] 3∧Has X (w.heap.size+1+1) #[(.slice av s2.length cv)] 27) (by kernel_rfl) (by kernel_rfl) (by kernel_rfl) fun hH inv0=>?_
      refine sk hH (i:=0) (v:=.int .i64 (n1:Int)) (Zg rfl) inv0 (fun X hX=>?_) fun inv1=>?_
      ·have r:=hX.1.cell (i:=0) rfl;go_simp
      simp only [Act.put,zq4,zr4,zs4];refine sk hH (i:=1) (v:=(.slice av s2.length cv)) (Zg rfl) inv1 (fun X hX=>?_) fun inv2=>?_
      ·have r:=hX.2.cell (i:=0) rfl;go_simp
      simp only [Act.put,zq4,zr4,zs4];have hX9:=Below.drew (Below.refl W4.heap.size W4);have hL9:Has W4.drew (w.heap.size+1) #[.int .i64 (n1:Int)] 3:=hL;have hS9:Has W4.drew (w.heap.size+1+1) #[(.slice av s2.length cv)] 27:=hS;have hE9:Has W4.drew (w.heap.size+1+1+1) #[.int .i64 0] 30:=hE;generalize W4.drew=X9 at *;refine sa1 (r:=2) ⟨hL9,hS9⟩ ?_;refine Z08 (Zg rfl) rfl (w':=X9.setCell ⟨w.heap.size+1,0,none⟩ (.int .i64 (n1:Int))) (by have r1:=Boxed.cell hL9;have r2:=Boxed.frozen hL9;go_simp) ?_
      simp only [Act.put,zq4,zr4,zs4];rw [Boxed.store hL9];refine sa1 (r:=3) ⟨hL9,hS9⟩ ?_;refine Z08 (Zg rfl) rfl (w':=X9.setCell ⟨w.heap.size+1+1,0,none⟩ (.slice av s2.length cv)) (by have r1:=Boxed.cell hS9;have r2:=Boxed.frozen hS9;go_simp) ?_
      simp only [Act.put,zq4,zr4,zs4];rw [Boxed.store hS9];refine Zw (by kernel_rfl) ⟨hL9,hS9⟩ ?_
      simp only [List.drop_succ_cons,List.drop_zero];have r1:=Boxed.cell hE9;have r2:=Boxed.frozen hE9;clear inv0 inv1 inv2 hH;gi_wp2;rw [Boxed.store hE9];have hk9:∀ b,b<W.heap.size→b≠(w.heap.size+1)→b≠(w.heap.size+1+1)→b≠(w.heap.size+1+1+1)→X9.heap[b]?=W.heap[b]?:=fun b hb h1 h2 h3=>(hX9.block b (by have:=HZZ.out;omega)).trans (HKK.out b hb h1 h2 h3)
      have hz9:W.heap.size≤X9.heap.size:=Nat.le_trans HZZ.out hX9.size;refine⟨(hII.out.keeps FB.out hz9 hk9 (Wo.heap.size+2) (Wo.heap.size+2+2) (by omega) (fun b=>b=Wo.heap.size+1∨b=Wo.heap.size∨∃ a,af=some a∧b=a.block∧b<Z.heap.size∧w.heap.size+4≤b) (fun b hb=>by rcases hb with h | h | ⟨a,-,-,h,h4⟩ <;> exact⟨by omega,by omega,by omega,by omega⟩)).1,(hII.out.keeps FB.out hz9 hk9 (Wo.heap.size+2) (Wo.heap.size+2+2) (by omega) (fun b=>b=Wo.heap.size+1∨b=Wo.heap.size∨∃ a,af=some a∧b=a.block∧b<Z.heap.size∧w.heap.size+4≤b) (fun b hb=>by rcases hb with h | h | ⟨a,-,-,h,h4⟩ <;> exact⟨by omega,by omega,by omega,by omega⟩)).2,⟨rfl,by rw [hst.out,hfs.out]⟩,(.slice av s2.length cv),?_,fun r e=>(hVV.out r e).imp (fun h=>by omega) fun ⟨x,hx,e2⟩=>⟨x.1,⟨x.2,List.mem_append.2 (.inl hx)⟩,e2⟩⟩
      rw [hst.out,hfs.out];exact HU.out.below FB.out hX9
     ·have e2:((s1:Int) == (n1:Int))=false:=by rw [beq_eq_false_iff_ne];exact heq
      gi_wp2;refine⟨(hII.out.keeps FB.out HZZ.out HKK.out (Wo.heap.size+2) (Wo.heap.size+2+2) (by omega) (fun b=>b=Wo.heap.size+1∨b=Wo.heap.size∨∃ a,af=some a∧b=a.block∧b<Z.heap.size∧w.heap.size+4≤b) (fun b hb=>by rcases hb with h | h | ⟨a,-,-,h,h4⟩ <;> exact⟨by omega,by omega,by omega,by omega⟩)).1,(hII.out.keeps FB.out HZZ.out HKK.out (Wo.heap.size+2) (Wo.heap.size+2+2) (by omega) (fun b=>b=Wo.heap.size+1∨b=Wo.heap.size∨∃ a,af=some a∧b=a.block∧b<Z.heap.size∧w.heap.size+4≤b) (fun b hb=>by rcases hb with h | h | ⟨a,-,-,h,h4⟩ <;> exact⟨by omega,by omega,by omega,by omega⟩)).2,(.slice av s2.length cv),?_,fun r e=>(hVV.out r e).imp (fun h=>by omega) fun ⟨x,hx,e2⟩=>⟨x.1,⟨x.2,List.mem_append.2 (.inl hx)⟩,e2⟩⟩
      rw [hst.out,hfs.out];exact HU.out
   case done =>
    rintro D xs W hD hxs ⟨-,v',hI',hv'⟩ hK;have hst:Hid (((xs.map (·.2)).foldl (farS (kpL m)) ((allTo (fixL m) k).foldl (farS (kpL m)) (-1,[])))=(allTo (fixL m) (k+1)).foldl (farS (kpL m)) (-1,[])):=by
     show _=_
     rw [hxs,Z1v,List.foldl_append]
    rw [hst.out] at hI';have hnd:D ∉ ds:=fun h=>by have:=hds D h;omega
    have hII:=Lib.hid (show FarI (w.heap.size+1) (w.heap.size+1+1) (w.heap.size+1+1+1) w Z ((allTo (fixL m) (k+1)).foldl (farS (kpL m)) (-1,[])) (D::ds) v' W from⟨hI'.leg,hI'.sto,hI'.err,hI'.val,hI'.low,hI'.kee,fun E hE=>by
     rcases List.mem_cons.1 hE with h | h
     ·subst h;exact⟨by omega,hK⟩
     ·exact hI'.mar E h,List.nodup_cons.2 ⟨hnd,hI'.nod⟩,hI'.new⟩)
    clear hI' hv' hK hst hseq q0 q1 hA HCB;have jw2:IntKind.i64.wrap ((k:Int)+1)=(k:Int)+1:=zW2;go_wp2;refine⟨⟨_,_,_,_,_,_,_,_,_,_,_,_,_,_,_,_,_,_,_,_,_,_,_,_,_,_,_,_,_,_,_,_,_,_,k+1,D::ds,v',by omega,hII.out,rfl⟩,?_⟩
    simp [intOf];omega
   case stop =>
    rintro D c pre W hD ⟨u,hu⟩ ⟨⟨rfl,htp⟩,v',hI',hv'⟩ hK;have hst:=Z9R m (fun l=>by rw [← hn1];exact htop.out l) hu hkl htp
    rw [hst] at hI';have hnd:D ∉ ds:=fun h=>by have:=hds D h;omega
    have hII:=Lib.hid (show FarI (w.heap.size+1) (w.heap.size+1+1) (w.heap.size+1+1+1) w Z (bestP m) (D::ds) v' W from⟨hI'.leg,hI'.sto,hI'.err,hI'.val,hI'.low,hI'.kee,fun E hE=>by
     rcases List.mem_cons.1 hE with h | h
     ·subst h;exact⟨by omega,hK⟩
     ·exact hI'.mar E h,List.nodup_cons.2 ⟨hnd,hI'.nod⟩,hI'.new⟩)
    clear hI' hv' hK hst hseq q0 q1 hA HCB hu htp;gi_wp2;refine FarI.leave FB.out (D::ds) W hII.out fun W' hW'=>?_
    obtain⟨av,cv,hvv⟩:∃ a c,v'=.slice a (bestP m).2.length c:=by obtain⟨_,a,c,h,_⟩:=hW'.val;exact⟨a,_,h⟩
    subst hvv;have r1:=hW'.leg.cell;have r2:=hW'.sto.cell;have r3:=hW'.err.cell;exact⟨.tuple #[.int .i64 (bestP m).1,.slice av (bestP m).2.length cv,.int .i64 0],by simp [results,Tryz.f21,go_sem,r1,r2,r3],_,rfl,hW'.val,hW'.low,fun r e=>Nat.le_trans FB.out.w (hW'.new r e).1⟩
  ·obtain rfl:k=(fixL m).length+1:=by omega
   have d1:decide ((((fixL m).length+1:Nat):Int)<((fixL m).length:Int)+1)=false:=by rw [decide_eq_false_iff_not];omega
   have hst:Hid ((allTo (fixL m) ((fixL m).length+1)).foldl (farS (kpL m)) (-1,[])=bestP m):=rfl;rw [hst.out] at hI;clear hst;obtain⟨b1,b2,hbp⟩:∃ b1 b2,bestP m=(b1,b2):=⟨_,_,rfl⟩;rw [hbp] at hI;have HBP:=Lib.hid hbp;clear hbp;obtain⟨av,cv,hvv⟩:∃ a c,v=.slice a b2.length c:=by obtain⟨_,a,c,h,_⟩:=hI.val;exact⟨a,_,h⟩
   subst hvv;have hII:=Lib.hid hI;clear hI;go_wp2;refine (wpIn_wide (n:=9)).1 ?_;have hL:=hII.out.leg;have hS:=hII.out.sto;have hE:=hII.out.err;refine Zm (Zt _) 4 (fun X=>Has X (w.heap.size+1) #[.int .i64 b1] 3∧Has X (w.heap.size+1+1) #[(.slice av b2.length cv)] 27) (by kernel_rfl) (by kernel_rfl) (by kernel_rfl) fun hH inv0=>?_
   refine sk hH (i:=0) (v:=.int .i64 b1) (Zg rfl) inv0 (fun X hX=>?_) fun inv1=>?_
   ·have r:=hX.1.cell (i:=0) rfl;go_simp
   simp only [Act.put,zq4,zr4,zs4];refine sk hH (i:=1) (v:=(.slice av b2.length cv)) (Zg rfl) inv1 (fun X hX=>?_) fun inv2=>?_
   ·have r:=hX.2.cell (i:=0) rfl;go_simp
   simp only [Act.put,zq4,zr4,zs4];have hX9:=Below.drew (Below.refl Wo.heap.size Wo);have hL9:Has Wo.drew (w.heap.size+1) #[.int .i64 b1] 3:=hL;have hS9:Has Wo.drew (w.heap.size+1+1) #[(.slice av b2.length cv)] 27:=hS;have hE9:Has Wo.drew (w.heap.size+1+1+1) #[.int .i64 0] 30:=hE;generalize Wo.drew=X9 at *;refine sa1 (r:=2) ⟨hL9,hS9⟩ ?_;refine Z08 (Zg rfl) rfl (w':=X9.setCell ⟨w.heap.size+1,0,none⟩ (.int .i64 b1)) (by have r1:=Boxed.cell hL9;have r2:=Boxed.frozen hL9;go_simp) ?_
   simp only [Act.put,zq4,zr4,zs4];rw [Boxed.store hL9];refine sa1 (r:=3) ⟨hL9,hS9⟩ ?_;refine Z08 (Zg rfl) rfl (w':=X9.setCell ⟨w.heap.size+1+1,0,none⟩ (.slice av b2.length cv)) (by have r1:=Boxed.cell hS9;have r2:=Boxed.frozen hS9;go_simp) ?_
   simp only [Act.put,zq4,zr4,zs4];rw [Boxed.store hS9];refine Zw (by kernel_rfl) ⟨hL9,hS9⟩ ?_
   simp only [List.drop_succ_cons,List.drop_zero];have r1:=Boxed.cell hE9;have r2:=Boxed.frozen hE9;clear inv0 inv1 inv2 hH;gi_wp2;rw [Boxed.store hE9];go_wp2;have h9:=hII.out.below FB.out hX9;refine FarI.leave FB.out ds X9 h9 fun W' hW'=>?_
   have r1:=hW'.leg.cell;have r2:=hW'.sto.cell;have r3:=hW'.err.cell;exact⟨.tuple #[.int .i64 b1,.slice av b2.length cv,.int .i64 0],by simp [results,Tryz.f21,go_sem,r1,r2,r3],_,by rw [HBP.out],by rw [HBP.out];exact hW'.val,hW'.low,fun r e=>Nat.le_trans FB.out.w (hW'.new r e).1⟩
end
section
attribute [local irreducible] wpQuiet
open Go.RowKit
theorem Zb0 (m:Msn) (vw vh vr:Value) (w:World) (hm:MsnAt w.heap.size w m vw vh vr) (hV:validB m=false) :
  Calls Tryz.prog 21 #[.agg (Zc m vw vh vr)] w fun e w'=>e=.returned (.tuple #[.int .i64 0,.slice none 0 0,.int .i64 1])∧Below w.heap.size w w':=by
 have f1:=fun w1 (B:Below w.heap.size w w1)=>Z0H m vw vh vr w1 ((hm.below B).mono B.size)
 rw [hV] at f1;obtain⟨⟨-,a1,c1,rfl,-⟩,⟨-,a2,c2,rfl,-⟩,⟨-,a3,c3,rfl,-⟩⟩:=hm;unfold Zc at *;replace f1:=Lib.hid f1;have BW:=Lib.hid (Below.refl w.heap.size w);refine (callsIn_wide (n:=9)).1 ?_;refine callsIn_of_wp_marks Tryz.func21 rfl trivial ?_ rfl;simp only [Tryz.ntmps21,List.size_toArray,List.length_cons,List.length_nil,Nat.reduceAdd,Nat.reduceSub,Array.replicate_succ,Array.replicate_zero,List.push_toArray,List.append_toArray,List.nil_append,List.cons_append];refine wpIn_wide.2 ?_;go_wp2_with fail;generalize hXX0:World.alloc (World.alloc (World.alloc (World.alloc w _) _) _) _=X0;obtain⟨q0,q1,q2,q3,hA,hzX0⟩:=box4 hXX0;clear hXX0;have BW:=Lib.hid hA;clear hA;have MB:=Lib.hid q0;clear q0;have LB:=Lib.hid q1;clear q1;have SB:=Lib.hid q2;clear q2;have EB:=Lib.hid q3;clear q3;obtain⟨c0,c1,c2,c3,c4,c5,c6,c7,c8,c9,c10⟩:=Zh (m:=m) MB.out;refine (f1.out _ BW.out).mono ?_;rintro e w1 ⟨rfl,b1⟩;replace BW:=zAi BW b1;have B_X0:=Lib.hid b1;clear b1 c0 c1 c2 c3 c4 c5 c6 c7 c8 c9 c10;have hL:=(zCq LB B_X0);have hS:=(zCq SB B_X0);have hE:=(zCq EB B_X0);have l0:=Boxed.cell hL;have l1:=Boxed.frozen hL;have s0:=Boxed.cell hS;have s1:=Boxed.frozen hS;have e0:=Boxed.cell hE;have e1:=Boxed.frozen hE;have k1:=((Boxed.set (.int .i64 0) hL).other (by omega:w.heap.size+1≠w.heap.size+1+1) (.slice none 0 0)).other (by omega:w.heap.size+1≠w.heap.size+1+1+1) (.int .i64 1)
 have k2:=((Boxed.other hS (by omega:w.heap.size+1+1≠w.heap.size+1) (.int .i64 0)).set (.slice none 0 0)).other (by omega:w.heap.size+1+1≠w.heap.size+1+1+1) (.int .i64 1)
 have k3:=((Boxed.other hE (by omega:w.heap.size+1+1+1≠w.heap.size+1) (.int .i64 0)).other (by omega:w.heap.size+1+1+1≠w.heap.size+1+1) (.slice none 0 0)).set (.int .i64 1)
 have r1:=k1.cell;have r2:=k2.cell;have r3:=k3.cell;have BY:=Lib.hid (((BW.out.setCell (p:=⟨w.heap.size+1,0,none⟩) (by simp) (.int .i64 0)).setCell (p:=⟨w.heap.size+1+1,0,none⟩) (by simp;omega) (.slice none 0 0)).setCell (p:=⟨w.heap.size+1+1+1,0,none⟩) (by simp;omega) (.int .i64 1))
 clear hL hS hE k1 k2 k3;go_wp2;exact⟨.tuple #[.int .i64 0,.slice none 0 0,.int .i64 1],by simp [results,Tryz.f21,go_sem,r1,r2,r3],rfl,BY.out⟩
noncomputable def bsB (m:Msn):Bool:=validB m && decide ((bestP m).1=((m.ways.length-1:Nat):Int))
noncomputable def bsL (m:Msn):List Int:=if bsB m=true then (bestP m).2 else []
noncomputable def rfB (m:Msn):Bool:=validB m && !decide ((bestP m).1=((m.ways.length-1:Nat):Int))
noncomputable def rfL (m:Msn):List Int:=if rfB m=true then (bestP m).2 else []
noncomputable def rfG (m:Msn):Int:=if rfB m=true then (bestP m).1 else 0
noncomputable def plE (m:Msn):Int:=if validB m=true then 0 else 1
theorem Z2U (m:Msn):(bestP m).1≤((m.ways.length-1:Nat):Int):=by
 unfold bestP farL;have:∀ (L:List (List Int)) (s:Int × List Int),s.1≤((m.ways.length-1:Nat):Int)→(L.foldl (farS (kpL m)) s).1≤((m.ways.length-1:Nat):Int):=by
  intro L
  induction L with
  | nil=>intro s h;exact h
  | cons x L ih =>
   intro s h;rw [List.foldl_cons];refine ih _ ?_;unfold farS
   split
   ·exact Z8Y m x
   ·exact h
 exact this _ _ (by simp only;omega)
theorem Z2X (m:Msn) (vw vh vr:Value) (w:World) (hm:MsnAt w.heap.size w m vw vh vr) (h13:m.ways.length≤13) :
  Calls Tryz.prog 8 #[.agg (Zc m vw vh vr)] w fun e w'=>∃ v,e=.returned (.tuple #[v,.bool (bsB m),.int .i64 (plE m)])∧Z9 w'.heap.size w' v (bsL m)∧Below w.heap.size w w'∧∀ r,v.ownBlock=some r→w.heap.size≤r:=by
 cases hV:validB m
 ·simp only [bsB,bsL,rfB,rfL,rfG,plE,hV,Bool.false_and,Bool.false_eq_true,if_false]
  have f1:=fun w1 (B:Below w.heap.size w w1)=>Zb0 m vw vh vr w1 ((hm.below B).mono B.size) hV
  obtain⟨⟨-,a1,c1,rfl,-⟩,⟨-,a2,c2,rfl,-⟩,⟨-,a3,c3,rfl,-⟩⟩:=hm;unfold Zc at *;replace f1:=Lib.hid f1;have BW:=Lib.hid (Below.refl w.heap.size w);go_enter Tryz.func8,Tryz.ntmps8;go_wp2_with fail;generalize hXX0:World.alloc w _=X0;obtain⟨q0,hA,hzX0⟩:=box1 hXX0;clear hXX0;have BW:=Lib.hid hA;clear hA;have MB:=Lib.hid q0;clear q0;refine (f1.out _ BW.out).mono ?_;rintro e w1 ⟨rfl,b1⟩;replace BW:=zAi BW b1;have B_X0:=Lib.hid b1;clear b1;go_wp2;go_ret3;exact⟨_,rfl,Z9.nil _ _,BW.out,(fun r e=>by cases e)⟩
 ·have n2:=((Zn m).1 hV).n2
  have bt:=Z2U m;have f1:=fun w1 (B:Below w.heap.size w w1)=>Z9w m vw vh vr w1 ((hm.below B).mono B.size) hV h13
  obtain⟨⟨-,a1,c1,rfl,-⟩,⟨-,a2,c2,rfl,-⟩,⟨-,a3,c3,rfl,-⟩⟩:=hm;simp only [bsB,bsL,rfB,rfL,rfG,plE,hV,Bool.true_and,if_true];unfold Zc at *;have jw:IntKind.i64.wrap ((m.ways.length:Int)-1)=((m.ways.length-1:Nat):Int):=by rw [show ((m.ways.length:Int)-1)=((m.ways.length-1:Nat):Int) by omega];exact zW2
  obtain⟨n1,hn1⟩:∃ n1,m.ways.length-1=n1:=⟨_,rfl⟩;simp only [hn1] at jw bt ⊢;obtain⟨b1,b2,hbp⟩:∃ b1 b2,bestP m=(b1,b2):=⟨_,_,rfl⟩;simp only [hbp] at f1 bt ⊢;clear hbp;replace f1:=Lib.hid f1;clear hn1;have BW:=Lib.hid (Below.refl w.heap.size w);by_cases heq:b1=n1
  all_goals simp only [heq,decide_true,decide_false,Bool.not_true,Bool.not_false,if_true,Bool.false_eq_true,if_false]
  ·subst heq
   have e1:((n1:Int) == (n1:Int))=true:=by simp
   have e2:decide ((n1:Int)<(n1:Int))=false:=by simp
   go_enter Tryz.func8,Tryz.ntmps8;go_wp2_with fail;generalize hXX0:World.alloc w _=X0;obtain⟨q0,hA,hzX0⟩:=box1 hXX0;clear hXX0;have BW:=Lib.hid hA;clear hA;have MB:=Lib.hid q0;clear q0;refine (f1.out _ BW.out).mono ?_;rintro e w1 ⟨v1,rfl,p1,b1,n1'⟩;replace BW:=zAi BW b1;have B_X0:=Lib.hid b1;clear b1;have PI:=Lib.hid p1;clear p1;have HN:=Lib.hid n1';clear n1';obtain⟨-,g1,k1,hv1,-⟩:=PI.out;subst hv1;have c0:=(zCq MB B_X0).cell (i:=0) rfl;go_wp2;go_ret3;exact⟨_,rfl,PI.out,BW.out,(fun r e=>by have:=HN.out r e;omega)⟩
  ·have e1:((b1:Int) == (n1:Int))=false:=by rw [beq_eq_false_iff_ne];exact heq
   have e2:decide ((b1:Int)<(n1:Int))=true:=by rw [decide_eq_true_eq];omega
   clear bt;go_enter Tryz.func8,Tryz.ntmps8;go_wp2_with fail;generalize hXX0:World.alloc w _=X0;obtain⟨q0,hA,hzX0⟩:=box1 hXX0;clear hXX0;have BW:=Lib.hid hA;clear hA;have MB:=Lib.hid q0;clear q0;refine (f1.out _ BW.out).mono ?_;rintro e w1 ⟨v1,rfl,p1,b1,n1'⟩;replace BW:=zAi BW b1;have B_X0:=Lib.hid b1;clear b1;have PI:=Lib.hid p1;clear p1;have HN:=Lib.hid n1';clear n1';obtain⟨-,g1,k1,hv1,-⟩:=PI.out;subst hv1;have c0:=(zCq MB B_X0).cell (i:=0) rfl;go_wp2;go_ret3;exact⟨_,rfl,Z9.nil _ _,BW.out,(fun r e=>by cases e)⟩
theorem Z16 (m:Msn) (vw vh vr:Value) (w:World) (hm:MsnAt w.heap.size w m vw vh vr) (h13:m.ways.length≤13) :
  Calls Tryz.prog 11 #[.agg (Zc m vw vh vr)] w fun e w'=>∃ v,e=.returned (.tuple #[.int .i64 (rfG m),v,.bool (rfB m),.int .i64 (plE m)])∧Z9 w'.heap.size w' v (rfL m)∧Below w.heap.size w w'∧∀ r,v.ownBlock=some r→w.heap.size≤r:=by
 cases hV:validB m
 ·simp only [bsB,bsL,rfB,rfL,rfG,plE,hV,Bool.false_and,Bool.false_eq_true,if_false]
  have f1:=fun w1 (B:Below w.heap.size w w1)=>Zb0 m vw vh vr w1 ((hm.below B).mono B.size) hV
  obtain⟨⟨-,a1,c1,rfl,-⟩,⟨-,a2,c2,rfl,-⟩,⟨-,a3,c3,rfl,-⟩⟩:=hm;unfold Zc at *;replace f1:=Lib.hid f1;have BW:=Lib.hid (Below.refl w.heap.size w);go_enter Tryz.func11,Tryz.ntmps11;go_wp2_with fail;generalize hXX0:World.alloc w _=X0;obtain⟨q0,hA,hzX0⟩:=box1 hXX0;clear hXX0;have BW:=Lib.hid hA;clear hA;have MB:=Lib.hid q0;clear q0;refine (f1.out _ BW.out).mono ?_;rintro e w1 ⟨rfl,b1⟩;replace BW:=zAi BW b1;have B_X0:=Lib.hid b1;clear b1;go_wp2;refine bodyPost_ret (v:=.tuple #[.int .i64 0,.slice none 0 0,.bool false,.int .i64 1]) (by simp [results,Tryz.f11,go_sem]) rfl ⟨_,rfl,Z9.nil _ _,BW.out,(fun r e=>by cases e)⟩
 ·have n2:=((Zn m).1 hV).n2
  have bt:=Z2U m;have f1:=fun w1 (B:Below w.heap.size w w1)=>Z9w m vw vh vr w1 ((hm.below B).mono B.size) hV h13
  obtain⟨⟨-,a1,c1,rfl,-⟩,⟨-,a2,c2,rfl,-⟩,⟨-,a3,c3,rfl,-⟩⟩:=hm;simp only [bsB,bsL,rfB,rfL,rfG,plE,hV,Bool.true_and,if_true];unfold Zc at *;have jw:IntKind.i64.wrap ((m.ways.length:Int)-1)=((m.ways.length-1:Nat):Int):=by rw [show ((m.ways.length:Int)-1)=((m.ways.length-1:Nat):Int) by omega];exact zW2
  obtain⟨n1,hn1⟩:∃ n1,m.ways.length-1=n1:=⟨_,rfl⟩;simp only [hn1] at jw bt ⊢;obtain⟨b1,b2,hbp⟩:∃ b1 b2,bestP m=(b1,b2):=⟨_,_,rfl⟩;simp only [hbp] at f1 bt ⊢;clear hbp;replace f1:=Lib.hid f1;clear hn1;have BW:=Lib.hid (Below.refl w.heap.size w);by_cases heq:b1=n1
  all_goals simp only [heq,decide_true,decide_false,Bool.not_true,Bool.not_false,if_true,Bool.false_eq_true,if_false]
  ·subst heq
   have e1:((n1:Int) == (n1:Int))=true:=by simp
   have e2:decide ((n1:Int)<(n1:Int))=false:=by simp
   go_enter Tryz.func11,Tryz.ntmps11;go_wp2_with fail;generalize hXX0:World.alloc w _=X0;obtain⟨q0,hA,hzX0⟩:=box1 hXX0;clear hXX0;have BW:=Lib.hid hA;clear hA;have MB:=Lib.hid q0;clear q0;refine (f1.out _ BW.out).mono ?_;rintro e w1 ⟨v1,rfl,p1,b1,n1'⟩;replace BW:=zAi BW b1;have B_X0:=Lib.hid b1;clear b1;have PI:=Lib.hid p1;clear p1;have HN:=Lib.hid n1';clear n1';obtain⟨-,g1,k1,hv1,-⟩:=PI.out;subst hv1;have c0:=(zCq MB B_X0).cell (i:=0) rfl;go_wp2;refine bodyPost_ret (v:=.tuple #[.int .i64 0,.slice none 0 0,.bool false,.int .i64 0]) (by simp [results,Tryz.f11,go_sem]) rfl ⟨_,rfl,Z9.nil _ _,BW.out,(fun r e=>by cases e)⟩
  ·have e1:((b1:Int) == (n1:Int))=false:=by rw [beq_eq_false_iff_ne];exact heq
   have e2:decide ((b1:Int)<(n1:Int))=true:=by rw [decide_eq_true_eq];omega
   clear bt;go_enter Tryz.func11,Tryz.ntmps11;go_wp2_with fail;generalize hXX0:World.alloc w _=X0;obtain⟨q0,hA,hzX0⟩:=box1 hXX0;clear hXX0;have BW:=Lib.hid hA;clear hA;have MB:=Lib.hid q0;clear q0;refine (f1.out _ BW.out).mono ?_;rintro e w1 ⟨v1,rfl,p1,b1,n1'⟩;replace BW:=zAi BW b1;have B_X0:=Lib.hid b1;clear b1;have PI:=Lib.hid p1;clear p1;have HN:=Lib.hid n1';clear n1';obtain⟨-,g1,k1,hv1,-⟩:=PI.out;subst hv1;have c0:=(zCq MB B_X0).cell (i:=0) rfl;go_wp2;refine bodyPost_ret (v:=.tuple #[.int .i64 b1,.slice g1 b2.length (b2.length+k1),.bool true,.int .i64 0]) (by simp [results,Tryz.f11,go_sem]) rfl ⟨_,rfl,PI.out,BW.out,(fun r e=>by have:=HN.out r e;omega)⟩
end
end Go.Proofs.YtcfkhkgldboddaaGreat
