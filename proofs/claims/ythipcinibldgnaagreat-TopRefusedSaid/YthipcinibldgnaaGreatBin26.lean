/- package plan: fixes. | package plan: farthest: what its rounds keep. | package plan: farthest. | package plan: Best, Refused. | The head of the law .. -/
import Derived.Test.YthipcinibldgnaaGreatBin25
import Derived.Test.YthipcinibldgnaaGreatBin20
open Go.Value renaming int->O,pointer->qP,slice->qS
open Go.Ending renaming returned->qR
open Go.IntKind renaming wrap->qW,i64->qL
open Go.Lib renaming hid->qH
open Go.RowKit.Below renaming refl->qK
open Go.World renaming alloc->qV
open Go.Act renaming put->qJ
set_option linter.unusedSimpArgs false
set_option linter.unusedVariables false
set_option maxRecDepth 8000
set_option maxHeartbeats 6400000
namespace Go.Proofs.YthipcinibldgnaaGreat
section
open Go.RowKit
theorem zTq {p:Prop} [Decidable p] (h:p:=by omega):decide p=true:=decide_eq_true h
end
section
attribute [local irreducible] wpQuiet
open Go.RowKit
def fixTo (m:Msn):Nat->List Int
 | 0=>[]
 | k+1=>if 0<k/\0<(wy m.ways k).fix then fixTo m k++[(k:Int)] else fixTo m k
def fixL (m:Msn):List Int:=fixTo m m.ways.length
theorem Z0g (m:Msn):∀ k,(fixTo m k).length<=k-1
 | 0=>by simp [fixTo]
 | k + 1 => by
  have:=Z0g m k;unfold fixTo
  split
  ·rw [List.length_append];simp only [List.length_cons,List.length_nil];omega
  ·omega
theorem Z0W (m : Msn) : ∀ k x, x ∈ fixTo m k ↔ ∃ j : Nat, x = j /\ j < k /\ 0 < j /\ 0 < (wy m.ways j).fix
 | 0,x=>by simp [fixTo]
 | k + 1, x => by
  unfold fixTo;constructor
  ·intro h
   split at h
   ·rename_i hc
    rcases List.mem_append.1 h with h | h
    ·obtain⟨j,e,h1,h2⟩:=(Z0W m k x).1 h
     exact⟨j,e,by omega,h2⟩
    ·exact⟨k,by simpa using h,by omega,hc⟩
   ·obtain⟨j,e,h1,h2⟩:=(Z0W m k x).1 h
    exact⟨j,e,by omega,h2⟩
  ·rintro ⟨j,e,h1,h2⟩
   rcases Nat.lt_succ_iff_lt_or_eq.1 h1 with h | h
   ·have:=(Z0W m k x).2 ⟨j,e,h,h2⟩
    split
    ·exact List.mem_append.2 (.inl this)
    ·exact this
   ·subst h
    rw [if_pos h2,e];simp
theorem Z1h (m:Msn):∀ k,(fixTo m k).Pairwise (·<·)
 | 0=>by simp [fixTo]
 | k + 1 => by
  unfold fixTo
  split
  ·rw [List.pairwise_append]
   refine⟨Z1h m k,by simp,fun a ha b hb=>?_⟩
   obtain⟨j,e,h1,_⟩:=(Z0W m k a).1 ha;obtain rfl:b=k:=by simpa using hb
   omega
  ·exact Z1h m k
theorem Z9W (m : Msn) (vw vh vr : Value) (w : World) (hm : MsnAt w.heap.size w m vw vh vr) (h41 : m.ways.length <= 100000) :
  Calls Tryz.prog 75 #[.agg (Zc m vw vh vr)] w fun e w'=>∃ v,e=qR v/\Z8 w'.heap.size w' v (fixL m)/\Below w.heap.size w w'/\∀ r,v.ownBlock=some r->w.heap.size<=r:=by
 obtain⟨⟨-,a1,c1,rfl,hcw⟩,⟨-,a2,c2,rfl,-⟩,⟨-,a3,c3,rfl,-⟩⟩:=hm;obtain⟨i0,hi,hz0',hz1',hz2'⟩:=info_parts intInfo;have HW:=qH hcw;clear hcw;unfold Zc;have hA:=qH ((qK w.heap.size w).alloc (Nat.le_refl _) (.cells #[qS a1 m.ways.length (m.ways.length+c1),qS a2 m.home.length (m.home.length+c2),O qL m.start,qS a3 m.rocks.length (m.rocks.length+c3),O qL m.speed,O qL m.part,O qL m.flow,O qL m.idle,O qL m.drive,O qL m.battery,O qL m.deadline] 26));go_enter Tryz.func75,Tryz.ntmps75;go_wp2
 go_loopw [3,9] (fun v i wr=>∃ k:Nat,k<=m.ways.length/\i=O qL (k:Int)/\wr.ownsRow w.heap.size 3 1 v (fixTo m k).length ((fixTo m k).map (O qL))/\Below w.heap.size w wr) (fun _ i _=>m.ways.length-(intOf i).toNat)
 case atStart=>exact⟨0,by omega,rfl,World.ownsRow_nil _ _ _ _,hA.out⟩
 case round =>
  obtain⟨k,hk,rfl,hrow,hB⟩:=hrel;obtain⟨wo,hwo⟩:∃ x,x=wr:=⟨_,rfl⟩;subst hwo;have hzB:=hB.size;by_cases hlt:k<m.ways.length
  ·obtain⟨b,o,rfl,hb,hcc⟩:=HW.out.resolve_left (by intro h;rw [h] at hlt;simp at hlt)
   obtain⟨q0,q1,q2,q3,q4⟩:=hcc k hlt;have e0:=(hB.cell (p:=⟨b,o+k*5,none⟩) hb).trans q0;have e1:=(hB.cell (p:=⟨b,o+k*5+1,none⟩) hb).trans q1;have e2:=(hB.cell (p:=⟨b,o+k*5+2,none⟩) hb).trans q2;have e3:=(hB.cell (p:=⟨b,o+k*5+3,none⟩) hb).trans q3;have e4:=(hB.cell (p:=⟨b,o+k*5+4,none⟩) hb).trans q4;have hlen:=Z0g m k;have hst:Hid (fixTo m (k+1)=if 0<k/\0<(wy m.ways k).fix then fixTo m k++[(k:Int)] else fixTo m k):=rfl
   obtain⟨cl,hcl⟩:∃ cl,fixTo m k=cl:=⟨_,rfl⟩;rw [hcl] at hrow hst hlen;have dk:decide ((k:Int)<(m.ways.length:Int))=true:=by simp;omega
   have kl:(k:Int)<m.ways.length:=by omega
   have k0:(0:Int)<=k:=by omega
   generalize (wy m.ways k).x=px at *;generalize (wy m.ways k).y=py at *;generalize (wy m.ways k).fix=pf at *;generalize (wy m.ways k).wait=pw at *;generalize (wy m.ways k).back=pb at *;have HR:=qH hrow;have HB:=qH hB;clear hcc q0 q1 q2 q3 q4 hrow hB hcl;by_cases hp:0<k/\0<pf
   ·have d1:decide ((k:Int)>0)=true:=zTq
    have d2:decide (pf>0)=true:=zTq;have HS:=qH (hst.out.trans (if_pos hp));have hp1:=hp.1;have hp2:=hp.2;clear hst hp;have R2:=qH (HR.out.alloc (.cells #[.int .i64 px,.int .i64 py,.int .i64 pf,.int .i64 pw,.int .i64 pb] 65));go_wp2_with (at_builtin;refine wpList_append_own _ rfl _ _ 29 rfl w.heap.size 3 i0 (.int .i64 0) 1 8 Tryz.underlying29 hi hz0' hz1' hz2' rfl (by decide) _ _ _ rfl (R2.out.alloc _) ⟨wo.heap.size+1,0,none⟩ 1 1 [.int .i64 (k:Int)] rfl rfl (fun j u hj=>by have:=cell_one_new (wo.alloc (.cells #[.int .i64 px,.int .i64 py,.int .i64 pf,.int .i64 pw,.int .i64 pb] 65)) (.int .i64 (k:Int)) 3 j u hj;rw [World.size_alloc] at this;exact this) (by simp [Value.oneCell']) (by unfold maxLen;omega) (by omega) (by simp;omega) ?_;intro v' w4 hown' hgrow _)
    go_roundw
    case rel =>
     have hb0:Below w.heap.size wo w4:=(((qK w.heap.size wo).alloc (by omega) _).alloc (by simp;omega) _).grown hgrow (by simp;omega) (fun j ej=>(R2.out.lt j ej).1)
     refine⟨k+1,by omega,by go_num,?_,HB.out.trans hb0⟩
     rw [HS.out]
     simpa using hown'
    case measure=>simp [intOf];omega
   ·have HS:=qH (hst.out.trans (if_neg hp))
    clear hst;have R2:=qH (HR.out.alloc (.cells #[O qL px,O qL py,O qL pf,O qL pw,O qL pb] 65));have B2:=qH (HB.out.alloc hzB (.cells #[O qL px,O qL py,O qL pf,O qL pw,O qL pb] 65));by_cases hk0:0<k
    ·have d1:decide ((k:Int)>0)=true:=zTq
     have d2:decide (pf>0)=false:=by rw [decide_eq_false_iff_not];omega
     have hp2:¬ 0<pf:=by omega
     clear hp;go_wp2;go_roundw
     case rel=>exact⟨k+1,by omega,by go_num,by rw [HS.out];exact R2.out,B2.out⟩
     case measure=>simp [intOf];omega
    ·have d1:decide ((k:Int)>0)=false:=by rw [decide_eq_false_iff_not];omega
     clear hp;go_wp2;go_roundw
     case rel=>exact⟨k+1,by omega,by go_num,by rw [HS.out];exact R2.out,B2.out⟩
     case measure=>simp [intOf];omega
  ·obtain rfl:k=m.ways.length:=by omega
   have dk:decide ((m.ways.length:Int)<(m.ways.length:Int))=false:=by simp
   have HI:=qH (Z8.own hrow (by have:=Z0g m m.ways.length;omega))
   have HN:=qH (fun r e=>(hrow.lt r e).1)
   have HB:=qH hB;clear hrow hB;go_wp2;go_ret;exact⟨_,rfl,HI.out,HB.out,HN.out⟩
end
section
open Go.RowKit
noncomputable def bestP (m:Msn):Int × List Int:=farL (kpL m) (allTo (fixL m) ((fixL m).length+1))
theorem Z3P (l:List Int) {k:Nat}:∀ {n:Nat},k<n->∃ R,allTo l n=allTo l k++(combos l k++R)
 | n + 1, h => by
  rcases Nat.lt_succ_iff_lt_or_eq.1 h with h | h
  ·obtain⟨R,hR⟩:=Z3P l h
   exact⟨R++combos l n,by rw [Z1G,hR];simp⟩
  ·subst h
   exact⟨[],by rw [Z1G];simp⟩
theorem Zax (m:Msn) {k:Nat} {pre u:List (List Int)} {n1:Int} (ht:∀ l,kpL m l<=n1) (hu:pre++u=combos (fixL m) k) (hk:k<(fixL m).length+1)
  (htp:(pre.foldl (farS (kpL m)) ((allTo (fixL m) k).foldl (farS (kpL m)) (-1,[]))).1=n1):pre.foldl (farS (kpL m)) ((allTo (fixL m) k).foldl (farS (kpL m)) (-1,[]))=bestP m:=by
 obtain⟨R,hR⟩:=Z3P (fixL m) hk;unfold bestP farL;rw [hR,<- hu,List.foldl_append,List.foldl_append,List.foldl_append,Za3 (kpL m) ht htp u,Za3 (kpL m) ht htp R]
theorem Boxed.store {W:World} {B:Nat} {t:TypeId} {v:Value} (h:Boxed W B t v):W.setCell ⟨B,0,none⟩ v=W:=by
 have hlt:=h.lt;have hv:W.heap[B]=.cells #[v] t (0,0):=(Array.getElem?_eq_some_iff.1 h).2;unfold World.setCell;cases W with
 | mk heap tape drawn os output =>
  congr 1
  apply Array.ext
  ·simp
  ·intro k h1 h2
   simp only [Array.getElem_modify]
   split
   ·rename_i hk;subst hk;simp at hv;simp [hv]
   ·rfl
structure FarI (BL BS BE:Nat) (w w2:World) (st:Int × List Int) (ds:List Nat) (v:Value) (W:World):Prop where
 leg:Boxed W BL 3 (O qL st.1)
 sto:Boxed W BS 29 v
 err:Boxed W BE 30 (O qL 0)
 val:Z8 W.heap.size W v st.2
 low:Below w.heap.size w W
 kee:KeepsP (fun b=>b<w2.heap.size/\b≠BL/\b≠BS/\b≠BE) w2 W
 mar:∀ D,D ∈ ds->w2.heap.size<=D/\W.heap[D]?=some (.deferred (some []))
 nod:ds.Nodup
 new:∀ r,v.ownBlock=some r->w2.heap.size<=r/\r<W.heap.size
structure FarB (BL BS BE:Nat) (w w2:World):Prop where
 l:BL<w2.heap.size/\w.heap.size<=BL
 s:BS<w2.heap.size/\w.heap.size<=BS
 e:BE<w2.heap.size/\w.heap.size<=BE
 ls:BL≠BS
 le:BL≠BE
 se:BS≠BE
 w:w.heap.size<=w2.heap.size
section
variable {BL BS BE:Nat} {w w2:World} {st:Int × List Int} {ds:List Nat} {v:Value} {W X:World}
theorem Z8.offG {l : List Int} {row : Option Nat} (h : Z8 W.heap.size W v l) (hg : W.grownBy X row) (hne : ∀ r, row = some r -> l = [] \/ v.ownBlock ≠ some r) : Z8 X.heap.size X v l := by
 obtain⟨hl,a,cap,e,hc⟩:=h;refine⟨hl,a,cap,e,?_⟩;rcases hc with hc | ⟨b,o,e1,hb,hc⟩
 ·exact .inl hc
 ·by_cases hl0:l=[]
  ·exact .inl hl0
  ·refine .inr ⟨b,o,e1,Nat.lt_of_lt_of_le hb hg.size,fun j hj=>?_⟩
   have hbn:some b≠row:=fun er=>by
    rcases hne b er.symm with h | h
    ·exact hl0 h
    ·exact h (by rw [e,e1];rfl)
   exact (World.cell?_of_block (hg.block b hb hbn)).trans (hc j hj)
theorem FarI.off (hB:FarB BL BS BE w w2) (h:FarI BL BS BE w w2 st ds v W) {row:Option Nat} (hg:W.grownBy X row) (hne:∀ r,row=some r->w2.heap.size<=r/\r ∉ ds/\(st.2=[]\/v.ownBlock≠some r)):FarI BL BS BE w w2 st ds v X:=by
 have hlt:∀ b,b<w2.heap.size->some b≠row:=fun b hb e=>by have:=(hne b e.symm).1;omega
 have hk:=h.kee.1;refine⟨h.leg.kept hg (hlt _ hB.l.1),h.sto.kept hg (hlt _ hB.s.1),h.err.kept hg (hlt _ hB.e.1),h.val.offG hg (fun r e=>(hne r e).2.2),h.low.grown hg (by have:=hB.w;omega) (fun k e=>by have:=(hne k e).1;have:=hB.w;omega),⟨Nat.le_trans hk hg.size,fun b hb=>(hg.block b (by omega) (hlt b hb.1)).trans (h.kee.2 b hb)⟩,fun D hD=>⟨(h.mar D hD).1,?_⟩,h.nod,fun r e=>⟨(h.new r e).1,Nat.lt_of_lt_of_le (h.new r e).2 hg.size⟩⟩
 have m:=(h.mar D hD).2;exact (hg.block D (Array.getElem?_eq_some_iff.1 m).1 (fun e=>(hne D e.symm).2.1 hD)).trans m
theorem FarI.below (hB:FarB BL BS BE w w2) (h:FarI BL BS BE w w2 st ds v W) (k:Below W.heap.size W X):FarI BL BS BE w w2 st ds v X :=
 h.off hB (row:=none) ⟨k.os,k.tape,k.output,k.size,fun b hb _=>k.block b hb⟩ (fun r e=>by cases e)
theorem FarI.upd (hB:FarB BL BS BE w w2) (h:FarI BL BS BE w w2 st ds v W) {st':Int × List Int} {v':Value} (hv:Z8 W.heap.size W v' st'.2) (hn:∀ r,v'.ownBlock=some r->w2.heap.size<=r/\r<W.heap.size) :
  FarI BL BS BE w w2 st' ds v' ((W.setCell ⟨BL,0,none⟩ (O qL st'.1)).setCell ⟨BS,0,none⟩ v'):=by
 obtain⟨hl,hs,he,n1,n2,n3,hw⟩:=hB;have hoff:∀ (b:Nat) (u:Value),b<w2.heap.size->∀ {Y:World} {l:List Int} {vv:Value},(∀ r,vv.ownBlock=some r->w2.heap.size<=r)->Z8 Y.heap.size Y vv l->Z8 (Y.setCell ⟨b,0,none⟩ u).heap.size (Y.setCell ⟨b,0,none⟩ u) vv l:=fun b u hb Y l vv hnn hI =>
  hI.offG (grownBy_setCell' Y b u) (fun r e=>.inr fun e2=>by cases e;have:=hnn b e2;omega)
 refine⟨((h.leg.set _).other n1 _),(h.sto.other n1.symm _).set _,(h.err.other n2.symm _).other n3.symm _,hoff _ _ hs.1 (fun r e=>(hn r e).1) (hoff _ _ hl.1 (fun r e=>(hn r e).1) hv),(h.low.setCell (p:=⟨BL,0,none⟩) hl.2 _).setCell (p:=⟨BS,0,none⟩) hs.2 _,⟨by simpa using h.kee.1,fun b hb=>?_⟩,fun D hD=>⟨(h.mar D hD).1,?_⟩,h.nod,fun r e=>by simpa using hn r e⟩
 ·rw [Below.heap_setCell _ _ _ b hb.2.2.1,Below.heap_setCell _ _ _ b hb.2.1];exact h.kee.2 b hb
 ·have:=(h.mar D hD).1
  rw [Below.heap_setCell _ _ _ D (by simp only;omega),Below.heap_setCell _ _ _ D (by simp only;omega)];exact (h.mar D hD).2
theorem FarI.keeps (hB:FarB BL BS BE w w2) (h:FarI BL BS BE w w2 st ds v W) (hz:W.heap.size<=X.heap.size) (hk:∀ b,b<W.heap.size->b≠BL->b≠BS->b≠BE->X.heap[b]?=W.heap[b]?) (B B2:Nat) (hB2:w2.heap.size<=B2) (q:Nat->Prop) (hq:∀ b,q b->b<W.heap.size/\b≠BL/\b≠BS/\b≠BE):KeepsFrom B W X/\chK q B2 W X:=by
 obtain⟨hl,hs,he,-⟩:=hB;refine⟨⟨hz,fun k o _ hko ho=>?_⟩,hz,fun b hb=>?_⟩
 ·have hlt:=(Array.getElem?_eq_some_iff.1 hko).1
  have n1:k≠BL:=fun e=>by subst e;rw [show W.heap[k]?=_ from h.leg] at hko;cases hko;cases ho
  have n2:k≠BS:=fun e=>by subst e;rw [show W.heap[k]?=_ from h.sto] at hko;cases hko;cases ho
  have n3:k≠BE:=fun e=>by subst e;rw [show W.heap[k]?=_ from h.err] at hko;cases hko;cases ho
  exact (hk k hlt n1 n2 n3).trans hko
 ·rcases hb with hb | hb
  ·have:=hq b hb;exact hk b this.1 this.2.1 this.2.2.1 this.2.2.2
  ·exact hk b hb.2 (by omega) (by omega) (by omega)
theorem FarI.own (hB : FarB BL BS BE w w2) {B : Nat} (hBz : w2.heap.size <= B) (F : List (Value × List Int) -> Int × List Int) (hds : ∀ D ∈ ds, D < B) (p : List (Value × List Int) -> Prop) :
  OwnD chOwn B (fun s W=>p s/\∃ v,FarI BL BS BE w w2 (F s) ds v W/\∀ r,v.ownBlock=some r->r<B\/∃ x,x ∈ s/\x.1.ownBlock=some r):=by
 rintro s W X row ⟨hp,v,h,hv⟩ hg hr;refine⟨hp,v,h.off hB hg fun r e=>?_,hv⟩
 obtain⟨o,ho,hc⟩:=hr r e;have hge:B<=r:=by
  rcases hc with⟨_,hc⟩ | ⟨_,hc⟩
  ·have:=hc.1;omega
  ·exact hc
 refine⟨by omega,fun hD=>by have:=hds r hD;omega,?_⟩
 by_cases hl:(F s).2=[]
 ·exact .inl hl
 ·refine .inr fun ev=>?_
  rcases hv r ev with h1 | ⟨x,hx,h1⟩
  ·omega
  ·rcases hc with⟨_,hc⟩ | ⟨hc,_⟩
   ·exact hc.2 x hx h1
   ·obtain⟨_,a,cap,e1,hcells⟩:=h.val
    obtain⟨b,o',e2,hb,hcc⟩:=hcells.resolve_left hl;have hbr:b=r:=by rw [e1,e2] at ev;simpa [Value.ownBlock] using ev
    have h0:0<(F s).2.length:=List.length_pos_iff.2 hl;obtain⟨o2,ho2,hoc⟩:=cells_of_cell (hcc 0 h0);rw [show (⟨b,o'+0,none⟩:Addr).block=r from hbr,ho] at ho2
    cases ho2;rw [hc] at hoc;cases hoc
theorem FarI.leave {F:Fence} {n:Nat} {P:Program} {fn:Func} {tmps:Array Value} {R:Ending->World->Prop} (hB:FarB BL BS BE w w2):∀ (ds:List Nat) (W:World),FarI BL BS BE w w2 st ds v W->(∀ W',FarI BL BS BE w w2 st [] v W'->LeavesIn F n P fn tmps R [] .returning W') ->
  LeavesInM F n P fn tmps R (ds.map fun D=>{ target:=.collected D,args:=#[] }) .returning W
 | [],W,h,hl=>hl W h
 | D :: ds, W, h, hl => by
  have m:=h.mar D (by simp)
  have nd:=List.nodup_cons.1 h.nod;refine⟨by simp,.inl ⟨D,_,rfl,run_takeDeferred m.2,?_⟩⟩
  refine FarI.leave hB ds _ ?_ hl;have h1:FarI BL BS BE w w2 st ds v W:=⟨h.leg,h.sto,h.err,h.val,h.low,h.kee,fun E hE=>h.mar E (by simp [hE]),nd.2,h.new⟩
  refine h1.off hB (grownBy_putObj' W D _) fun r e=>?_
  cases e;refine⟨m.1,nd.1,?_⟩;by_cases hl:st.2=[]
  ·exact .inl hl
  ·refine .inr fun ev=>?_
   obtain⟨_,a,cap,e1,hcells⟩:=h.val;obtain⟨b,o',e2,hb,hcc⟩:=hcells.resolve_left hl;have hbr:b=D:=by rw [e1,e2] at ev;simpa [Value.ownBlock] using ev
   have h0:0<st.2.length:=List.length_pos_iff.2 hl;obtain⟨o2,ho2,hoc⟩:=cells_of_cell (hcc 0 h0);rw [show (⟨b,o'+0,none⟩:Addr).block=D from hbr,m.2] at ho2
   cases ho2;cases hoc
end
end
section
attribute [local go_sem] Oper.semAt_some
attribute [local irreducible] wpQuiet
open Go.RowKit
theorem Z9u (m:Msn) (l:List Int):kpL m l<=((m.ways.length-1:Nat):Int):=by
 unfold kpL leadV;have:=(Z0x m l).1
 split <;> omega
theorem Za2 (m : Msn) (vw vh vr : Value) (w : World) (hm : MsnAt w.heap.size w m vw vh vr) (hV : validB m = true) (h13 : m.ways.length <= 13) :
  Calls Tryz.prog 33 #[.agg (Zc m vw vh vr)] w fun e w'=>∃ v,e=qR (.tuple #[O qL (bestP m).1,v,O qL 0])/\Z8 w'.heap.size w' v (bestP m).2/\Below w.heap.size w w'/\∀ r,v.ownBlock=some r->w.heap.size<=r:=by
 have f1:=fun w1 (B:Below w.heap.size w w1)=>Z0L m vw vh vr w1 ((hm.below B).mono B.size)
 rw [hV] at f1;have f2:=fun w1 (B:Below w.heap.size w w1)=>Z9W m vw vh vr w1 ((hm.below B).mono B.size) (by omega)
 have f3:=fun vl l w1 (B:Below w.heap.size w w1) hl=>Z0N m vw vh vr vl l w1 ((hm.below B).mono B.size) hl
 have n2:=((Zj m).1 hV).n2;have htop:=fun l=>Z9u m l
 obtain⟨⟨-,a1,c1,rfl,-⟩,⟨-,a2,c2,rfl,-⟩,⟨-,a3,c3,rfl,-⟩⟩:=hm;unfold Zc at *;have hfl:(fixL m).length<=m.ways.length-1:=Z0g m m.ways.length;replace f1:=qH f1;replace f2:=qH f2;replace f3:=qH f3;replace htop:=qH htop;have BW:=qH (qK w.heap.size w);refine (callsIn_wide (n:=9)).1 ?_;refine callsIn_of_wp_marks Tryz.func33 rfl trivial ?_ rfl;simp only [Tryz.ntmps33,List.size_toArray,List.length_cons,List.length_nil,Nat.reduceAdd,Nat.reduceSub,Array.replicate_succ,Array.replicate_zero,List.push_toArray,List.append_toArray,List.nil_append,List.cons_append];refine wpIn_wide.2 ?_;go_wp2_with fail;generalize hXX0:qV (qV (qV (qV w _) _) _) _=X0;obtain⟨q0,q1,q2,q3,hA,hzX0⟩:=box4 hXX0;clear hXX0;have BW:=qH hA;clear hA;have MB:=qH q0;clear q0;have LB:=qH q1;clear q1;have SB:=qH q2;clear q2;have EB:=qH q3;clear q3;obtain⟨c0,c1,c2,c3,c4,c5,c6,c7,c8,c9,c10⟩:=Zg (m:=m) MB.out;refine (f1.out _ BW.out).mono ?_;rintro e w1 ⟨rfl,b1⟩;replace BW:=zAf BW b1;have B_X0:=qH b1;clear b1 c0 c1 c2 c3 c4 c5 c6 c7 c8 c9 c10;obtain⟨c0,c1,c2,c3,c4,c5,c6,c7,c8,c9,c10⟩:=Zg (m:=m) (zCl MB B_X0);go_wp2_with fail;have hzw1:=qH (show w.heap.size+4<=w1.heap.size by have:=B_X0.out.size;omega)
 refine (f2.out _ BW.out).mono ?_;rintro e w2 ⟨v2,rfl,p2,b2,n2'⟩;replace BW:=zAf BW b2;replace B_X0:=zAf B_X0 b2;clear b2;have FX:=qH p2;clear p2;obtain⟨hfl2,af,cf,hvf,hcf⟩:=FX.out;subst hvf;have NF:=qH n2';have CF:=qH hcf;clear n2' hcf c0 c1 c2 c3 c4 c5 c6 c7 c8 c9 c10;obtain⟨c0,c1,c2,c3,c4,c5,c6,c7,c8,c9,c10⟩:=Zg (m:=m) (zCl MB B_X0);clear c0 c1 c2 c3 c4 c5 c6 c7 c8 c9 c10;have dk:decide (((fixL m).length:Int)>12)=false:=by rw [decide_eq_false_iff_not];omega
 have jw:qW qL (((fixL m).length:Int)+1)=((fixL m).length:Int)+1:=zW2;have h2:=(zCl LB B_X0);have l0:w2.cell? ⟨w.heap.size+1,0,none⟩=some (O qL 0):=h2.cell (i:=0) rfl;have l1:=Ze h2 0;have hzw2:=qH (show w.heap.size+4<=w2.heap.size by have:=B_X0.out.size;omega)
 have ltw2:=hzw2.out;have HX2:=qH (And.intro (zCl MB B_X0) (And.intro h2 (And.intro (zCl SB B_X0) (zCl EB B_X0))));clear h2;go_wp2;clear l0 l1;generalize hZ:World.setCell w2 _ _=Z;have FB:FarB (w.heap.size+1) (w.heap.size+1+1) (w.heap.size+1+1+1) w Z:=by subst hZ;exact⟨by simp;omega,by simp;omega,by simp;omega,by omega,by omega,by omega,by simp;omega⟩
 have ZS:Z.heap.size=w2.heap.size:=by subst hZ;simp
 have ZK:∀ b,b≠(w.heap.size+1)->Z.heap[b]?=w2.heap[b]?:=fun b hb=>by subst hZ;exact Below.heap_setCell _ _ _ b hb
 have FI0:FarI (w.heap.size+1) (w.heap.size+1+1) (w.heap.size+1+1+1) w Z (-1,[]) [] (qS none 0 0) Z:=by
  obtain⟨-,g1,g2,g3⟩:=HX2.out;subst hZ;exact⟨Boxed.set _ g1,(ZK _ (by omega)).trans g2,(ZK _ (by omega)).trans g3,Z8.nil _ _,BW.out.setCell (p:=⟨w.heap.size+1,0,none⟩) (by simp) _,KeepsP.refl _ _,(fun D hD=>by cases hD),List.nodup_nil,(fun r e=>by cases e)⟩
 have HMB:Has Z w.heap.size _ 26:=(ZK _ (by omega)).trans HX2.out.1
 have HCF:(fixL m)=[]\/∃ b o,af=some ⟨b,o,none⟩/\b<Z.heap.size/\w.heap.size+4<=b/\∀ j,j<(fixL m).length->Z.cell? ⟨b,o+j,none⟩=some (O qL ((fixL m).getD j 0)):=by
  rcases CF.out with h | ⟨b,o,e1,hb,hc⟩
  ·exact .inl h
  ·have hnb:=NF.out b (by rw [e1];rfl)
   have:=hzw1.out;exact .inr ⟨b,o,e1,by omega,by omega,fun j hj=>(World.cell?_of_block (ZK b (by omega))).trans (hc j hj)⟩
 replace FB:=qH FB;replace FI0:=qH FI0;replace HMB:=qH HMB;replace HCF:=qH HCF;clear hZ ZK HX2 CF NF hzw1 hzw2 ltw2 ZS BW B_X0 MB LB SB EB FX;refine wp_loop (fun a' W'=>∃ (u6 u7 u8 u9 u10 u23 u24 u25 u26 u27 u28 u29 u30 u31 u32 u33 u34 u35 u36 u37 u38 u39 u40 u41 u42 u43 u44 u45 u46 u47 u48 u49 u50 u51:Value) (k:Nat) (ds:List Nat) (v:Value),k<=(fixL m).length+1/\FarI (w.heap.size+1) (w.heap.size+1+1) (w.heap.size+1+1+1) w Z ((allTo (fixL m) k).foldl (farS (kpL m)) (-1,[])) ds v W'/\a'={ tmps:=#[.agg #[qS a1 m.ways.length (m.ways.length+c1),qS a2 m.home.length (m.home.length+c2),O qL m.start,qS a3 m.rocks.length (m.rocks.length+c3),O qL m.speed,O qL m.part,O qL m.flow,O qL m.idle,O qL m.drive,O qL m.battery,O qL m.deadline],qP (some ⟨w.heap.size,0,none⟩),qP (some ⟨w.heap.size+1,0,none⟩),qP (some ⟨w.heap.size+1+1,0,none⟩),qP (some ⟨w.heap.size+1+1+1,0,none⟩),qS af (fixL m).length ((fixL m).length+cf),u6,u7,u8,u9,u10,.agg #[qS a1 m.ways.length (m.ways.length+c1),qS a2 m.home.length (m.home.length+c2),O qL m.start,qS a3 m.rocks.length (m.rocks.length+c3),O qL m.speed,O qL m.part,O qL m.flow,O qL m.idle,O qL m.drive,O qL m.battery,O qL m.deadline],.bool true,.bool false,.agg #[qS a1 m.ways.length (m.ways.length+c1),qS a2 m.home.length (m.home.length+c2),O qL m.start,qS a3 m.rocks.length (m.rocks.length+c3),O qL m.speed,O qL m.part,O qL m.flow,O qL m.idle,O qL m.drive,O qL m.battery,O qL m.deadline],qS af (fixL m).length ((fixL m).length+cf),qS af (fixL m).length ((fixL m).length+cf),O qL ((fixL m).length:Int),.bool false,qS af (fixL m).length ((fixL m).length+cf),O qL ((fixL m).length:Int),O qL (((fixL m).length:Int)+1),O qL (k:Int),u23,u24,u25,u26,u27,u28,u29,u30,u31,u32,u33,u34,u35,u36,u37,u38,u39,u40,u41,u42,u43,u44,u45,u46,u47,u48,u49,u50,u51],defers:=ds.map (fun D=>{ target:=.collected D,args:=#[] }) }) (fun a' _=>(fixL m).length+2-(intOf (a'.tmps.getD 22 undef)).toNat) ?_ ?_
 ·exact⟨_,_,_,_,_,_,_,_,_,_,_,_,_,_,_,_,_,_,_,_,_,_,_,_,_,_,_,_,_,_,_,_,_,_,0,[],_,by omega,FI0.out,rfl⟩
 ·rintro a' Wo ⟨u6,u7,u8,u9,u10,u23,u24,u25,u26,u27,u28,u29,u30,u31,u32,u33,u34,u35,u36,u37,u38,u39,u40,u41,u42,u43,u44,u45,u46,u47,u48,u49,u50,u51,k,ds,v,hk,hI,rfl⟩
  by_cases hkl:k<(fixL m).length+1
  ·have d1:decide ((k:Int)<((fixL m).length:Int)+1)=true:=zTq
   replace hI:=qH hI;go_wp2_with fail;refine (Z6X _ _ _ _ _).mono ?_;rintro e W1 ⟨rfl,hW1⟩;obtain⟨q0,q1,hA,hz1⟩:=box2 hW1.symm;clear hW1;go_wp2;have zk:=hI.out.kee.1;have zw1:=hA.size;have hI1:=qH (hI.out.below FB.out hA);have HCB:∀ b,b<Z.heap.size->w.heap.size+4<=b->W1.heap[b]?=Z.heap[b]?:=fun b hb h4=>(hA.block b (by omega)).trans (hI.out.kee.2 b ⟨hb,by omega,by omega,by omega⟩)
   have hseq:=Z8B (fun b=>b=Wo.heap.size+1\/b=Wo.heap.size\/∃ a,af=some a/\b=a.block/\b<Z.heap.size/\w.heap.size+4<=b) (Wo.heap.size+1) Wo.heap.size k ((fixL m).length+cf) af (fixL m) W1 (by omega) (by omega) (q1.cell (i:=0) rfl) (q0.cell (i:=0) rfl) (.inl rfl) (.inr (.inl rfl)) (fun j hj=>by
    obtain⟨b,o,e1,hb,h4,hc⟩:=HCF.out.resolve_left (by intro h;rw [h] at hj;simp at hj)
    exact⟨b,o,e1,.inr (.inr ⟨_,e1,rfl,hb,h4⟩),(World.cell?_of_block (HCB b hb h4)).trans (hc j hj)⟩) (fun b hb=>by
    rcases hb with h | h | ⟨a,-,-,h,-⟩ <;> omega)
   have hmb:=HMB.out.lt;have hfb:=FB.out;have fbl:=hfb.l;have fbs:=hfb.s;have fbe:=hfb.e;have hds:∀ D ∈ ds,D<W1.heap.size:=fun D hD=>(Array.getElem?_eq_some_iff.1 (hI1.out.mar D hD).2).1
   obtain⟨n1,hn1⟩:∃ n1,m.ways.length-1=n1:=⟨_,rfl⟩;refine (wpIn_wide (n:=9)).1 ?_;refine Z6d (by omega) (gf:=138) (lb:=#[qP (some ⟨Wo.heap.size+1,0,none⟩),qP (some ⟨Wo.heap.size,0,none⟩)]) rfl (enters_of Tryz.func138 (by kernel_rfl) rfl) hseq ?hHx (fun h k=>⟨Nat.le_trans h.1 k.1,fun b hb=>(k.2 b (by
    rcases hb with hb | hb
    ·exact .inl hb
    ·exact .inr ⟨hb.1,Nat.lt_of_lt_of_le hb.2 h.1⟩)).trans (h.2 b hb)⟩) ?hKb (qK _ _) (fun _=>rfl)
    (fun s W=>True/\∃ v,FarI (w.heap.size+1) (w.heap.size+1+1) (w.heap.size+1+1+1) w Z ((s.map (·.2)).foldl (farS (kpL m)) ((allTo (fixL m) k).foldl (farS (kpL m)) (-1,[]))) ds v W/\∀ r,v.ownBlock=some r->r<W1.heap.size\/∃ x,x ∈ s/\x.1.ownBlock=some r)
    (fun c s W=>(c=.ret/\((s.map (·.2)).foldl (farS (kpL m)) ((allTo (fixL m) k).foldl (farS (kpL m)) (-1,[]))).1=(n1:Int))/\∃ v,FarI (w.heap.size+1) (w.heap.size+1+1) (w.heap.size+1+1+1) w Z ((s.map (·.2)).foldl (farS (kpL m)) ((allTo (fixL m) k).foldl (farS (kpL m)) (-1,[]))) ds v W/\∀ r,v.ownBlock=some r->r<W1.heap.size\/∃ x,x ∈ s/\x.1.ownBlock=some r)
    (FarI.own FB.out (by omega) _ hds (fun _=>True)) (fun c=>FarI.own FB.out (by omega) _ hds (fun s=>c=.ret/\((s.map (·.2)).foldl (farS (kpL m)) ((allTo (fixL m) k).foldl (farS (kpL m)) (-1,[]))).1=(n1:Int))) ⟨trivial,v,hI1.out,fun r e=>.inl ?hvn⟩
    (fun x=>#[.agg #[qS a1 m.ways.length (m.ways.length+c1),qS a2 m.home.length (m.home.length+c2),O qL m.start,qS a3 m.rocks.length (m.rocks.length+c3),O qL m.speed,O qL m.part,O qL m.flow,O qL m.idle,O qL m.drive,O qL m.battery,O qL m.deadline],qP (some ⟨w.heap.size,0,none⟩),qP (some ⟨w.heap.size+1,0,none⟩),qP (some ⟨w.heap.size+1+1,0,none⟩),qP (some ⟨w.heap.size+1+1+1,0,none⟩),qS af (fixL m).length ((fixL m).length+cf),O qL (k:Int),x.1,u8,u9,u10,.agg #[qS a1 m.ways.length (m.ways.length+c1),qS a2 m.home.length (m.home.length+c2),O qL m.start,qS a3 m.rocks.length (m.rocks.length+c3),O qL m.speed,O qL m.part,O qL m.flow,O qL m.idle,O qL m.drive,O qL m.battery,O qL m.deadline],.bool true,.bool false,.agg #[qS a1 m.ways.length (m.ways.length+c1),qS a2 m.home.length (m.home.length+c2),O qL m.start,qS a3 m.rocks.length (m.rocks.length+c3),O qL m.speed,O qL m.part,O qL m.flow,O qL m.idle,O qL m.drive,O qL m.battery,O qL m.deadline],qS af (fixL m).length ((fixL m).length+cf),qS af (fixL m).length ((fixL m).length+cf),O qL ((fixL m).length:Int),.bool false,qS af (fixL m).length ((fixL m).length+cf),O qL ((fixL m).length:Int),O qL (((fixL m).length:Int)+1),O qL (k:Int),.bool true,O qL (k:Int),qS af (fixL m).length ((fixL m).length+cf),O qL (k:Int),.func (.func 138) #[] #[qP (some ⟨Wo.heap.size+1,0,none⟩),qP (some ⟨Wo.heap.size,0,none⟩)],x.1,u29,u30,u31,u32,u33,u34,u35,u36,u37,u38,u39,u40,u41,u42,u43,u44,u45,u46,u47,u48,u49,u50,u51]) ?assign ?body ?done ?stop
   case hHx =>
    rintro x W l o o' ⟨h1,h2⟩ hl hc;refine⟨h1.offG (grownBy_putObj' W l o') (fun r e=>?_),fun r e=>by simpa using h2 r e⟩
    cases e;by_cases hl0:x.2=[]
    ·exact .inl hl0
    ·refine .inr fun ev=>?_
     obtain⟨_,a,cap,e1,hcells⟩:=h1;obtain⟨b,o2,e2,hb,hcc⟩:=hcells.resolve_left hl0;have hbr:b=l:=by rw [e1,e2] at ev;simpa [Value.ownBlock] using ev
     obtain⟨o3,ho3,hoc⟩:=cells_of_cell (hcc 0 (List.length_pos_iff.2 hl0));rw [show (⟨b,o2+0,none⟩:Addr).block=l from hbr,hl] at ho3
     cases ho3;rw [hc] at hoc;cases hoc
   case hKb =>
    rintro W o o' h1 h2;refine⟨by simp,fun b hb=>World.putObj_heap_other ?_⟩
    rcases hb with (h | h | ⟨a,-,-,h,-⟩) | h <;> omega
   case hvn =>
    have:=(hI1.out.new r e).2;omega
   case assign =>
    rintro ll rm ⟨y,ly⟩ W K ⟨hx1,-⟩ hK;obtain⟨ay,cy,rfl⟩:∃ a c,y=qS a ly.length c:=by obtain⟨_,a,c,h,_⟩:=hx1;exact⟨a,_,h⟩
    unfold chE;gi_wp2;exact hK
   case body =>
    rintro ll rm pre x W hll ⟨r,hr⟩ ⟨-,v',hI',hv'⟩ ⟨hx1,hx2⟩ hsz;obtain⟨y,ly⟩:=x;simp only at hx1 hx2 ⊢;obtain⟨ay,cy,rfl⟩:∃ a c,y=qS a ly.length c:=by obtain⟨_,a,c,h,_⟩:=hx1;exact⟨a,_,h⟩
    have hst:Hid (((pre++[((qS ay ly.length cy:Value),ly)]).map (·.2)).foldl (farS (kpL m)) ((allTo (fixL m) k).foldl (farS (kpL m)) (-1,[]))=farS (kpL m) ((pre.map (·.2)).foldl (farS (kpL m)) ((allTo (fixL m) k).foldl (farS (kpL m)) (-1,[]))) ly):=by
     show _=_
     rw [List.map_append,List.foldl_append];rfl
    obtain⟨st,hst2⟩:∃ st,(pre.map (·.2)).foldl (farS (kpL m)) ((allTo (fixL m) k).foldl (farS (kpL m)) (-1,[]))=st:=⟨_,rfl⟩;simp only [hst2] at hI' hst;clear hst2;have hkW:=hI'.kee.1;have MBW:=(hI'.kee.2 _ ⟨hmb,by omega,by omega,by omega⟩).trans HMB.out
    obtain⟨c0,c1',c2',c3',c4,c5,c6,c7,c8,c9,c10⟩:=Zg (m:=m) MBW;have g3:=qH (f3.out _ ly W hI'.low hx1);have hII:=qH hI';have hVV:=qH hv';have hXX:=qH (And.intro hx1 hx2);have hLL:=qH (And.intro hll hr);clear hI' hv' hx1 hx2 hll hr MBW hseq q0 q1 hA HCB
    gi_wp2_with fail
    refine⟨trivial,(fun h=>by cases h),(CallsIn.inRound ll (callsIn_wide.2 g3.out)).mono ?_⟩
    rintro e W4 ⟨rfl,b4⟩;have hI4:=hII.out.below FB.out b4;have hx4:=(hXX.out.1.below b4).mono b4.size;have k4:=qH b4;have hz4:=b4.size;have y0:=hI4.leg.cell;have y1:=hI4.leg.frozen;have y2:=hI4.sto.cell;have y3:=hI4.sto.frozen;have y4:=hI4.err.cell;have y5:=hI4.err.frozen;have MB4:Has W4 w.heap.size _ 26:=(hI4.kee.2 _ ⟨hmb,by omega,by omega,by omega⟩).trans HMB.out
    have c0':=MB4.cell (i:=0) rfl;have jw1:qW qL ((m.ways.length:Int)-1)=(n1:Int):=by rw [show (m.ways.length:Int)-1=(n1:Int) by omega];exact zW2
    clear b4 c0 c1' c2' c3' c4 c5 c6 c7 c8 c9 c10;obtain⟨s1,s2⟩:=st;obtain⟨av,cv,hvv⟩:∃ a c,v'=qS a s2.length c:=by obtain⟨_,a,c,h,_⟩:=hI4.val;exact⟨a,_,h⟩
    subst hvv;have H4:=qH (And.intro hI4 hx4);clear hI4 hx4 MB4;obtain⟨kp,hkp⟩:∃ x,kpL m ly=x:=⟨_,rfl⟩;have HKP:=qH hkp;simp only [hkp];clear hkp;by_cases hgt:s1<kp
    ·have e1:decide (kp>s1)=true:=by rw [decide_eq_true_eq];exact hgt
     have hfs:Hid (farS (kpL m) (s1,s2) ly=(kp,ly)):=by
      show _=_
      unfold farS;rw [HKP.out,if_pos hgt]
     have U:=H4.out.1.upd FB.out (st':=(kp,ly)) H4.out.2 (fun r e=>by have:=hXX.out.2 r e;exact⟨by omega,by omega⟩)
     have MB5:Has _ w.heap.size _ 26:=(U.kee.2 _ ⟨hmb,by omega,by omega,by omega⟩).trans HMB.out
     have z0:=U.leg.cell;have z1:=U.leg.frozen;have z2:=U.sto.cell;have z3:=U.sto.frozen;have z4:=U.err.cell;have z5:=U.err.frozen;have z6:=MB5.cell (i:=0) rfl;have HU:=qH U;clear U MB5;have HKK:=qH (fun b (hb:b<W.heap.size) (h1:b≠(w.heap.size+1)) (h2:b≠(w.heap.size+1+1)) (h3:b≠(w.heap.size+1+1+1))=>(Below.heap_setCell (W4.setCell ⟨w.heap.size+1,0,none⟩ (O qL kp)) ⟨w.heap.size+1+1,0,none⟩ (qS ay ly.length cy) b h2).trans ((Below.heap_setCell W4 ⟨w.heap.size+1,0,none⟩ (O qL kp) b h1).trans (k4.out.block b hb)))
     have HZZ:=qH (show W.heap.size<=((W4.setCell ⟨w.heap.size+1,0,none⟩ (O qL kp)).setCell ⟨w.heap.size+1+1,0,none⟩ (qS ay ly.length cy)).heap.size by simp;omega)
     by_cases heq:kp=n1
     ·have e2:((kp:Int) == (n1:Int))=true:=by rw [beq_iff_eq];exact heq
      gi_wp2;subst heq;generalize hY:World.setCell (World.setCell W4 _ _) _ _=Y at *;have hL:=HU.out.leg;have hS:=HU.out.sto;have hE:=HU.out.err;refine Zi (ZP _ _) 4 (fun X=>Has X (w.heap.size+1) #[O qL (n1:Int)] 3/\Has X (w.heap.size+1+1) #[(qS ay ly.length cy)] 29) (by kernel_rfl) (by kernel_rfl) (by kernel_rfl) fun hH inv0=>?_
      refine sk hH (i:=0) (v:=O qL (n1:Int)) (Zd rfl) inv0 (fun X hX=>?_) fun inv1=>?_
      ·have r:=hX.1.cell (i:=0) rfl;go_simp
      simp only [qJ,zq4,zr4,zs4];refine sk hH (i:=1) (v:=(qS ay ly.length cy)) (Zd rfl) inv1 (fun X hX=>?_) fun inv2=>?_
      ·have r:=hX.2.cell (i:=0) rfl;go_simp
      simp only [qJ,zq4,zr4,zs4];have hX9:=Below.drew (qK Y.heap.size Y);have hL9:Has Y.drew (w.heap.size+1) #[O qL (n1:Int)] 3:=hL;have hS9:Has Y.drew (w.heap.size+1+1) #[(qS ay ly.length cy)] 29:=hS;have hE9:Has Y.drew (w.heap.size+1+1+1) #[O qL 0] 30:=hE;generalize Y.drew=X9 at *;refine sa1 (r:=2) ⟨hL9,hS9⟩ ?_;refine ZY (Zd rfl) rfl (w':=X9.setCell ⟨w.heap.size+1,0,none⟩ (O qL (n1:Int))) (by have r1:=Boxed.cell hL9;have r2:=Boxed.frozen hL9;go_simp) ?_
      simp only [qJ,zq4,zr4,zs4];rw [Boxed.store hL9];refine sa1 (r:=3) ⟨hL9,hS9⟩ ?_;refine ZY (Zd rfl) rfl (w':=X9.setCell ⟨w.heap.size+1+1,0,none⟩ (qS ay ly.length cy)) (by have r1:=Boxed.cell hS9;have r2:=Boxed.frozen hS9;go_simp) ?_
      simp only [qJ,zq4,zr4,zs4];rw [Boxed.store hS9];refine Zm (by kernel_rfl) ⟨hL9,hS9⟩ ?_
      simp only [List.drop_succ_cons,List.drop_zero];have r1:=Boxed.cell hE9;have r2:=Boxed.frozen hE9;clear inv0 inv1 inv2 hH;gi_wp2;rw [Boxed.store hE9];have hk9:∀ b,b<W.heap.size->b≠(w.heap.size+1)->b≠(w.heap.size+1+1)->b≠(w.heap.size+1+1+1)->X9.heap[b]?=W.heap[b]?:=fun b hb h1 h2 h3=>(hX9.block b (by have:=HZZ.out;omega)).trans (HKK.out b hb h1 h2 h3)
      have hz9:W.heap.size<=X9.heap.size:=Nat.le_trans HZZ.out hX9.size;refine⟨(hII.out.keeps FB.out hz9 hk9 (Wo.heap.size+2) (Wo.heap.size+2+2) (by omega) (fun b=>b=Wo.heap.size+1\/b=Wo.heap.size\/∃ a,af=some a/\b=a.block/\b<Z.heap.size/\w.heap.size+4<=b) (fun b hb=>by rcases hb with h | h | ⟨a,-,-,h,h4⟩ <;> exact⟨by omega,by omega,by omega,by omega⟩)).1,(hII.out.keeps FB.out hz9 hk9 (Wo.heap.size+2) (Wo.heap.size+2+2) (by omega) (fun b=>b=Wo.heap.size+1\/b=Wo.heap.size\/∃ a,af=some a/\b=a.block/\b<Z.heap.size/\w.heap.size+4<=b) (fun b hb=>by rcases hb with h | h | ⟨a,-,-,h,h4⟩ <;> exact⟨by omega,by omega,by omega,by omega⟩)).2,⟨rfl,by rw [hst.out,hfs.out]⟩,(qS ay ly.length cy),?_,fun r e=>.inr ⟨_,⟨_,List.mem_append.2 (.inr (List.mem_singleton.2 rfl))⟩,e⟩⟩
      rw [hst.out,hfs.out];exact HU.out.below FB.out hX9
     ·have e2:((kp:Int) == (n1:Int))=false:=by rw [beq_eq_false_iff_ne];exact heq
      gi_wp2;refine⟨(hII.out.keeps FB.out HZZ.out HKK.out (Wo.heap.size+2) (Wo.heap.size+2+2) (by omega) (fun b=>b=Wo.heap.size+1\/b=Wo.heap.size\/∃ a,af=some a/\b=a.block/\b<Z.heap.size/\w.heap.size+4<=b) (fun b hb=>by rcases hb with h | h | ⟨a,-,-,h,h4⟩ <;> exact⟨by omega,by omega,by omega,by omega⟩)).1,(hII.out.keeps FB.out HZZ.out HKK.out (Wo.heap.size+2) (Wo.heap.size+2+2) (by omega) (fun b=>b=Wo.heap.size+1\/b=Wo.heap.size\/∃ a,af=some a/\b=a.block/\b<Z.heap.size/\w.heap.size+4<=b) (fun b hb=>by rcases hb with h | h | ⟨a,-,-,h,h4⟩ <;> exact⟨by omega,by omega,by omega,by omega⟩)).2,(qS ay ly.length cy),?_,fun r e=>.inr ⟨_,⟨_,List.mem_append.2 (.inr (List.mem_singleton.2 rfl))⟩,e⟩⟩
      rw [hst.out,hfs.out];exact HU.out
    ·have e1:decide (kp>s1)=false:=by rw [decide_eq_false_iff_not];omega
     have hfs:Hid (farS (kpL m) (s1,s2) ly=(s1,s2)):=by
      show _=_
      unfold farS;rw [HKP.out,if_neg hgt]
     have HKK:=qH (fun b (hb:b<W.heap.size) (h1:b≠(w.heap.size+1)) (h2:b≠(w.heap.size+1+1)) (h3:b≠(w.heap.size+1+1+1))=>k4.out.block b hb)
     have HZZ:=qH hz4;have HU:=qH H4.out.1;by_cases heq:s1=n1
     ·have e2:((s1:Int) == (n1:Int))=true:=by rw [beq_iff_eq];exact heq
      gi_wp2;subst heq
      skip
      have hL:=HU.out.leg;have hS:=HU.out.sto;have hE:=HU.out.err;refine Zi (ZP _ _) 4 (fun X=>Has X (w.heap.size+1) #[O qL (n1:Int)] 3/\Has X (w.heap.size+1+1) #[(qS av s2.length cv)] 29) (by kernel_rfl) (by kernel_rfl) (by kernel_rfl) fun hH inv0=>?_
      refine sk hH (i:=0) (v:=O qL (n1:Int)) (Zd rfl) inv0 (fun X hX=>?_) fun inv1=>?_
      ·have r:=hX.1.cell (i:=0) rfl;go_simp
      simp only [qJ,zq4,zr4,zs4];refine sk hH (i:=1) (v:=(qS av s2.length cv)) (Zd rfl) inv1 (fun X hX=>?_) fun inv2=>?_
      ·have r:=hX.2.cell (i:=0) rfl;go_simp
      simp only [qJ,zq4,zr4,zs4];have hX9:=Below.drew (qK W4.heap.size W4);have hL9:Has W4.drew (w.heap.size+1) #[O qL (n1:Int)] 3:=hL;have hS9:Has W4.drew (w.heap.size+1+1) #[(qS av s2.length cv)] 29:=hS;have hE9:Has W4.drew (w.heap.size+1+1+1) #[O qL 0] 30:=hE;generalize W4.drew=X9 at *;refine sa1 (r:=2) ⟨hL9,hS9⟩ ?_;refine ZY (Zd rfl) rfl (w':=X9.setCell ⟨w.heap.size+1,0,none⟩ (O qL (n1:Int))) (by have r1:=Boxed.cell hL9;have r2:=Boxed.frozen hL9;go_simp) ?_
      simp only [qJ,zq4,zr4,zs4];rw [Boxed.store hL9];refine sa1 (r:=3) ⟨hL9,hS9⟩ ?_;refine ZY (Zd rfl) rfl (w':=X9.setCell ⟨w.heap.size+1+1,0,none⟩ (qS av s2.length cv)) (by have r1:=Boxed.cell hS9;have r2:=Boxed.frozen hS9;go_simp) ?_
      simp only [qJ,zq4,zr4,zs4];rw [Boxed.store hS9];refine Zm (by kernel_rfl) ⟨hL9,hS9⟩ ?_
      simp only [List.drop_succ_cons,List.drop_zero];have r1:=Boxed.cell hE9;have r2:=Boxed.frozen hE9;clear inv0 inv1 inv2 hH;gi_wp2;rw [Boxed.store hE9];have hk9:∀ b,b<W.heap.size->b≠(w.heap.size+1)->b≠(w.heap.size+1+1)->b≠(w.heap.size+1+1+1)->X9.heap[b]?=W.heap[b]?:=fun b hb h1 h2 h3=>(hX9.block b (by have:=HZZ.out;omega)).trans (HKK.out b hb h1 h2 h3)
      have hz9:W.heap.size<=X9.heap.size:=Nat.le_trans HZZ.out hX9.size;refine⟨(hII.out.keeps FB.out hz9 hk9 (Wo.heap.size+2) (Wo.heap.size+2+2) (by omega) (fun b=>b=Wo.heap.size+1\/b=Wo.heap.size\/∃ a,af=some a/\b=a.block/\b<Z.heap.size/\w.heap.size+4<=b) (fun b hb=>by rcases hb with h | h | ⟨a,-,-,h,h4⟩ <;> exact⟨by omega,by omega,by omega,by omega⟩)).1,(hII.out.keeps FB.out hz9 hk9 (Wo.heap.size+2) (Wo.heap.size+2+2) (by omega) (fun b=>b=Wo.heap.size+1\/b=Wo.heap.size\/∃ a,af=some a/\b=a.block/\b<Z.heap.size/\w.heap.size+4<=b) (fun b hb=>by rcases hb with h | h | ⟨a,-,-,h,h4⟩ <;> exact⟨by omega,by omega,by omega,by omega⟩)).2,⟨rfl,by rw [hst.out,hfs.out]⟩,(qS av s2.length cv),?_,fun r e=>(hVV.out r e).imp (fun h=>by omega) fun ⟨x,hx,e2⟩=>⟨x.1,⟨x.2,List.mem_append.2 (.inl hx)⟩,e2⟩⟩
      rw [hst.out,hfs.out];exact HU.out.below FB.out hX9
     ·have e2:((s1:Int) == (n1:Int))=false:=by rw [beq_eq_false_iff_ne];exact heq
      gi_wp2;refine⟨(hII.out.keeps FB.out HZZ.out HKK.out (Wo.heap.size+2) (Wo.heap.size+2+2) (by omega) (fun b=>b=Wo.heap.size+1\/b=Wo.heap.size\/∃ a,af=some a/\b=a.block/\b<Z.heap.size/\w.heap.size+4<=b) (fun b hb=>by rcases hb with h | h | ⟨a,-,-,h,h4⟩ <;> exact⟨by omega,by omega,by omega,by omega⟩)).1,(hII.out.keeps FB.out HZZ.out HKK.out (Wo.heap.size+2) (Wo.heap.size+2+2) (by omega) (fun b=>b=Wo.heap.size+1\/b=Wo.heap.size\/∃ a,af=some a/\b=a.block/\b<Z.heap.size/\w.heap.size+4<=b) (fun b hb=>by rcases hb with h | h | ⟨a,-,-,h,h4⟩ <;> exact⟨by omega,by omega,by omega,by omega⟩)).2,(qS av s2.length cv),?_,fun r e=>(hVV.out r e).imp (fun h=>by omega) fun ⟨x,hx,e2⟩=>⟨x.1,⟨x.2,List.mem_append.2 (.inl hx)⟩,e2⟩⟩
      rw [hst.out,hfs.out];exact HU.out
   case done =>
    rintro D xs W hD hxs ⟨-,v',hI',hv'⟩ hK;have hst:Hid (((xs.map (·.2)).foldl (farS (kpL m)) ((allTo (fixL m) k).foldl (farS (kpL m)) (-1,[])))=(allTo (fixL m) (k+1)).foldl (farS (kpL m)) (-1,[])):=by
     show _=_
     rw [hxs,Z1G,List.foldl_append]
    rw [hst.out] at hI';have hnd:D ∉ ds:=fun h=>by have:=hds D h;omega
    have hII:=qH (show FarI (w.heap.size+1) (w.heap.size+1+1) (w.heap.size+1+1+1) w Z ((allTo (fixL m) (k+1)).foldl (farS (kpL m)) (-1,[])) (D::ds) v' W from⟨hI'.leg,hI'.sto,hI'.err,hI'.val,hI'.low,hI'.kee,fun E hE=>by
     rcases List.mem_cons.1 hE with h | h
     ·subst h;exact⟨by omega,hK⟩
     ·exact hI'.mar E h,List.nodup_cons.2 ⟨hnd,hI'.nod⟩,hI'.new⟩)
    clear hI' hv' hK hst hseq q0 q1 hA HCB;have jw2:qW qL ((k:Int)+1)=(k:Int)+1:=zW2;go_wp2;refine⟨⟨_,_,_,_,_,_,_,_,_,_,_,_,_,_,_,_,_,_,_,_,_,_,_,_,_,_,_,_,_,_,_,_,_,_,k+1,D::ds,v',by omega,hII.out,rfl⟩,?_⟩
    simp [intOf];omega
   case stop =>
    rintro D c pre W hD ⟨u,hu⟩ ⟨⟨rfl,htp⟩,v',hI',hv'⟩ hK;have hst:=Zax m (fun l=>by rw [<- hn1];exact htop.out l) hu hkl htp
    rw [hst] at hI';have hnd:D ∉ ds:=fun h=>by have:=hds D h;omega
    have hII:=qH (show FarI (w.heap.size+1) (w.heap.size+1+1) (w.heap.size+1+1+1) w Z (bestP m) (D::ds) v' W from⟨hI'.leg,hI'.sto,hI'.err,hI'.val,hI'.low,hI'.kee,fun E hE=>by
     rcases List.mem_cons.1 hE with h | h
     ·subst h;exact⟨by omega,hK⟩
     ·exact hI'.mar E h,List.nodup_cons.2 ⟨hnd,hI'.nod⟩,hI'.new⟩)
    clear hI' hv' hK hst hseq q0 q1 hA HCB hu htp;gi_wp2;refine FarI.leave FB.out (D::ds) W hII.out fun W' hW'=>?_
    obtain⟨av,cv,hvv⟩:∃ a c,v'=qS a (bestP m).2.length c:=by obtain⟨_,a,c,h,_⟩:=hW'.val;exact⟨a,_,h⟩
    subst hvv;have r1:=hW'.leg.cell;have r2:=hW'.sto.cell;have r3:=hW'.err.cell;exact⟨.tuple #[O qL (bestP m).1,qS av (bestP m).2.length cv,O qL 0],by simp [results,Tryz.f33,go_sem,r1,r2,r3],_,rfl,hW'.val,hW'.low,fun r e=>Nat.le_trans FB.out.w (hW'.new r e).1⟩
  ·obtain rfl:k=(fixL m).length+1:=by omega
   have d1:decide ((((fixL m).length+1:Nat):Int)<((fixL m).length:Int)+1)=false:=by rw [decide_eq_false_iff_not];omega
   have hst:Hid ((allTo (fixL m) ((fixL m).length+1)).foldl (farS (kpL m)) (-1,[])=bestP m):=rfl;rw [hst.out] at hI;clear hst;obtain⟨b1,b2,hbp⟩:∃ b1 b2,bestP m=(b1,b2):=⟨_,_,rfl⟩;rw [hbp] at hI;have HBP:=qH hbp;clear hbp;obtain⟨av,cv,hvv⟩:∃ a c,v=qS a b2.length c:=by obtain⟨_,a,c,h,_⟩:=hI.val;exact⟨a,_,h⟩
   subst hvv;have hII:=qH hI;clear hI;go_wp2;refine (wpIn_wide (n:=9)).1 ?_;have hL:=hII.out.leg;have hS:=hII.out.sto;have hE:=hII.out.err;refine Zi (Zk _) 4 (fun X=>Has X (w.heap.size+1) #[O qL b1] 3/\Has X (w.heap.size+1+1) #[(qS av b2.length cv)] 29) (by kernel_rfl) (by kernel_rfl) (by kernel_rfl) fun hH inv0=>?_
   refine sk hH (i:=0) (v:=O qL b1) (Zd rfl) inv0 (fun X hX=>?_) fun inv1=>?_
   ·have r:=hX.1.cell (i:=0) rfl;go_simp
   simp only [qJ,zq4,zr4,zs4];refine sk hH (i:=1) (v:=(qS av b2.length cv)) (Zd rfl) inv1 (fun X hX=>?_) fun inv2=>?_
   ·have r:=hX.2.cell (i:=0) rfl;go_simp
   simp only [qJ,zq4,zr4,zs4];have hX9:=Below.drew (qK Wo.heap.size Wo);have hL9:Has Wo.drew (w.heap.size+1) #[O qL b1] 3:=hL;have hS9:Has Wo.drew (w.heap.size+1+1) #[(qS av b2.length cv)] 29:=hS;have hE9:Has Wo.drew (w.heap.size+1+1+1) #[O qL 0] 30:=hE;generalize Wo.drew=X9 at *;refine sa1 (r:=2) ⟨hL9,hS9⟩ ?_;refine ZY (Zd rfl) rfl (w':=X9.setCell ⟨w.heap.size+1,0,none⟩ (O qL b1)) (by have r1:=Boxed.cell hL9;have r2:=Boxed.frozen hL9;go_simp) ?_
   simp only [qJ,zq4,zr4,zs4];rw [Boxed.store hL9];refine sa1 (r:=3) ⟨hL9,hS9⟩ ?_;refine ZY (Zd rfl) rfl (w':=X9.setCell ⟨w.heap.size+1+1,0,none⟩ (qS av b2.length cv)) (by have r1:=Boxed.cell hS9;have r2:=Boxed.frozen hS9;go_simp) ?_
   simp only [qJ,zq4,zr4,zs4];rw [Boxed.store hS9];refine Zm (by kernel_rfl) ⟨hL9,hS9⟩ ?_
   simp only [List.drop_succ_cons,List.drop_zero];have r1:=Boxed.cell hE9;have r2:=Boxed.frozen hE9;clear inv0 inv1 inv2 hH;gi_wp2;rw [Boxed.store hE9];go_wp2;have h9:=hII.out.below FB.out hX9;refine FarI.leave FB.out ds X9 h9 fun W' hW'=>?_
   have r1:=hW'.leg.cell;have r2:=hW'.sto.cell;have r3:=hW'.err.cell;exact⟨.tuple #[O qL b1,qS av b2.length cv,O qL 0],by simp [results,Tryz.f33,go_sem,r1,r2,r3],_,by rw [HBP.out],by rw [HBP.out];exact hW'.val,hW'.low,fun r e=>Nat.le_trans FB.out.w (hW'.new r e).1⟩
end
section
attribute [local irreducible] wpQuiet
open Go.RowKit
theorem ZbM (m:Msn) (vw vh vr:Value) (w:World) (hm:MsnAt w.heap.size w m vw vh vr) (hV:validB m=false) :
  Calls Tryz.prog 33 #[.agg (Zc m vw vh vr)] w fun e w'=>e=qR (.tuple #[O qL 0,qS none 0 0,O qL 1])/\Below w.heap.size w w':=by
 have f1:=fun w1 (B:Below w.heap.size w w1)=>Z0L m vw vh vr w1 ((hm.below B).mono B.size)
 rw [hV] at f1;obtain⟨⟨-,a1,c1,rfl,-⟩,⟨-,a2,c2,rfl,-⟩,⟨-,a3,c3,rfl,-⟩⟩:=hm;unfold Zc at *;replace f1:=qH f1;have BW:=qH (qK w.heap.size w);refine (callsIn_wide (n:=9)).1 ?_;refine callsIn_of_wp_marks Tryz.func33 rfl trivial ?_ rfl;simp only [Tryz.ntmps33,List.size_toArray,List.length_cons,List.length_nil,Nat.reduceAdd,Nat.reduceSub,Array.replicate_succ,Array.replicate_zero,List.push_toArray,List.append_toArray,List.nil_append,List.cons_append];refine wpIn_wide.2 ?_;go_wp2_with fail;generalize hXX0:qV (qV (qV (qV w _) _) _) _=X0;obtain⟨q0,q1,q2,q3,hA,hzX0⟩:=box4 hXX0;clear hXX0;have BW:=qH hA;clear hA;have MB:=qH q0;clear q0;have LB:=qH q1;clear q1;have SB:=qH q2;clear q2;have EB:=qH q3;clear q3;obtain⟨c0,c1,c2,c3,c4,c5,c6,c7,c8,c9,c10⟩:=Zg (m:=m) MB.out;refine (f1.out _ BW.out).mono ?_;rintro e w1 ⟨rfl,b1⟩;replace BW:=zAf BW b1;have B_X0:=qH b1;clear b1 c0 c1 c2 c3 c4 c5 c6 c7 c8 c9 c10;have hL:=(zCl LB B_X0);have hS:=(zCl SB B_X0);have hE:=(zCl EB B_X0);have l0:=Boxed.cell hL;have l1:=Boxed.frozen hL;have s0:=Boxed.cell hS;have s1:=Boxed.frozen hS;have e0:=Boxed.cell hE;have e1:=Boxed.frozen hE;have k1:=((Boxed.set (O qL 0) hL).other (by omega:w.heap.size+1≠w.heap.size+1+1) (qS none 0 0)).other (by omega:w.heap.size+1≠w.heap.size+1+1+1) (O qL 1)
 have k2:=((Boxed.other hS (by omega:w.heap.size+1+1≠w.heap.size+1) (O qL 0)).set (qS none 0 0)).other (by omega:w.heap.size+1+1≠w.heap.size+1+1+1) (O qL 1)
 have k3:=((Boxed.other hE (by omega:w.heap.size+1+1+1≠w.heap.size+1) (O qL 0)).other (by omega:w.heap.size+1+1+1≠w.heap.size+1+1) (qS none 0 0)).set (O qL 1)
 have r1:=k1.cell;have r2:=k2.cell;have r3:=k3.cell;have BY:=qH (((BW.out.setCell (p:=⟨w.heap.size+1,0,none⟩) (by simp) (O qL 0)).setCell (p:=⟨w.heap.size+1+1,0,none⟩) (by simp;omega) (qS none 0 0)).setCell (p:=⟨w.heap.size+1+1+1,0,none⟩) (by simp;omega) (O qL 1))
 clear hL hS hE k1 k2 k3;go_wp2;exact⟨.tuple #[O qL 0,qS none 0 0,O qL 1],by simp [results,Tryz.f33,go_sem,r1,r2,r3],rfl,BY.out⟩
noncomputable def bsB (m:Msn):Bool:=validB m && decide ((bestP m).1=((m.ways.length-1:Nat):Int))
noncomputable def bsL (m:Msn):List Int:=if bsB m=true then (bestP m).2 else []
noncomputable def rfB (m:Msn):Bool:=validB m && !decide ((bestP m).1=((m.ways.length-1:Nat):Int))
noncomputable def rfL (m:Msn):List Int:=if rfB m=true then (bestP m).2 else []
noncomputable def rfG (m:Msn):Int:=if rfB m=true then (bestP m).1 else 0
noncomputable def plE (m:Msn):Int:=if validB m=true then 0 else 1
theorem Z7T (m:Msn):(bestP m).1<=((m.ways.length-1:Nat):Int):=by
 unfold bestP farL;have:∀ (L:List (List Int)) (s:Int × List Int),s.1<=((m.ways.length-1:Nat):Int)->(L.foldl (farS (kpL m)) s).1<=((m.ways.length-1:Nat):Int):=by
  intro L
  induction L with
  | nil=>intro s h;exact h
  | cons x L ih =>
   intro s h;rw [List.foldl_cons];refine ih _ ?_;unfold farS
   split
   ·exact Z9u m x
   ·exact h
 exact this _ _ (by simp only;omega)
theorem Z5d (m:Msn) (vw vh vr:Value) (w:World) (hm:MsnAt w.heap.size w m vw vh vr) (h13:m.ways.length<=13) :
  Calls Tryz.prog 8 #[.agg (Zc m vw vh vr)] w fun e w'=>∃ v,e=qR (.tuple #[v,.bool (bsB m),O qL (plE m)])/\Z8 w'.heap.size w' v (bsL m)/\Below w.heap.size w w'/\∀ r,v.ownBlock=some r->w.heap.size<=r:=by
 cases hV:validB m
 ·simp only [bsB,bsL,rfB,rfL,rfG,plE,hV,Bool.false_and,Bool.false_eq_true,if_false]
  have f1:=fun w1 (B:Below w.heap.size w w1)=>ZbM m vw vh vr w1 ((hm.below B).mono B.size) hV
  obtain⟨⟨-,a1,c1,rfl,-⟩,⟨-,a2,c2,rfl,-⟩,⟨-,a3,c3,rfl,-⟩⟩:=hm;unfold Zc at *;replace f1:=qH f1;have BW:=qH (qK w.heap.size w);go_enter Tryz.func8,Tryz.ntmps8;go_wp2_with fail;generalize hXX0:qV w _=X0;obtain⟨q0,hA,hzX0⟩:=box1 hXX0;clear hXX0;have BW:=qH hA;clear hA;have MB:=qH q0;clear q0;refine (f1.out _ BW.out).mono ?_;rintro e w1 ⟨rfl,b1⟩;replace BW:=zAf BW b1;have B_X0:=qH b1;clear b1;go_wp2;go_ret3;exact⟨_,rfl,Z8.nil _ _,BW.out,(fun r e=>by cases e)⟩
 ·have n2:=((Zj m).1 hV).n2
  have bt:=Z7T m;have f1:=fun w1 (B:Below w.heap.size w w1)=>Za2 m vw vh vr w1 ((hm.below B).mono B.size) hV h13
  obtain⟨⟨-,a1,c1,rfl,-⟩,⟨-,a2,c2,rfl,-⟩,⟨-,a3,c3,rfl,-⟩⟩:=hm;simp only [bsB,bsL,rfB,rfL,rfG,plE,hV,Bool.true_and,if_true];unfold Zc at *;have jw:qW qL ((m.ways.length:Int)-1)=((m.ways.length-1:Nat):Int):=by rw [show ((m.ways.length:Int)-1)=((m.ways.length-1:Nat):Int) by omega];exact zW2
  obtain⟨n1,hn1⟩:∃ n1,m.ways.length-1=n1:=⟨_,rfl⟩;simp only [hn1] at jw bt ⊢;obtain⟨b1,b2,hbp⟩:∃ b1 b2,bestP m=(b1,b2):=⟨_,_,rfl⟩;simp only [hbp] at f1 bt ⊢;clear hbp;replace f1:=qH f1;clear hn1;have BW:=qH (qK w.heap.size w);by_cases heq:b1=n1
  all_goals simp only [heq,decide_true,decide_false,Bool.not_true,Bool.not_false,if_true,Bool.false_eq_true,if_false]
  ·subst heq
   have e1:((n1:Int) == (n1:Int))=true:=by simp
   have e2:decide ((n1:Int)<(n1:Int))=false:=by simp
   go_enter Tryz.func8,Tryz.ntmps8;go_wp2_with fail;generalize hXX0:qV w _=X0;obtain⟨q0,hA,hzX0⟩:=box1 hXX0;clear hXX0;have BW:=qH hA;clear hA;have MB:=qH q0;clear q0;refine (f1.out _ BW.out).mono ?_;rintro e w1 ⟨v1,rfl,p1,b1,n1'⟩;replace BW:=zAf BW b1;have B_X0:=qH b1;clear b1;have PI:=qH p1;clear p1;have HN:=qH n1';clear n1';obtain⟨-,g1,k1,hv1,-⟩:=PI.out;subst hv1;have c0:=(zCl MB B_X0).cell (i:=0) rfl;go_wp2;go_ret3;exact⟨_,rfl,PI.out,BW.out,(fun r e=>by have:=HN.out r e;omega)⟩
  ·have e1:((b1:Int) == (n1:Int))=false:=by rw [beq_eq_false_iff_ne];exact heq
   have e2:decide ((b1:Int)<(n1:Int))=true:=zTq;clear bt;go_enter Tryz.func8,Tryz.ntmps8;go_wp2_with fail;generalize hXX0:qV w _=X0;obtain⟨q0,hA,hzX0⟩:=box1 hXX0;clear hXX0;have BW:=qH hA;clear hA;have MB:=qH q0;clear q0;refine (f1.out _ BW.out).mono ?_;rintro e w1 ⟨v1,rfl,p1,b1,n1'⟩;replace BW:=zAf BW b1;have B_X0:=qH b1;clear b1;have PI:=qH p1;clear p1;have HN:=qH n1';clear n1';obtain⟨-,g1,k1,hv1,-⟩:=PI.out;subst hv1;have c0:=(zCl MB B_X0).cell (i:=0) rfl;go_wp2;go_ret3;exact⟨_,rfl,Z8.nil _ _,BW.out,(fun r e=>by cases e)⟩
theorem Z1c (m:Msn) (vw vh vr:Value) (w:World) (hm:MsnAt w.heap.size w m vw vh vr) (h13:m.ways.length<=13) :
  Calls Tryz.prog 9 #[.agg (Zc m vw vh vr)] w fun e w'=>∃ v,e=qR (.tuple #[O qL (rfG m),v,.bool (rfB m),O qL (plE m)])/\Z8 w'.heap.size w' v (rfL m)/\Below w.heap.size w w'/\∀ r,v.ownBlock=some r->w.heap.size<=r:=by
 cases hV:validB m
 ·simp only [bsB,bsL,rfB,rfL,rfG,plE,hV,Bool.false_and,Bool.false_eq_true,if_false]
  have f1:=fun w1 (B:Below w.heap.size w w1)=>ZbM m vw vh vr w1 ((hm.below B).mono B.size) hV
  obtain⟨⟨-,a1,c1,rfl,-⟩,⟨-,a2,c2,rfl,-⟩,⟨-,a3,c3,rfl,-⟩⟩:=hm;unfold Zc at *;replace f1:=qH f1;have BW:=qH (qK w.heap.size w);go_enter Tryz.func9,Tryz.ntmps9;go_wp2_with fail;generalize hXX0:qV w _=X0;obtain⟨q0,hA,hzX0⟩:=box1 hXX0;clear hXX0;have BW:=qH hA;clear hA;have MB:=qH q0;clear q0;refine (f1.out _ BW.out).mono ?_;rintro e w1 ⟨rfl,b1⟩;replace BW:=zAf BW b1;have B_X0:=qH b1;clear b1;go_wp2;refine bodyPost_ret (v:=.tuple #[O qL 0,qS none 0 0,.bool false,O qL 1]) (by simp [results,Tryz.f9,go_sem]) rfl ⟨_,rfl,Z8.nil _ _,BW.out,(fun r e=>by cases e)⟩
 ·have n2:=((Zj m).1 hV).n2
  have bt:=Z7T m;have f1:=fun w1 (B:Below w.heap.size w w1)=>Za2 m vw vh vr w1 ((hm.below B).mono B.size) hV h13
  obtain⟨⟨-,a1,c1,rfl,-⟩,⟨-,a2,c2,rfl,-⟩,⟨-,a3,c3,rfl,-⟩⟩:=hm;simp only [bsB,bsL,rfB,rfL,rfG,plE,hV,Bool.true_and,if_true];unfold Zc at *;have jw:qW qL ((m.ways.length:Int)-1)=((m.ways.length-1:Nat):Int):=by rw [show ((m.ways.length:Int)-1)=((m.ways.length-1:Nat):Int) by omega];exact zW2
  obtain⟨n1,hn1⟩:∃ n1,m.ways.length-1=n1:=⟨_,rfl⟩;simp only [hn1] at jw bt ⊢;obtain⟨b1,b2,hbp⟩:∃ b1 b2,bestP m=(b1,b2):=⟨_,_,rfl⟩;simp only [hbp] at f1 bt ⊢;clear hbp;replace f1:=qH f1;clear hn1;have BW:=qH (qK w.heap.size w);by_cases heq:b1=n1
  all_goals simp only [heq,decide_true,decide_false,Bool.not_true,Bool.not_false,if_true,Bool.false_eq_true,if_false]
  ·subst heq
   have e1:((n1:Int) == (n1:Int))=true:=by simp
   have e2:decide ((n1:Int)<(n1:Int))=false:=by simp
   go_enter Tryz.func9,Tryz.ntmps9;go_wp2_with fail;generalize hXX0:qV w _=X0;obtain⟨q0,hA,hzX0⟩:=box1 hXX0;clear hXX0;have BW:=qH hA;clear hA;have MB:=qH q0;clear q0;refine (f1.out _ BW.out).mono ?_;rintro e w1 ⟨v1,rfl,p1,b1,n1'⟩;replace BW:=zAf BW b1;have B_X0:=qH b1;clear b1;have PI:=qH p1;clear p1;have HN:=qH n1';clear n1';obtain⟨-,g1,k1,hv1,-⟩:=PI.out;subst hv1;have c0:=(zCl MB B_X0).cell (i:=0) rfl;go_wp2;refine bodyPost_ret (v:=.tuple #[O qL 0,qS none 0 0,.bool false,O qL 0]) (by simp [results,Tryz.f9,go_sem]) rfl ⟨_,rfl,Z8.nil _ _,BW.out,(fun r e=>by cases e)⟩
  ·have e1:((b1:Int) == (n1:Int))=false:=by rw [beq_eq_false_iff_ne];exact heq
   have e2:decide ((b1:Int)<(n1:Int))=true:=zTq;clear bt;go_enter Tryz.func9,Tryz.ntmps9;go_wp2_with fail;generalize hXX0:qV w _=X0;obtain⟨q0,hA,hzX0⟩:=box1 hXX0;clear hXX0;have BW:=qH hA;clear hA;have MB:=qH q0;clear q0;refine (f1.out _ BW.out).mono ?_;rintro e w1 ⟨v1,rfl,p1,b1,n1'⟩;replace BW:=zAf BW b1;have B_X0:=qH b1;clear b1;have PI:=qH p1;clear p1;have HN:=qH n1';clear n1';obtain⟨-,g1,k1,hv1,-⟩:=PI.out;subst hv1;have c0:=(zCl MB B_X0).cell (i:=0) rfl;go_wp2;refine bodyPost_ret (v:=.tuple #[O qL b1,qS g1 b2.length (b2.length+k1),.bool true,O qL 0]) (by simp [results,Tryz.f9,go_sem]) rfl ⟨_,rfl,PI.out,BW.out,(fun r e=>by have:=HN.out r e;omega)⟩
instance (l:List Pt) (s t:Pt):Decidable (Nx l s t):=by unfold Nx;infer_instance
def hullB (l h:List Pt):Bool:=decide (l≠[]/\1<=h.length/\(nth h 0 ∈ l/\∀ x,x ∈ l->¬ LexLt x (nth h 0))/\(∀ i,i<h.length->Nx l (nth h i) (nth h ((i+1) % h.length)))/\(∀ i,i<h.length->0<i->nth h i≠nth h 0))
theorem Z0f {l h:List Pt} (k:hullB l h=true):hullP l=h:=by
 simp only [hullB,decide_eq_true_eq] at k;obtain⟨h1,h2,h3,h4,h5⟩:=k;exact (Z2W ⟨fun e=>absurd e h1,fun _=>h2,fun _=>h3,h4,fun i h0 hi=>h5 i hi h0⟩).symm
theorem ZbP:Z4 0=[⟨0,0⟩]:=Z0f (by decide +kernel)
theorem ZbO:Z4 2=[⟨-2,-1⟩,⟨-1,-2⟩,⟨1,-2⟩,⟨2,-1⟩,⟨2,1⟩,⟨1,2⟩,⟨-1,2⟩,⟨-2,1⟩]:=Z0f (by decide +kernel)
theorem Z2Q {ax ay bx by' n : Int} (h0 : 0 <= n) (h : (ax-bx) * (ax-bx) + (ay-by') * (ay-by') <= n * n) (h2 : (n-1) * (n-1) < (ax-bx) * (ax-bx) + (ay-by') * (ay-by')) : distV ax ay bx by' = n := by
 unfold distV;generalize (ax-bx)*(ax-bx)+(ay-by')*(ay-by')=s at *
 have hs:=Z3d (s:=s) (by
  have:0<=(n-1)*(n-1):=by
   rcases Int.le_total 0 (n-1) with h | h
   ·exact Int.mul_nonneg h h
   ·have:=Int.mul_nonneg (show 0<=-(n-1) by omega) (show 0<=-(n-1) by omega)
    rwa [Int.neg_mul_neg] at this
  omega)
 have h1:=hs.2.2 n h0 h;rcases Int.lt_or_le (rootUp s) n with h3 | h3
 ·have h4:=Int.mul_le_mul (show rootUp s<=n-1 by omega) (show rootUp s<=n-1 by omega) hs.1 (by omega)
  have:=hs.2.1;omega
 ·omega
end
def roX:List Pt:=[⟨185,90⟩,⟨190,15⟩,⟨195,90⟩]
def hmA:List Pt:=[⟨-100,-100⟩,⟨100,-100⟩,⟨100,100⟩,⟨-100,100⟩]
def hmB:List Pt:=[⟨0,0⟩]
def exP (h:List Pt):Msn:=⟨[⟨0,0,0,0,0⟩,⟨100,0,2,0,0⟩,⟨200,0,0,0,0⟩],h,0,[roX],10000,100,0,0,0,1000,1000⟩
theorem Z7B (h:List Pt):dLeg (exP h) 0 1=100/\dLeg (exP h) 1 2=100/\dLeg (exP h) 1 0=100/\dLeg (exP h) 2 0=200 :=
 ⟨show distV 0 0 100 0=100 from Z2Q (by decide) (by decide) (by decide),show distV 100 0 200 0=100 from Z2Q (by decide) (by decide) (by decide),show distV 100 0 0 0=100 from Z2Q (by decide) (by decide) (by decide),show distV 200 0 0 0=200 from Z2Q (by decide) (by decide) (by decide)⟩
theorem Z2b (h:List Pt):gLeg (exP h) 0 1=10/\gLeg (exP h) 1 2=10/\gLeg (exP h) 1 0=10/\gLeg (exP h) 2 0=20:=by
 obtain⟨d1,d2,d3,d4⟩:=Z7B h;unfold gLeg;rw [d1,d2,d3,d4];exact⟨show growthV 10000 100 0 100=10 by decide,show growthV 10000 100 0 100=10 by decide,show growthV 10000 100 0 100=10 by decide,show growthV 10000 100 0 200=20 by decide⟩
theorem Z3B (h:List Pt):tLeg (exP h) 0 1=1/\tLeg (exP h) 1 2=1/\tLeg (exP h) 1 0=1/\tLeg (exP h) 2 0=2:=by
 obtain⟨d1,d2,d3,d4⟩:=Z7B h;unfold tLeg;rw [d1,d2,d3,d4];exact⟨show lastsV 10000 100=1 by decide,show lastsV 10000 100=1 by decide,show lastsV 10000 100=1 by decide,show lastsV 10000 200=2 by decide⟩
theorem Z5V (h:List Pt):grownV (exP h)=50:=by
 obtain⟨g1,g2,g3,g4⟩:=Z2b h
 show (0:Int)+(gLeg (exP h) 0 1+gLeg (exP h) 1 0)+(gLeg (exP h) 1 2+gLeg (exP h) 2 0)=50
 rw [g1,g2,g3,g4]
 rfl
theorem Z04:Zb roX=true:=by rw [Z0m];decide +kernel
theorem Z0y:Zb hmA=true:=by rw [Z0m];decide +kernel
theorem Z5U {h:List Pt} (hh:Zb h=true):validB (exP h)=true:=by
 rw [Zj];refine⟨by show 2<=3;decide,by show 3<=41;decide,by show 1<=100;decide,by show waysB [⟨0,0,0,0,0⟩,⟨100,0,2,0,0⟩,⟨200,0,0,0,0⟩]=true;decide,hh,?_,by show (0:Int)<=0/\(0:Int)<=100000;decide,by show (1:Int)<=10000/\(10000:Int)<=20000/\(0:Int)<=100/\(100:Int)<=500/\(0:Int)<=0/\(0:Int)<=5000;decide,by show (0:Int)<=0/\(0:Int)<=1000;decide,by show (0:Int)<=0/\(0:Int)<=1000;decide,by show (0:Int)<=1000/\(1000:Int)<=1000000000;decide,by show (0:Int)<=1000/\(1000:Int)<=1000000000;decide,by rw [Z5V];decide⟩
 simp only [rocksB,exP];refine decide_eq_true fun j hj=>?_
 obtain rfl:j=0:=by simp at hj;omega
 exact Z04
theorem exP_e (h:List Pt) (i j:Nat):eLeg (exP h) i j=0:=by simp [eLeg,exP]
theorem Z64 {h:List Pt} {a b:Nat} {u w:Int} {c:List Pt} {t:Bool} (hc:corL (atW (exP h) a) u (atW (exP h) b) w=c) (hv:Zb c=true) (ht:touchB c roX=t):clrB (exP h) a u b w=!t:=by
 unfold clrB;rw [hc,show (exP h).rocks=[roX] from rfl,(Z9X hv Z04).1,ht]
set_option maxRecDepth 100000 in
theorem Z2t:Z4 10=[⟨-10,-5⟩,⟨-5,-10⟩,⟨5,-10⟩,⟨10,-5⟩,⟨10,5⟩,⟨5,10⟩,⟨-5,10⟩,⟨-10,5⟩]:=Z0f (by decide +kernel)
set_option maxRecDepth 100000 in
theorem Z52:Z4 12=[⟨-12,-5⟩,⟨-5,-12⟩,⟨5,-12⟩,⟨12,-5⟩,⟨12,5⟩,⟨5,12⟩,⟨-5,12⟩,⟨-12,5⟩]:=Z0f (by decide +kernel)
set_option maxRecDepth 100000 in
theorem Z3E:Z4 20=[⟨-20,-9⟩,⟨-9,-20⟩,⟨9,-20⟩,⟨20,-9⟩,⟨20,9⟩,⟨9,20⟩,⟨-9,20⟩,⟨-20,9⟩]:=Z0f (by decide +kernel)
set_option maxRecDepth 100000 in
theorem Z6Q:Z4 32=[⟨-32,-14⟩,⟨-14,-32⟩,⟨14,-32⟩,⟨32,-14⟩,⟨32,14⟩,⟨14,32⟩,⟨-14,32⟩,⟨-32,14⟩]:=Z0f (by decide +kernel)
def c1L:List Pt:=[⟨0,0⟩,⟨95,-10⟩,⟨105,-10⟩,⟨110,-5⟩,⟨110,5⟩,⟨105,10⟩,⟨95,10⟩]
theorem Z7O:Zb c1L=true:=by rw [Z0m];decide +kernel
theorem c1_cor:corL ⟨0,0⟩ 0 ⟨100,0⟩ 10=c1L:=by
 have e:corE ⟨0,0⟩ 0 ⟨100,0⟩ 10=0:=by
  unfold corE;rw [show (0:Int).toNat=0 from rfl,show (10:Int).toNat=10 from rfl,ZbP,Z2t]
  decide +kernel
 unfold corL;rw [if_pos e];unfold corH;rw [show (0:Int).toNat=0 from rfl,show (10:Int).toNat=10 from rfl,ZbP,Z2t]
 exact Z0f (by decide +kernel)
theorem ZbE:touchB c1L roX=false:=by
 have a:cornersP c1L roX=[]:=by unfold cornersP;rw [ZH Z04];decide +kernel
 have b:cornersP roX c1L=[]:=by unfold cornersP;rw [ZH Z7O];decide +kernel
 have c:crossP c1L roX=[]:=by decide +kernel
 unfold touchB sharedP;rw [a,b,c];simp
theorem Zau (h:List Pt):clrB (exP h) 0 0 1 10=true:=Z64 (h:=h) (a:=0) (b:=1) (u:=0) (w:=10) c1_cor Z7O ZbE
def c2L:List Pt:=[⟨-20,-9⟩,⟨-9,-20⟩,⟨9,-20⟩,⟨105,-10⟩,⟨110,-5⟩,⟨110,5⟩,⟨105,10⟩,⟨9,20⟩,⟨-9,20⟩,⟨-20,9⟩]
theorem Z7N:Zb c2L=true:=by rw [Z0m];decide +kernel
theorem c2_cor:corL ⟨100,0⟩ 10 ⟨0,0⟩ 20=c2L:=by
 have e:corE ⟨100,0⟩ 10 ⟨0,0⟩ 20=0:=by
  unfold corE;rw [show (10:Int).toNat=10 from rfl,show (20:Int).toNat=20 from rfl,Z2t,Z3E]
  decide +kernel
 unfold corL;rw [if_pos e];unfold corH;rw [show (10:Int).toNat=10 from rfl,show (20:Int).toNat=20 from rfl,Z2t,Z3E]
 exact Z0f (by decide +kernel)
theorem ZbD:touchB c2L roX=false:=by
 have a:cornersP c2L roX=[]:=by unfold cornersP;rw [ZH Z04];decide +kernel
 have b:cornersP roX c2L=[]:=by unfold cornersP;rw [ZH Z7N];decide +kernel
 have c:crossP c2L roX=[]:=by decide +kernel
 unfold touchB sharedP;rw [a,b,c];simp
theorem Zat (h:List Pt):clrB (exP h) 1 10 0 20=true:=Z64 (h:=h) (a:=1) (b:=0) (u:=10) (w:=20) c2_cor Z7N ZbD
def c3L:List Pt:=[⟨90,-5⟩,⟨95,-10⟩,⟨191,-20⟩,⟨209,-20⟩,⟨220,-9⟩,⟨220,9⟩,⟨209,20⟩,⟨191,20⟩,⟨95,10⟩,⟨90,5⟩]
theorem Z1F:Zb c3L=true:=by rw [Z0m];decide +kernel
theorem ZbV:corL ⟨100,0⟩ 10 ⟨200,0⟩ 20=c3L:=by
 have e:corE ⟨100,0⟩ 10 ⟨200,0⟩ 20=0:=by
  unfold corE;rw [show (10:Int).toNat=10 from rfl,show (20:Int).toNat=20 from rfl,Z2t,Z3E]
  decide +kernel
 unfold corL;rw [if_pos e];unfold corH;rw [show (10:Int).toNat=10 from rfl,show (20:Int).toNat=20 from rfl,Z2t,Z3E]
 exact Z0f (by decide +kernel)
theorem Z7M:touchB c3L roX=true:=by
 have b:cornersP roX c3L=[⟨190,15⟩]:=by unfold cornersP;rw [ZH Z1F];decide +kernel
 unfold touchB sharedP;rw [b,Z1F,Z04];simp
theorem ZbW (h:List Pt):clrB (exP h) 1 10 2 20=false:=Z64 (h:=h) (a:=1) (b:=2) (u:=10) (w:=20) ZbV Z1F Z7M
def c4L:List Pt:=[⟨98,-1⟩,⟨99,-2⟩,⟨195,-12⟩,⟨205,-12⟩,⟨212,-5⟩,⟨212,5⟩,⟨205,12⟩,⟨195,12⟩,⟨99,2⟩,⟨98,1⟩]
theorem Z7L:Zb c4L=true:=by rw [Z0m];decide +kernel
theorem c4_cor:corL ⟨100,0⟩ 2 ⟨200,0⟩ 12=c4L:=by
 have e:corE ⟨100,0⟩ 2 ⟨200,0⟩ 12=0:=by
  unfold corE;rw [show (2:Int).toNat=2 from rfl,show (12:Int).toNat=12 from rfl,ZbO,Z52]
  decide +kernel
 unfold corL;rw [if_pos e];unfold corH;rw [show (2:Int).toNat=2 from rfl,show (12:Int).toNat=12 from rfl,ZbO,Z52]
 exact Z0f (by decide +kernel)
theorem ZbC:touchB c4L roX=false:=by
 have a:cornersP c4L roX=[]:=by unfold cornersP;rw [ZH Z04];decide +kernel
 have b:cornersP roX c4L=[]:=by unfold cornersP;rw [ZH Z7L];decide +kernel
 have c:crossP c4L roX=[]:=by decide +kernel
 unfold touchB sharedP;rw [a,b,c];simp
theorem c4_clr (h:List Pt):clrB (exP h) 1 2 2 12=true:=Z64 (h:=h) (a:=1) (b:=2) (u:=2) (w:=12) c4_cor Z7L ZbC
def c5L:List Pt:=[⟨-32,-14⟩,⟨-14,-32⟩,⟨14,-32⟩,⟨205,-12⟩,⟨212,-5⟩,⟨212,5⟩,⟨205,12⟩,⟨14,32⟩,⟨-14,32⟩,⟨-32,14⟩]
theorem Z7K:Zb c5L=true:=by rw [Z0m];decide +kernel
theorem c5_cor:corL ⟨200,0⟩ 12 ⟨0,0⟩ 32=c5L:=by
 have e:corE ⟨200,0⟩ 12 ⟨0,0⟩ 32=0:=by
  unfold corE;rw [show (12:Int).toNat=12 from rfl,show (32:Int).toNat=32 from rfl,Z52,Z6Q]
  decide +kernel
 unfold corL;rw [if_pos e];unfold corH;rw [show (12:Int).toNat=12 from rfl,show (32:Int).toNat=32 from rfl,Z52,Z6Q]
 exact Z0f (by decide +kernel)
theorem ZbB:touchB c5L roX=false:=by
 have a:cornersP c5L roX=[]:=by unfold cornersP;rw [ZH Z04];decide +kernel
 have b:cornersP roX c5L=[]:=by unfold cornersP;rw [ZH Z7K];decide +kernel
 have c:crossP c5L roX=[]:=by decide +kernel
 unfold touchB sharedP;rw [a,b,c];simp
theorem c5_clr (h:List Pt):clrB (exP h) 2 12 0 32=true:=Z64 (h:=h) (a:=2) (b:=0) (u:=12) (w:=32) c5_cor Z7K ZbB
theorem Z2n:lieB (exP hmA) 20=true:=by
 unfold lieB;rw [show (20:Int).toNat=20 from rfl,Z3E]
 unfold cornersP;rw [show (exP hmA).home=hmA from rfl,ZH Z0y]
 decide +kernel
theorem Z8l:lieB (exP hmA) 32=true:=by
 unfold lieB;rw [show (32:Int).toNat=32 from rfl,Z6Q]
 unfold cornersP;rw [show (exP hmA).home=hmA from rfl,ZH Z0y]
 decide +kernel
theorem Z30 (h:List Pt):dep (exP h) 1=1/\dep (exP h) 2=1:=⟨rfl,rfl⟩
theorem ZbN (h:List Pt):rdA (exP h) [] 0=0/\rdB (exP h) [] 1=10/\rdA (exP h) [] 1=10/\rdB (exP h) [] 2=20:=by
 obtain⟨g1,g2,g3,g4⟩:=Z2b h;have a0:rdA (exP h) [] 0=0:=rfl;have b1:rdB (exP h) [] 1=10:=by rw [Z0F,a0,g1];rfl
 have a1:rdA (exP h) [] 1=10:=by rw [Z0G,if_neg (by simp),b1]
 exact⟨a0,b1,a1,by rw [Z0F,a1,g2];rfl⟩
theorem Zaa (h:List Pt):rdA (exP h) [1] 0=0/\rdB (exP h) [1] 1=10/\rdA (exP h) [1] 1=2/\rdB (exP h) [1] 2=12:=by
 obtain⟨g1,g2,g3,g4⟩:=Z2b h;have a0:rdA (exP h) [1] 0=0:=rfl;have b1:rdB (exP h) [1] 1=10:=by rw [Z0F,a0,g1];rfl
 have a1:rdA (exP h) [1] 1=2:=by rw [Z0G,if_pos (by simp),b1];rfl
 exact⟨a0,b1,a1,by rw [Z0F,a1,g2];rfl⟩
theorem Z7A (h:List Pt) (l:List Int):usE (exP h) l 1=0/\usE (exP h) l 2=0/\usT (exP h) l 1<=10/\usT (exP h) l 2<=10:=by
 obtain⟨t1,t2,t3,t4⟩:=Z3B h;have w0:∀ k,waitT (exP h) l k=0:=fun k=>by
  unfold waitT
  split
  ·match k with
   | 0=>rfl
   | 1=>rfl
   | 2=>rfl
   | k+3=>rfl
  ·rfl
 have i0:(exP h).idle=0:=rfl;simp only [usE,usT,w0,exP_e,i0,t1,t2]
 decide
theorem Z2Z (h:List Pt):homeE (exP h) 1 1=0/\homeE (exP h) 2 1=0/\homeT (exP h) 1 1=1/\homeT (exP h) 2 1=2:=by
 obtain⟨t1,t2,t3,t4⟩:=Z3B h;simp only [homeE,homeT,exP_e];refine⟨rfl,rfl,?_,?_⟩
 ·show 0+tLeg (exP h) 1 0=1;rw [t3];rfl
 ·show 0+tLeg (exP h) 2 0=2;rw [t4];rfl
theorem Zac (h:List Pt) (r:Int):bkR (exP h) 1 r 1=r+10/\bkR (exP h) 2 r 1=r+20/\bkC (exP h) 1 r 1=clrB (exP h) 1 r 0 (r+10)/\bkC (exP h) 2 r 1=clrB (exP h) 2 r 0 (r+20):=by
 obtain⟨g1,g2,g3,g4⟩:=Z2b h;have b1:bkR (exP h) 1 r 1=r+10:=by show r+gLeg (exP h) 1 0=_;rw [g3]
 have b2:bkR (exP h) 2 r 1=r+20:=by show r+gLeg (exP h) 2 0=_;rw [g4]
 refine⟨b1,b2,?_,?_⟩
 ·show (true && clrB (exP h) 1 r 0 (bkR (exP h) 1 r 1))=_;rw [b1];rfl
 ·show (true && clrB (exP h) 2 r 0 (bkR (exP h) 2 r 1))=_;rw [b2];rfl
theorem Z51 (h:List Pt):(exP h).battery=1000/\(exP h).deadline=1000:=⟨rfl,rfl⟩
theorem Zcn:kindV (exP hmA) [] 0=0:=by
 obtain⟨a0,b1,a1,b2⟩:=ZbN hmA;obtain⟨d1,d2⟩:=Z30 hmA;obtain⟨u1,u2,u3,u4⟩:=Z7A hmA [];obtain⟨h1,h2,h3,h4⟩:=Z2Z hmA;obtain⟨m1,m2⟩:=Z51 hmA;unfold kindV;obtain⟨q1,q2,q3,q4⟩:=Zac hmA 10;rw [show (0:Nat)+1=1 from rfl,a0,b1,Zau,d1,q3,q1,show (10:Int)+10=20 from rfl,Zat,Z2n,if_neg (by decide),if_neg (by decide),if_neg (by decide),u1,h1,m1,h3,m2,if_neg (by decide),if_neg (by omega)]
theorem Z9A:kindV (exP hmA) [] 1=1:=by
 obtain⟨a0,b1,a1,b2⟩:=ZbN hmA;obtain⟨d1,d2⟩:=Z30 hmA;obtain⟨u1,u2,u3,u4⟩:=Z7A hmA [];obtain⟨h1,h2,h3,h4⟩:=Z2Z hmA;obtain⟨m1,m2⟩:=Z51 hmA;unfold kindV;rw [show (1:Nat)+1=2 from rfl,a1,b2,ZbW,if_pos rfl]
theorem Zcm:kindV (exP hmA) [1] 0=0:=by
 obtain⟨a0,b1,a1,b2⟩:=Zaa hmA;obtain⟨d1,d2⟩:=Z30 hmA;obtain⟨u1,u2,u3,u4⟩:=Z7A hmA [1];obtain⟨h1,h2,h3,h4⟩:=Z2Z hmA;obtain⟨m1,m2⟩:=Z51 hmA;unfold kindV;obtain⟨q1,q2,q3,q4⟩:=Zac hmA 10;rw [show (0:Nat)+1=1 from rfl,a0,b1,Zau,d1,q3,q1,show (10:Int)+10=20 from rfl,Zat,Z2n,if_neg (by decide),if_neg (by decide),if_neg (by decide),u1,h1,m1,h3,m2,if_neg (by decide),if_neg (by omega)]
theorem Zcl:kindV (exP hmA) [1] 1=0:=by
 obtain⟨a0,b1,a1,b2⟩:=Zaa hmA;obtain⟨d1,d2⟩:=Z30 hmA;obtain⟨u1,u2,u3,u4⟩:=Z7A hmA [1];obtain⟨h1,h2,h3,h4⟩:=Z2Z hmA;obtain⟨m1,m2⟩:=Z51 hmA;unfold kindV;obtain⟨q1,q2,q3,q4⟩:=Zac hmA 12;rw [show (1:Nat)+1=2 from rfl,a1,b2,c4_clr,d2,q4,q2,show (12:Int)+20=32 from rfl,c5_clr,Z8l,if_neg (by decide),if_neg (by decide),if_neg (by decide),u2,h2,m1,h4,m2,if_neg (by decide),if_neg (by omega)]
theorem Z1O (h:List Pt):(exP h).ways.length=3:=rfl
theorem Za9 (h:List Pt):stopsB (exP h) []=true/\stopsB (exP h) [1]=true/\stopsB (exP h) [2]=false:=by
 refine⟨?_,?_,?_⟩
 ·unfold stopsB;exact decide_eq_true fun k hk=>absurd hk (by simp)
 ·show stopsB (exP hmB) [1]=true;decide
 ·show stopsB (exP hmB) [2]=false;decide
theorem Zab {h:List Pt} (hh:Zb h=true):radOkB (exP h) []=true/\radOkB (exP h) [1]=true/\radOkB (exP h) [2]=false:=by
 obtain⟨a,b,c⟩:=Za9 h;simp [radOkB,Z5U hh,a,b,c]
theorem exA_0:kpL (exP hmA) []=1/\kpK (exP hmA) []=1/\kpE (exP hmA) []=0:=by
 have e:leadN (exP hmA) []=1:=Z1w (by rw [Z1O];decide) (fun j hj=>by
  obtain rfl:j=0:=by omega
  exact Zcn) (fun _=>by rw [Z9A];decide)
 simp only [kpL,kpK,kpE,(Zab Z0y).1,if_true,leadV,leadK,e];exact⟨rfl,by rw [if_pos (by rw [Z1O];decide)];exact Z9A,trivial⟩
theorem exA_1:kpL (exP hmA) [1]=2/\kpK (exP hmA) [1]=0/\kpE (exP hmA) [1]=0:=by
 have e:leadN (exP hmA) [1]=2:=Z1w (by rw [Z1O];decide) (fun j hj=>by
  match j,hj with
  | 0,_=>exact Zcm
  | 1,_=>exact Zcl
  | j+2,hj=>exact absurd hj (by omega)) (fun h=>absurd h (by rw [Z1O];decide))
 simp only [kpL,kpK,kpE,(Zab Z0y).2.1,if_true,leadV,leadK,e];exact⟨rfl,by rw [if_neg (by rw [Z1O];decide)],trivial⟩
theorem Zcx (h:List Pt):fixL (exP h)=[1]:=rfl
theorem Zbm:bestP (exP hmA)=(2,[1]):=by
 unfold bestP farL;rw [Zcx,show allTo [1] (([1]:List Int).length+1)=[[],[1]] from rfl]
 simp [farS,exA_0.1,exA_1.1]
theorem Z6O:bsB (exP hmA)=true/\bsL (exP hmA)=[1]/\plE (exP hmA)=0/\rfB (exP hmA)=false/\rfL (exP hmA)=[]/\rfG (exP hmA)=0:=by
 have hv:=Z5U Z0y;simp [bsB,bsL,rfB,rfL,rfG,plE,hv,Zbm,Z1O]
section
open Go.RowKit
structure Psg where
 cor:List Pt
 fr:Int
 tw:Int
 tm:Int
 en:Int
structure Crt where
 stops:List Int
 psg:List Psg
 ret:List Int
def pgd (l:List Psg) (j:Nat):Psg:=l.getD j ⟨[],0,0,0,0⟩
def PsgAt (n0:Nat) (W:World) (b o:Nat) (p:Psg):Prop :=
 ∃ u,W.cell? ⟨b,o,none⟩=some u/\Z7 n0 W u p.cor/\W.cell? ⟨b,o+1,none⟩=some (O qL p.fr)/\W.cell? ⟨b,o+2,none⟩=some (O qL p.tw)/\W.cell? ⟨b,o+3,none⟩=some (O qL p.tm)/\W.cell? ⟨b,o+4,none⟩=some (O qL p.en)
theorem PsgAt.below {n0:Nat} {A B:World} (h:Below n0 A B) {b o:Nat} {p:Psg} (hb:b<n0) (hp:PsgAt n0 A b o p):PsgAt n0 B b o p:=by
 obtain⟨u,c0,hu,c1,c2,c3,c4⟩:=hp;exact⟨u,(h.cell (p:=⟨b,o,none⟩) hb).trans c0,hu.below h,(h.cell (p:=⟨b,o+1,none⟩) hb).trans c1,(h.cell (p:=⟨b,o+2,none⟩) hb).trans c2,(h.cell (p:=⟨b,o+3,none⟩) hb).trans c3,(h.cell (p:=⟨b,o+4,none⟩) hb).trans c4⟩
theorem PsgAt.mono {n0 n1:Nat} {W:World} {b o:Nat} {p:Psg} (hp:PsgAt n0 W b o p) (h:n0<=n1):PsgAt n1 W b o p:=by
 obtain⟨u,c0,hu,c⟩:=hp;exact⟨u,c0,hu.mono h,c⟩
def PsgsAt (n0:Nat) (W:World) (v:Value) (l:List Psg):Prop :=
 l.length<=70368744177663/\∃ a cap,v=qS a l.length (l.length+cap)/\(l=[]\/∃ b o,a=some ⟨b,o,none⟩/\b<n0/\∀ j,j<l.length->PsgAt n0 W b (o+j*5) (pgd l j))
theorem PsgsAt.below {n0:Nat} {A B:World} (h:Below n0 A B) {v:Value} {l:List Psg} (hp:PsgsAt n0 A v l):PsgsAt n0 B v l:=by
 obtain⟨hl,a,cap,e,hc⟩:=hp;refine⟨hl,a,cap,e,hc.imp id ?_⟩;rintro ⟨b,o,e1,hb,hc⟩;exact⟨b,o,e1,hb,fun j hj=>(hc j hj).below h hb⟩
theorem PsgsAt.mono {n0 n1:Nat} {W:World} {v:Value} {l:List Psg} (hp:PsgsAt n0 W v l) (h:n0<=n1):PsgsAt n1 W v l:=by
 obtain⟨hl,a,cap,e,hc⟩:=hp;refine⟨hl,a,cap,e,hc.imp id ?_⟩;rintro ⟨b,o,e1,hb,hc⟩;exact⟨b,o,e1,by omega,fun j hj=>(hc j hj).mono h⟩
def CrtAt (n0:Nat) (W:World) (c:Crt) (vs vp vr:Value):Prop:=Z8 n0 W vs c.stops/\PsgsAt n0 W vp c.psg/\Z8 n0 W vr c.ret
theorem CrtAt.below {n0:Nat} {A B:World} (h:Below n0 A B) {c:Crt} {vs vp vr:Value} (hp:CrtAt n0 A c vs vp vr):CrtAt n0 B c vs vp vr:=⟨hp.1.below h,hp.2.1.below h,hp.2.2.below h⟩
theorem CrtAt.mono {n0 n1:Nat} {W:World} {c:Crt} {vs vp vr:Value} (hp:CrtAt n0 W c vs vp vr) (h:n0<=n1):CrtAt n1 W c vs vp vr:=⟨hp.1.mono h,hp.2.1.mono h,hp.2.2.mono h⟩
def wthB (n most:Int):Bool:=decide (0<=n/\n<=most)
noncomputable def okP (c:Crt) (j:Nat):Bool :=
 Zb (pgd c.psg j).cor && (wthB (pgd c.psg j).fr 100000 && (wthB (pgd c.psg j).tw 100000 && (wthB (pgd c.psg j).tm 1000000000 && (wthB (pgd c.psg j).en 1000000000 && wthB (c.ret.getD j 0) 1000000000))))
noncomputable def frmB (m:Msn) (c:Crt):Bool :=
 radOkB m c.stops && decide (c.psg.length=m.ways.length-1) && decide (c.ret.length=m.ways.length-1) && decide (∀ j,j<c.psg.length->okP c j=true)
def befR (m:Msn) (c:Crt) (i:Nat):Int:=if i=0 then m.start else if (i:Int) ∈ c.stops then min (pgd c.psg (i-1)).tw (wy m.ways i).fix else (pgd c.psg (i-1)).tw
def befT (m:Msn) (c:Crt) (i:Nat):Int:=if i=0 then 0 else if (i:Int) ∈ c.stops then (pgd c.psg (i-1)).tm+(wy m.ways i).wait else (pgd c.psg (i-1)).tm
def befE (m:Msn) (c:Crt) (i:Nat):Int:=if i=0 then 0 else if (i:Int) ∈ c.stops then (pgd c.psg (i-1)).en+m.idle*(wy m.ways i).wait else (pgd c.psg (i-1)).en
end
section
attribute [local irreducible] wpQuiet
open Go.RowKit
theorem Z81 (v : Value) (l : List Int) (x : Int) (w : World) (hl : Z8 w.heap.size w v l) :
  Calls Tryz.prog 152 #[v,O qL x] w (FindQ (decide (x ∈ l)) w):=by
 obtain⟨hl,a,cap,rfl,hc⟩:=hl;go_enter Tryz.func152,Tryz.ntmps152;go_wp2
 go_loopw [8] (fun i wr=>∃ k:Nat,k<=l.length/\i=O qL k/\(∀ j,j<k->l.getD j 0≠x)/\wr=w) (fun i _=>l.length-(intOf i).toNat)
 case atStart=>exact⟨0,Nat.zero_le _,rfl,fun j h=>by omega,rfl⟩
 case round =>
  obtain⟨k,hk,rfl,hall,hB⟩:=hrel;subst hB;by_cases hlt:k<l.length
  ·rcases hc with rfl | ⟨b,o,rfl,hb,hc⟩
   ·simp at hlt
   have c1:=hc k hlt;have hall':=qH hall;have hc':=qH hc;have hg:l.getD k 0 ∈ l:=by rw [List.getD,List.getElem?_eq_getElem hlt];exact List.getElem_mem hlt
   obtain⟨y,hy0⟩:∃ y,l.getD k 0=y:=⟨_,rfl⟩;rw [hy0] at c1 hg;have HY:=qH hy0;clear hall hc hy0;by_cases hy:x=y
   ·have dy:(x == y)=true:=by rw [beq_iff_eq];exact hy
    have hr:=qH (show decide (x ∈ l)=true by rw [decide_eq_true_eq,hy];exact hg)
    clear hg hy;go_wp2;go_ret;exact⟨k,rfl,by omega,by omega,by rw [hr.out];simp,qK _ _⟩
   ·have dy:(x == y)=false:=by rw [beq_eq_false_iff_ne];exact hy
    have hyy:=qH hy;clear hg hy;go_wp2;go_roundw
    case rel =>
     refine⟨k+1,by omega,by go_num,fun j hj=>?_,by first | rfl | trivial⟩
     by_cases e:j=k
     ·rw [e,HY.out];exact fun h=>hyy.out h.symm
     ·exact hall'.out j (by omega)
    case measure=>simp [intOf];omega
  ·have hr:Hid (decide (x ∈ l)=false):=by
    show decide (x ∈ l)=false
    rw [decide_eq_false_iff_not];intro h;obtain⟨j,hj,rfl⟩:=List.getElem_of_mem h;exact hall j (by omega) (by rw [List.getD,List.getElem?_eq_getElem hj];rfl)
   clear hall;go_wp2;go_ret;exact⟨-1,rfl,by omega,by omega,by rw [hr.out];simp,qK _ _⟩
theorem Z4E (v:Value) (l:List Int) (x:Int) (w:World) (hl:Z8 w.heap.size w v l) :
  Calls Tryz.prog 103 #[v,O qL x] w fun e w'=>e=qR (.bool (decide (x ∈ l)))/\Below w.heap.size w w':=by
 go_enter Tryz.func103,Tryz.ntmps103;go_wp2_with (go_at_call 152;refine (Z81 _ _ _ _ hl).mono ?_;rintro e w1 ⟨r,rfl,r1,r2,r3,hb⟩);go_ret;exact⟨by first | rfl | exact Zs r3,hb⟩
end
noncomputable def ccB (m:Msn) (a:Nat) (u:Int) (b:Nat) (w:Int):Bool:=decide (corE (atW m a) u (atW m b) w=0) && clrB m a u b w
noncomputable def ccC (m:Msn) (a:Nat) (r:Int):Nat->Bool
 | 0=>true
 | j+1=>ccC m a r j && ccB m (itB m a j) (bkR m a r j) (itB m a (j+1)) (bkR m a r (j+1))
noncomputable def hwE (m:Msn) (a:Nat) (r:Int):Int:=if ccC m a r (dep m a)=false then 50 else if lieB m (bkR m a r (dep m a))=false then 52 else 0
noncomputable def kpsE (m:Msn) (i:Nat) (u v t e:Int):Int :=
 if ccB m i u (i+1) v=false then 50
 else if hwE m (i+1) v=50 then 50
 else if hwE m (i+1) v=52 then 52
 else if e+homeE m (i+1) (dep m (i+1))>m.battery then 51
 else if t+homeT m (i+1) (dep m (i+1))>m.deadline then 6
 else 0
theorem ZbU {m:Msn} {a b:Nat} {u w:Int} (h:ccB m a u b w=true):(0<=u/\u<=100000)/\0<=w/\w<=100000:=by
 unfold ccB at h;rw [Bool.and_eq_true,decide_eq_true_eq] at h;obtain⟨⟨-,-,h1,h2,h3,h4⟩,-⟩:=Z1m h.1;exact⟨⟨h1,h2⟩,h3,h4⟩
theorem ccC_bd {m:Msn} {a:Nat} {r:Int} (h0:0<=r/\r<=100000):∀ j,ccC m a r j=true->0<=bkR m a r j/\bkR m a r j<=100000
 | 0,_=>h0
 | j + 1, h => by
  simp only [ccC,Bool.and_eq_true] at h;exact (ZbU h.2).2
theorem Z7J {m:Msn} {a:Nat} {r:Int}:∀ n j,j<=n->ccC m a r n=true->ccC m a r j=true
 | 0,j,hj,h=>by rw [Nat.le_zero.1 hj];rfl
 | n + 1, j, hj, h => by
  rcases Nat.lt_or_eq_of_le hj with e | e
  ·simp only [ccC,Bool.and_eq_true] at h
   exact Z7J n j (by omega) h.1
  ·rw [e];exact h
theorem hwE_or (m:Msn) (a:Nat) (r:Int):hwE m a r=50\/hwE m a r=52\/hwE m a r=0:=by
 unfold hwE
 repeat' split
 all_goals simp
theorem ZbT {m:Msn} (V:VMsn m) {a b:Nat} (ha:a<m.ways.length) (hb:b<m.ways.length) {u w:Int} (hu:0<=u/\u<=100000) (hw:0<=w/\w<=100000):ccB m a u b w=clrB m a u b w:=by
 unfold ccB;rw [Z4r V ha hb hu hw];simp
theorem Zbi {m:Msn} (V:VMsn m) {a b:Nat} {u v:Int} (h:corE (atW m a) u (atW m b) v=0):firE (corL (atW m a) u (atW m b) v) m.rocks=0:=by
 unfold corL;rw [if_pos h];have g:=Z0V (Z60 h);have o1:okRocks (corH (atW m a) u.toNat (atW m b) v.toNat) m.rocks=true:=by unfold okRocks;rw [g,Bool.true_and];exact V.rocks
 unfold firE;rw [if_pos V.nr,if_pos o1]
theorem Z9o {m:Msn} (V:VMsn m) {r:Int} (h:0<=r/\r<=100000):bothE (shL (dskL r) (atW m 0)) m.home=0:=by
 have hr:radOk r=true:=by simp [radOk,h]
 have hd:dskL r=Z4 r.toNat:=by simp [dskL,hr]
 have c:=Z4r V (a:=0) (b:=0) (by have:=V.n2;omega) (by have:=V.n2;omega) h h
 obtain⟨⟨hp,-⟩,ha,-⟩:=Z1m c;have G:=Z1C (n:=r.toNat) (by omega)
 have hv:Zb (Z4 r.toNat)=true:=by simpa [Zb] using G
 have e2:shE (dskL r) (atW m 0)=0:=by rw [hd];simp [shE,hv,hp,ha]
 have e3:shL (dskL r) (atW m 0)=mvL (atW m 0) (Z4 r.toNat):=by simp only [shL,e2,if_true];rw [hd]
 rw [e3];have hv2:Zb (mvL (atW m 0) (Z4 r.toNat))=true:=by rw [Z1B _ G];exact ha
 simp [bothE,hv2,V.home]
section
attribute [local irreducible] wpQuiet
open Go.RowKit
theorem Z0z (n most:Int) (w:World):Calls Tryz.prog 102 #[O qL n,O qL most] w fun e w'=>e=qR (.bool (wthB n most))/\w'=w:=by
 have H:Hid (wthB n most=decide (0<=n/\n<=most)):=rfl;by_cases h:0<=n
 ·have d:decide (0<=n)=true:=by rw [decide_eq_true_eq];exact h
  by_cases h2:n<=most
  ·have d2:decide (n<=most)=true:=by rw [decide_eq_true_eq];exact h2
   have HV:=qH (show wthB n most=true by rw [H.out,decide_eq_true_eq];exact⟨h,h2⟩)
   clear h h2;go_enter Tryz.func102,Tryz.ntmps102;go_wp2;go_ret;exact⟨by rw [HV.out];rfl,rfl⟩
  ·have d2:decide (n<=most)=false:=by rw [decide_eq_false_iff_not];exact h2
   have HV:=qH (show wthB n most=false by rw [H.out,decide_eq_false_iff_not];exact fun x=>h2 x.2)
   clear h h2;go_enter Tryz.func102,Tryz.ntmps102;go_wp2;go_ret;exact⟨by rw [HV.out];rfl,rfl⟩
 ·have d:decide (0<=n)=false:=by rw [decide_eq_false_iff_not];exact h
  have HV:=qH (show wthB n most=false by rw [H.out,decide_eq_false_iff_not];exact fun x=>h x.1)
  clear h;go_enter Tryz.func102,Tryz.ntmps102;go_wp2;go_ret;exact⟨by rw [HV.out];rfl,rfl⟩
theorem Z9a (m:Msn) (l:List Int):rdE m l=if radOkB m l=true then 0 else 1:=by unfold rdE;rfl
theorem Z05 {m:Msn} {l:List Int} (h:radOkB m l=true):validB m=true/\stopsB m l=true:=by unfold radOkB at h;rwa [Bool.and_eq_true] at h
theorem Z8v (m : Msn) (vw vh vr : Value) (c : Crt) (vs vp ve : Value) (w : World) (hm : MsnAt w.heap.size w m vw vh vr) (hc : CrtAt w.heap.size w c vs vp ve) :
  Calls Tryz.prog 45 #[.agg (Zc m vw vh vr),.agg #[vs,vp,ve]] w fun e w'=>e=qR (.bool (frmB m c))/\Below w.heap.size w w':=by
 have f1:=fun w1 (B:Below w.heap.size w w1)=>Z3g m vw vh vr vs c.stops w1 ((hm.below B).mono B.size) ((hc.1.below B).mono B.size)
 rw [Z9a] at f1;have hv2:=fun h=>Z05 (m:=m) (l:=c.stops) h
 have HF:frmB m c=(radOkB m c.stops && decide (c.psg.length=m.ways.length-1) && decide (c.ret.length=m.ways.length-1) && decide (∀ j,j<c.psg.length->okP c j=true)):=rfl;generalize frmB m c=fb at *;obtain⟨⟨-,a1,cap1,rfl,-⟩,⟨-,a2,cap2,rfl,-⟩,⟨-,a3,cap3,rfl,-⟩⟩:=hm;obtain⟨⟨-,aS,cS,rfl,-⟩,⟨-,ap,cp,rfl,hcp⟩,⟨-,ar,cr,rfl,hcr⟩⟩:=hc;unfold Zc at *;have HCP:=qH hcp;have HCR:=qH hcr;replace f1:=qH f1;replace HF:=qH HF;clear hcp hcr;have BW:=qH (qK w.heap.size w);go_enter Tryz.func45,Tryz.ntmps45;go_wp2_with fail;generalize hXX0:qV (qV w _) _=X0;obtain⟨q0,q1,hA,hzX0⟩:=box2 hXX0;clear hXX0;have BW:=qH hA;clear hA;have MB:=qH q0;clear q0;have CB:=qH q1;clear q1 hzX0;obtain⟨c0,c1,c2,c3,c4,c5,c6,c7,c8,c9,c10⟩:=Zg (m:=m) MB.out;have hcb:=CB.out;have e0:=hcb.cell (i:=0) rfl;have e1:=hcb.cell (i:=1) rfl;have e2:=hcb.cell (i:=2) rfl;refine (f1.out _ BW.out).mono ?_;rintro e w1 ⟨u1,u2,rfl,-,-,b1⟩;replace BW:=zAf BW b1;have B_X0:=qH b1;clear b1 c0 c1 c2 c3 c4 c5 c6 c7 c8 c9 c10 hcb e0 e1 e2;obtain⟨c0,c1,c2,c3,c4,c5,c6,c7,c8,c9,c10⟩:=Zg (m:=m) (zCl MB B_X0);have hcb:=(zCl CB B_X0);have e0:=hcb.cell (i:=0) rfl;have e1:=hcb.cell (i:=1) rfl;have e2:=hcb.cell (i:=2) rfl;cases hok:radOkB m c.stops
 ·have HV:=qH (show fb=false by rw [HF.out,hok];rfl)
  go_wp2;go_ret;exact⟨by rw [HV.out];rfl,BW.out⟩
 obtain⟨hV,-⟩:=hv2 hok;have V:=(Zj m).1 hV;have n2:=V.n2;have n41:=V.n41;have hfb:=qH (show fb=(decide (c.psg.length=m.ways.length-1) && decide (c.ret.length=m.ways.length-1) && decide (∀ j,j<c.psg.length->okP c j=true)) by rw [HF.out,hok];rfl)
 clear hok hV V hv2 HF;obtain⟨n,hn⟩:∃ n,m.ways.length-1=n:=⟨_,rfl⟩;have jw:qW qL ((m.ways.length:Int)-1)=(n:Int):=by rw [show (m.ways.length:Int)-1=(n:Int) by omega];exact zW2
 have hn8:n<=40:=by omega
 replace hfb:=hfb.out;rw [hn] at hfb;replace hfb:=qH hfb;clear hn;by_cases h1:c.psg.length=n;rotate_left
 ·have d1:((c.psg.length:Int) == (n:Int))=false:=by rw [beq_eq_false_iff_ne];omega
  have d1':((c.psg.length:Int) != (n:Int))=true:=by rw [bne_iff_ne];omega
  have HV:=qH (show fb=false by rw [hfb.out,decide_eq_false h1];rfl)
  clear h1;go_wp2;go_ret;exact⟨by rw [HV.out];rfl,BW.out⟩
 by_cases h2:c.ret.length=n;rotate_left
 ·have d1:((c.psg.length:Int) != (n:Int))=false:=by rw [bne_eq_false_iff_eq];omega
  have d2:((c.ret.length:Int) == (n:Int))=false:=by rw [beq_eq_false_iff_ne];omega
  have d2':((c.ret.length:Int) != (n:Int))=true:=by rw [bne_iff_ne];omega
  have HV:=qH (show fb=false by rw [hfb.out,decide_eq_false h2];simp)
  clear h1 h2;go_wp2;go_ret;exact⟨by rw [HV.out];rfl,BW.out⟩
 have d1:((c.psg.length:Int) == (n:Int))=true:=by rw [beq_iff_eq];omega
 have d2:((c.ret.length:Int) == (n:Int))=true:=by rw [beq_iff_eq];omega
 have d3:((n:Int) == (n:Int))=true:=by simp
 replace hfb:=hfb.out;rw [decide_eq_true h1,decide_eq_true h2,Bool.true_and,Bool.true_and,h1] at hfb;have H1:=qH h1;have H2:=qH h2;rw [h1] at e1;rw [h2] at e2;clear h1 h2 d1 d2;replace hfb:=qH hfb;go_wp2;have BC:=qH (qK w1.heap.size w1);have hCB:=qH (zCl CB B_X0);clear c0 c1 c2 c3 c4 c5 c6 c7 c8 c9 c10 hcb e0 e1 e2
 go_loopw [42] (fun i wr=>∃ k:Nat,k<=n/\i=O qL k/\(∀ j,j<k->okP c j=true)/\Below w1.heap.size w1 wr) (fun i _=>n-(intOf i).toNat)
 case atStart=>exact⟨0,Nat.zero_le _,rfl,fun j h=>by omega,qK _ _⟩
 case round =>
  obtain⟨k,hk,rfl,hall,hB⟩:=hrel;obtain⟨wo,hwo⟩:∃ x,x=wr:=⟨_,rfl⟩;subst hwo;have HA:=qH hall;have BB:=qH (And.intro hB (BW.out.trans (hB.mono BW.out.size)));clear hall hB;by_cases hlt:k<n
  ·obtain⟨b,o,rfl,hb,hc⟩:=HCP.out.resolve_left (by intro h;have:=H1.out;rw [h] at this;simp at this;omega)
   obtain⟨u,x0,hu,x1,x2,x3,x4⟩:=hc k (by rw [H1.out];exact hlt)
   obtain⟨b',o',rfl,hb',hc'⟩:=HCR.out.resolve_left (by intro h;have:=H2.out;rw [h] at this;simp at this;omega)
   have x5:=hc' k (by rw [H2.out];exact hlt)
   have hok:Hid (okP c k=(Zb (pgd c.psg k).cor && (wthB (pgd c.psg k).fr 100000 && (wthB (pgd c.psg k).tw 100000 && (wthB (pgd c.psg k).tm 1000000000 && (wthB (pgd c.psg k).en 1000000000 && wthB (c.ret.getD k 0) 1000000000)))))):=rfl;have hno:=qH (fun h:okP c k=false=>show fb=false by
    rw [hfb.out,decide_eq_false_iff_not];intro h';rw [h' k hlt] at h;cases h)
   generalize pgd c.psg k=p at *;generalize c.ret.getD k 0=re at *;replace x0:=(BB.out.2.cell (p:=⟨b,o+k*5,none⟩) hb).trans x0;replace x1:=(BB.out.2.cell (p:=⟨b,o+k*5+1,none⟩) hb).trans x1;replace x2:=(BB.out.2.cell (p:=⟨b,o+k*5+2,none⟩) hb).trans x2;replace x3:=(BB.out.2.cell (p:=⟨b,o+k*5+3,none⟩) hb).trans x3;replace x4:=(BB.out.2.cell (p:=⟨b,o+k*5+4,none⟩) hb).trans x4;replace x5:=(BB.out.2.cell (p:=⟨b',o'+k,none⟩) hb').trans x5;have HU:=qH ((hu.below BB.out.2).mono BB.out.2.size);obtain⟨au,cu,rfl⟩:=HU.out.len;have HX5:=qH x5;have hbz:=BB.out.2.size;have hbb2:b'<wo.heap.size:=by omega
   have hCX:=qH (hCB.out.below BB.out.1 hCB.out.lt);have dk:decide ((k:Int)<(n:Int))=true:=zTq;have kl:(k:Int)<(n:Int):=by omega
   have k0:(0:Int)<=(k:Int):=by omega
   have BR:=qH (qK wo.heap.size wo);clear hc hc' hu x5;go_upto_region 8 with fail
   generalize hXX8:qV wo _=X8;obtain⟨q0,hA,hzX8⟩:=box1 hXX8;clear hXX8;have BR:=qH hA;clear hA;have PB:=qH q0;clear q0 x0 x1 x2 x3 x4;have hpb:=PB.out;have y0:=hpb.cell (i:=0) rfl;have y1:=hpb.cell (i:=1) rfl;have y2:=hpb.cell (i:=2) rfl;have y3:=hpb.cell (i:=3) rfl;have y4:=hpb.cell (i:=4) rfl;have hcx:=(zCl hCX BR);have e2:X8.cell? ⟨w.heap.size+1,2,none⟩=some (qS (some ⟨b',o',none⟩) n (n+cr)):=(hcx.cell (i:=2) rfl).trans (by rw [H2.out];rfl)
   have x5:=(BR.out.cell (p:=⟨b',o'+k,none⟩) hbb2).trans HX5.out;go_wp2_with fail;refine (Zp _ p.cor X8 ((HU.out.below BR.out).mono BR.out.size)).mono ?_;rintro e w2 ⟨rfl,b2⟩;replace BR:=zAf BR b2;have B_X8:=qH b2;clear b2 hpb y0 y1 y2 y3 y4 hcx e2 x5;have hpb:=(zCl PB B_X8);have y0:=hpb.cell (i:=0) rfl;have y1:=hpb.cell (i:=1) rfl;have y2:=hpb.cell (i:=2) rfl;have y3:=hpb.cell (i:=3) rfl;have y4:=hpb.cell (i:=4) rfl;have hcx:=(zCl hCX BR);have e2:w2.cell? ⟨w.heap.size+1,2,none⟩=some (qS (some ⟨b',o',none⟩) n (n+cr)):=(hcx.cell (i:=2) rfl).trans (by rw [H2.out];rfl)
   have x5:=(BR.out.cell (p:=⟨b',o'+k,none⟩) hbb2).trans HX5.out;cases hb0:Zb p.cor
   ·skip
    have HV:=qH (hno.out (by rw [hok.out,hb0];rfl))
    go_wp2;go_ret;exact⟨by rw [HV.out];rfl,BB.out.2.trans (BR.out.mono BB.out.2.size)⟩
   go_wp2_with fail;refine (Z0z _ _ _).mono ?_;rintro e0 w0 ⟨rfl,hw0⟩;rw [hw0];clear hw0 w0;cases hb1:wthB p.fr 100000
   ·skip
    have HV:=qH (hno.out (by rw [hok.out,hb0,hb1];rfl))
    go_wp2;go_ret;exact⟨by rw [HV.out];rfl,BB.out.2.trans (BR.out.mono BB.out.2.size)⟩
   go_wp2_with fail;refine (Z0z _ _ _).mono ?_;rintro e0 w0 ⟨rfl,hw0⟩;rw [hw0];clear hw0 w0;cases hb2:wthB p.tw 100000
   ·skip
    have HV:=qH (hno.out (by rw [hok.out,hb0,hb1,hb2];rfl))
    go_wp2;go_ret;exact⟨by rw [HV.out];rfl,BB.out.2.trans (BR.out.mono BB.out.2.size)⟩
   go_wp2_with fail;refine (Z0z _ _ _).mono ?_;rintro e0 w0 ⟨rfl,hw0⟩;rw [hw0];clear hw0 w0;cases hb3:wthB p.tm 1000000000
   ·skip
    have HV:=qH (hno.out (by rw [hok.out,hb0,hb1,hb2,hb3];rfl))
    go_wp2;go_ret;exact⟨by rw [HV.out];rfl,BB.out.2.trans (BR.out.mono BB.out.2.size)⟩
   go_wp2_with fail;refine (Z0z _ _ _).mono ?_;rintro e0 w0 ⟨rfl,hw0⟩;rw [hw0];clear hw0 w0;cases hb4:wthB p.en 1000000000
   ·skip
    have HV:=qH (hno.out (by rw [hok.out,hb0,hb1,hb2,hb3,hb4];rfl))
    go_wp2;go_ret;exact⟨by rw [HV.out];rfl,BB.out.2.trans (BR.out.mono BB.out.2.size)⟩
   go_wp2_with fail;refine (Z0z _ _ _).mono ?_;rintro e0 w0 ⟨rfl,hw0⟩;rw [hw0];clear hw0 w0;cases hb5:wthB re 1000000000
   ·skip
    have HV:=qH (hno.out (by rw [hok.out,hb0,hb1,hb2,hb3,hb4,hb5];rfl))
    go_wp2;go_ret;exact⟨by rw [HV.out];rfl,BB.out.2.trans (BR.out.mono BB.out.2.size)⟩
   have HV:=qH (show okP c k=true by rw [hok.out,hb0,hb1,hb2,hb3,hb4,hb5];rfl)
   clear hpb y0 y1 y2 y3 y4 hcx e2 x5;go_wp2;go_roundw
   case rel =>
    refine⟨k+1,by omega,by go_num,fun j hj=>?_,BB.out.1.trans (BR.out.mono BB.out.1.size)⟩
    by_cases e:j=k
    ·rw [e];exact HV.out
    ·exact HA.out j (by omega)
   case measure=>simp [intOf];omega
  obtain rfl:k=n:=by omega
  have jj:decide ((k:Int)<(k:Int))=false:=by simp
  have HV:=qH (show fb=true by rw [hfb.out,decide_eq_true_eq];exact HA.out)
  go_wp2;go_ret;exact⟨by rw [HV.out];rfl,BB.out.2⟩
end
end Go.Proofs.YthipcinibldgnaaGreat
