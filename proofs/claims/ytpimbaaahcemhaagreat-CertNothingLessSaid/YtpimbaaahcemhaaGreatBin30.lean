/- package plan: farthest: what its rounds keep. | Fewer rocks, more battery, a later deadline: plain laws. No program here. | rows of passages that g .. -/
import Derived.Test.YtpimbaaahcemhaaGreatBin29
import Derived.Test.YtpimbaaahcemhaaGreatBin12
import Derived.Test.YtpimbaaahcemhaaGreatBin27
import Derived.Test.YtpimbaaahcemhaaGreatBin23
import Derived.Lib.SliceRun
import Derived.ArgAppend
import Derived.Test.YtpimbaaahcemhaaGreatBin09
import Derived.Test.YtpimbaaahcemhaaGreatBin05
import Derived.Test.YtpimbaaahcemhaaGreatBin11
import Derived.Test.YtpimbaaahcemhaaGreatBin26
import Derived.Test.YtpimbaaahcemhaaGreatBin24
import Derived.Test.YtpimbaaahcemhaaGreatBin08
import Derived.Test.YtpimbaaahcemhaaGreatBin19
import Derived.Test.YtpimbaaahcemhaaGreatBin21
import Derived.Test.YtpimbaaahcemhaaGreatBin13
namespace Go.Proofs.YtpimbaaahcemhaaGreat
open Go.RowKit
theorem Boxed.store {W:World} {B:Nat} {t:TypeId} {v:Value} (h:Boxed W B t v):W.setCell ⟨B,0,none⟩ v=W:=by
 have hlt:=h.lt
 have hv:W.heap[B]=.cells #[v] t (0,0):=(Array.getElem?_eq_some_iff.1 h).2
 unfold World.setCell
 cases W with
 | mk heap tape drawn os output =>
  congr 1
  apply Array.ext
  ·simp
  ·intro k h1 h2
   simp only [Array.getElem_modify]
   split
   ·rename_i hk;subst hk;simp at hv;simp [hv]
   ·rfl
structure FarI (BL BS BE:Nat) (w w2:World) (st:Int × List Int) (ds:List Nat) (v:Value) (W:World):Prop where
 leg:Boxed W BL 3 (.int .i64 st.1)
 sto:Boxed W BS 27 v
 err:Boxed W BE 34 (.int .i64 0)
 val:IntsAt W.heap.size W v st.2
 low:Below w.heap.size w W
 kee:KeepsP (fun b=>b<w2.heap.size∧b≠BL∧b≠BS∧b≠BE) w2 W
 mar:∀ D,D ∈ ds→w2.heap.size≤D∧W.heap[D]?=some (.deferred (some []))
 nod:ds.Nodup
 new:∀ r,v.ownBlock=some r→w2.heap.size≤r∧r<W.heap.size
structure FarB (BL BS BE:Nat) (w w2:World):Prop where
 l:BL<w2.heap.size∧w.heap.size≤BL
 s:BS<w2.heap.size∧w.heap.size≤BS
 e:BE<w2.heap.size∧w.heap.size≤BE
 ls:BL≠BS
 le:BL≠BE
 se:BS≠BE
 w:w.heap.size≤w2.heap.size
section
variable {BL BS BE:Nat} {w w2:World} {st:Int × List Int} {ds:List Nat} {v:Value} {W X:World}
theorem IntsAt.offG {l : List Int} {row : Option Nat} (h : IntsAt W.heap.size W v l) (hg : W.grownBy X row) (hne : ∀ r, row = some r → l = [] ∨ v.ownBlock ≠ some r) : IntsAt X.heap.size X v l := by
 obtain⟨hl,a,cap,e,hc⟩:=h
 refine⟨hl,a,cap,e,?_⟩
 rcases hc with hc | ⟨b,o,e1,hb,hc⟩
 ·exact .inl hc
 ·by_cases hl0:l=[]
  ·exact .inl hl0
  ·refine .inr ⟨b,o,e1,Nat.lt_of_lt_of_le hb hg.size,fun j hj=>?_⟩
   have hbn:some b≠row:=fun er=>by
    rcases hne b er.symm with h | h
    ·exact hl0 h
    ·exact h (by rw [e,e1];rfl)
   exact (World.cell?_of_block (hg.block b hb hbn)).trans (hc j hj)
theorem FarI.off (hB:FarB BL BS BE w w2) (h:FarI BL BS BE w w2 st ds v W) {row:Option Nat} (hg:W.grownBy X row) (hne:∀ r,row=some r→w2.heap.size≤r∧r ∉ ds∧(st.2=[]∨v.ownBlock≠some r)):FarI BL BS BE w w2 st ds v X:=by
 have hlt:∀ b,b<w2.heap.size→some b≠row:=fun b hb e=>by have:=(hne b e.symm).1;omega
 have hk:=h.kee.1
 refine⟨h.leg.kept hg (hlt _ hB.l.1),h.sto.kept hg (hlt _ hB.s.1),h.err.kept hg (hlt _ hB.e.1),h.val.offG hg (fun r e=>(hne r e).2.2),h.low.grown hg (by have:=hB.w;omega) (fun k e=>by have:=(hne k e).1;have:=hB.w;omega),⟨Nat.le_trans hk hg.size,fun b hb=>(hg.block b (by omega) (hlt b hb.1)).trans (h.kee.2 b hb)⟩,fun D hD=>⟨(h.mar D hD).1,?_⟩,h.nod,fun r e=>⟨(h.new r e).1,Nat.lt_of_lt_of_le (h.new r e).2 hg.size⟩⟩
 have m:=(h.mar D hD).2
 exact (hg.block D (Array.getElem?_eq_some_iff.1 m).1 (fun e=>(hne D e.symm).2.1 hD)).trans m
theorem FarI.below (hB:FarB BL BS BE w w2) (h:FarI BL BS BE w w2 st ds v W) (k:Below W.heap.size W X):FarI BL BS BE w w2 st ds v X :=
 h.off hB (row:=none) ⟨k.os,k.tape,k.output,k.size,fun b hb _=>k.block b hb⟩ (fun r e=>by cases e)
theorem FarI.keeps (hB:FarB BL BS BE w w2) (h:FarI BL BS BE w w2 st ds v W) (hz:W.heap.size≤X.heap.size) (hk:∀ b,b<W.heap.size→b≠BL→b≠BS→b≠BE→X.heap[b]?=W.heap[b]?) (B B2:Nat) (hB2:w2.heap.size≤B2) (q:Nat→Prop) (hq:∀ b,q b→b<W.heap.size∧b≠BL∧b≠BS∧b≠BE):KeepsFrom B W X∧chK q B2 W X:=by
 obtain⟨hl,hs,he,-⟩:=hB
 refine⟨⟨hz,fun k o _ hko ho=>?_⟩,hz,fun b hb=>?_⟩
 ·have hlt:=(Array.getElem?_eq_some_iff.1 hko).1
  have n1:k≠BL:=fun e=>by subst e;rw [show W.heap[k]?=_ from h.leg] at hko;cases hko;cases ho
  have n2:k≠BS:=fun e=>by subst e;rw [show W.heap[k]?=_ from h.sto] at hko;cases hko;cases ho
  have n3:k≠BE:=fun e=>by subst e;rw [show W.heap[k]?=_ from h.err] at hko;cases hko;cases ho
  exact (hk k hlt n1 n2 n3).trans hko
 ·rcases hb with hb | hb
  ·have:=hq b hb;exact hk b this.1 this.2.1 this.2.2.1 this.2.2.2
  ·exact hk b hb.2 (by omega) (by omega) (by omega)
theorem FarI.own (hB : FarB BL BS BE w w2) {B : Nat} (hBz : w2.heap.size ≤ B) (F : List (Value × List Int) → Int × List Int) (hds : ∀ D ∈ ds, D < B) (p : List (Value × List Int) → Prop) :
  OwnD chOwn B (fun s W=>p s∧∃ v,FarI BL BS BE w w2 (F s) ds v W∧∀ r,v.ownBlock=some r→r<B∨∃ x,x ∈ s∧x.1.ownBlock=some r):=by
 rintro s W X row ⟨hp,v,h,hv⟩ hg hr
 refine⟨hp,v,h.off hB hg fun r e=>?_,hv⟩
 obtain⟨o,ho,hc⟩:=hr r e
 have hge:B≤r:=by
  rcases hc with⟨_,hc⟩ | ⟨_,hc⟩
  ·have:=hc.1;omega
  ·exact hc
 refine⟨by omega,fun hD=>by have:=hds r hD;omega,?_⟩
 by_cases hl:(F s).2=[]
 ·exact .inl hl
 ·refine .inr fun ev=>?_
  rcases hv r ev with h1 | ⟨x,hx,h1⟩
  ·omega
  ·rcases hc with⟨_,hc⟩ | ⟨hc,_⟩
   ·exact hc.2 x hx h1
   ·obtain⟨_,a,cap,e1,hcells⟩:=h.val
    obtain⟨b,o',e2,hb,hcc⟩:=hcells.resolve_left hl
    have hbr:b=r:=by rw [e1,e2] at ev;simpa [Value.ownBlock] using ev
    have h0:0<(F s).2.length:=List.length_pos_iff.2 hl
    obtain⟨o2,ho2,hoc⟩:=cells_of_cell (hcc 0 h0)
    rw [show (⟨b,o'+0,none⟩:Addr).block=r from hbr,ho] at ho2
    cases ho2
    rw [hc] at hoc
    cases hoc
theorem FarI.leave {F:Fence} {n:Nat} {P:Program} {fn:Func} {tmps:Array Value} {R:Ending→World→Prop} (hB:FarB BL BS BE w w2):∀ (ds:List Nat) (W:World),FarI BL BS BE w w2 st ds v W→(∀ W',FarI BL BS BE w w2 st [] v W'→LeavesIn F n P fn tmps R [] .returning W') →
  LeavesInM F n P fn tmps R (ds.map fun D=>{ target:=.collected D,args:=#[] }) .returning W
 | [],W,h,hl=>hl W h
 | D :: ds, W, h, hl => by
  have m:=h.mar D (by simp)
  have nd:=List.nodup_cons.1 h.nod
  refine⟨by simp,.inl ⟨D,_,rfl,run_takeDeferred m.2,?_⟩⟩
  refine FarI.leave hB ds _ ?_ hl
  have h1:FarI BL BS BE w w2 st ds v W:=⟨h.leg,h.sto,h.err,h.val,h.low,h.kee,fun E hE=>h.mar E (by simp [hE]),nd.2,h.new⟩
  refine h1.off hB (grownBy_putObj' W D _) fun r e=>?_
  cases e
  refine⟨m.1,nd.1,?_⟩
  by_cases hl:st.2=[]
  ·exact .inl hl
  ·refine .inr fun ev=>?_
   obtain⟨_,a,cap,e1,hcells⟩:=h.val
   obtain⟨b,o',e2,hb,hcc⟩:=hcells.resolve_left hl
   have hbr:b=D:=by rw [e1,e2] at ev;simpa [Value.ownBlock] using ev
   have h0:0<st.2.length:=List.length_pos_iff.2 hl
   obtain⟨o2,ho2,hoc⟩:=cells_of_cell (hcc 0 h0)
   rw [show (⟨b,o'+0,none⟩:Addr).block=D from hbr,m.2] at ho2
   cases ho2
   cases hoc
end
end Go.Proofs.YtpimbaaahcemhaaGreat
namespace Go.Proofs.YtpimbaaahcemhaaGreat
section
variable (m:Msn) (R:List (List Pt)) (b d:Int)
end
section
variable {m:Msn} {R:List (List Pt)} {b d:Int}
def Fewer (R ls:List (List Pt)):Prop:=R.length≤ls.length∧∀ j,j<R.length→∃ i,i<ls.length∧rk R j=rk ls i
theorem Fewer.ok {ls:List (List Pt)} (h:Fewer R ls) (hv:rocksB ls=true):rocksB R=true:=by
 refine decide_eq_true fun j hj=>?_
 obtain⟨i,hi,e⟩:=h.2 j hj
 rw [e]
 exact of_decide_eq_true hv i hi
variable (hF:Fewer R m.rocks) (V:VMsn m)
include hF V
omit hF V in
end
end Go.Proofs.YtpimbaaahcemhaaGreat
namespace Go.Proofs.YtpimbaaahcemhaaGreat
open Go.RowKit
attribute [local irreducible] wpQuiet
theorem PtsAt.offG {W X : World} {v : Value} {l : List Pt} {row : Option Nat} (h : PtsAt W.heap.size W v l) (hg : W.grownBy X row) (hne : ∀ r, row = some r → l = [] ∨ v.ownBlock ≠ some r) : PtsAt X.heap.size X v l := by
 obtain⟨hl,a,cap,e,hc⟩:=h
 refine⟨hl,a,cap,e,?_⟩
 rcases hc with hc | ⟨b,o,e1,hb,hc⟩
 ·exact .inl hc
 ·by_cases hl0:l=[]
  ·exact .inl hl0
  ·refine .inr ⟨b,o,e1,Nat.lt_of_lt_of_le hb hg.size,fun j hj=>?_⟩
   have hbn:some b≠row:=fun er=>by
    rcases hne b er.symm with h | h
    ·exact hl0 h
    ·exact h (by rw [e,e1];rfl)
   obtain⟨c1,c2⟩:=hc j hj
   exact⟨(World.cell?_of_block (hg.block b hb hbn)).trans c1,(World.cell?_of_block (hg.block b hb hbn)).trans c2⟩
theorem PtsAt.own_lt {W:World} {n0:Nat} {v:Value} {l:List Pt} (h:PtsAt n0 W v l) {r:Nat} (hr:v.ownBlock=some r):l=[]∨r<n0:=by
 obtain⟨-,a,cap,e,hc⟩:=h
 rcases hc with hc | ⟨b,o,e1,hb,-⟩
 ·exact .inl hc
 ·right
  rw [e,e1] at hr
  simp only [Value.ownBlock,Option.some.injEq] at hr
  omega
theorem NewI.own {a:Nat} {v:Value} (h:NewI a v) {b o n c:Nat} (e:v=.slice (some ⟨b,o,none⟩) n c):a≤b:=h b o n c e
def PsR (W:World) (g:Nat→Psg) (k:Nat) (xs:List Value) (P:Nat→Prop):Prop :=
 xs.length=k*5∧∀ j,j<k→∃ u,xs[j*5]?=some u∧PtsAt W.heap.size W u (g j).cor∧((g j).cor=[]∨∀ r,u.ownBlock=some r→P r)∧xs[j*5+1]?=some (.int .i64 (g j).fr)∧xs[j*5+2]?=some (.int .i64 (g j).tw)∧xs[j*5+3]?=some (.int .i64 (g j).tm)∧xs[j*5+4]?=some (.int .i64 (g j).en)
section
variable {W X:World} {g:Nat→Psg} {k:Nat} {xs:List Value} {P Q:Nat→Prop}
theorem PsR.nil:PsR W g 0 [] P:=⟨rfl,fun j h=>by omega⟩
theorem PsR.snoc (h:PsR W g k xs P) {u:Value} (hu:PtsAt W.heap.size W u (g k).cor) (hP:(g k).cor=[]∨∀ r,u.ownBlock=some r→P r) :
  PsR W g (k+1) (xs++[u,.int .i64 (g k).fr,.int .i64 (g k).tw,.int .i64 (g k).tm,.int .i64 (g k).en]) P:=by
 obtain⟨hl,hc⟩:=h
 refine⟨by simp [hl];omega,fun j hj=>?_⟩
 by_cases e:j=k
 ·subst e
  have q:∀ i,(xs++[u,.int .i64 (g j).fr,.int .i64 (g j).tw,.int .i64 (g j).tm,.int .i64 (g j).en])[j*5+i]?=[u,.int .i64 (g j).fr,.int .i64 (g j).tw,.int .i64 (g j).tm,.int .i64 (g j).en][i]?:=fun i=>by
   rw [List.getElem?_append_right (by omega),hl,Nat.add_sub_cancel_left]
  exact⟨u,by have:=q 0;rw [Nat.add_zero] at this;exact this,hu,hP,q 1,q 2,q 3,q 4⟩
 ·obtain⟨u',c0,c⟩:=hc j (by omega)
  have q:∀ i,i<5→(xs++[u,.int .i64 (g k).fr,.int .i64 (g k).tw,.int .i64 (g k).tm,.int .i64 (g k).en])[j*5+i]?=xs[j*5+i]?:=fun i hi=>List.getElem?_append_left (by omega)
  refine⟨u',by have:=q 0 (by omega);rw [Nat.add_zero] at this;rw [this];exact c0,c.1,c.2.1,?_,?_,?_,?_⟩
  ·rw [q 1 (by omega)];exact c.2.2.1
  ·rw [q 2 (by omega)];exact c.2.2.2.1
  ·rw [q 3 (by omega)];exact c.2.2.2.2.1
  ·rw [q 4 (by omega)];exact c.2.2.2.2.2
theorem PsR.below (h:PsR W g k xs P) (B:Below W.heap.size W X):PsR X g k xs P:=by
 refine⟨h.1,fun j hj=>?_⟩
 obtain⟨u,c0,hu,c⟩:=h.2 j hj
 exact⟨u,c0,(hu.below B).mono B.size,c⟩
theorem PsR.app (h:PsR W g k xs P) {row:Option Nat} (hg:W.grownBy X row) (hr:∀ r,row=some r→¬ P r) (hQ:∀ r,r<W.heap.size→P r→Q r):PsR X g k xs Q:=by
 refine⟨h.1,fun j hj=>?_⟩
 obtain⟨u,c0,hu,hp,c⟩:=h.2 j hj
 refine⟨u,c0,hu.offG hg (fun r e=>?_),?_,c⟩
 ·rcases hp with hp | hp
  ·exact .inl hp
  ·exact .inr fun e2=>hr r e (hp r e2)
 ·rcases hp with hp | hp
  ·exact .inl hp
  ·by_cases hn:(g j).cor=[]
   ·exact .inl hn
   ·exact .inr fun r e=>hQ r ((hu.own_lt e).resolve_left hn) (hp r e)
theorem PsR.psgs (h:PsR W g k xs P) {base:Nat} {v:Value} (hr:W.ownsRow base 48 5 v k xs) (hl:k≤70368744177663):PsgsAt W.heap.size W v (upto g k):=by
 have hg:∀ j,j<k→pgd (upto g k) j=g j:=fun j hj=>by simp [pgd,upto,List.getD,hj]
 refine⟨by rw [upto_length];exact hl,?_⟩
 rw [upto_length]
 rcases hr.2 with⟨rfl,h0⟩ | ⟨gb,cap,cur,rfl,_,hb,hc,_⟩
 ·exact⟨none,0,by rw [h0],.inl (List.eq_nil_of_length_eq_zero (by rw [upto_length];exact h0))⟩
 ·refine⟨some ⟨gb,0,none⟩,cap - k,by rw [show k+(cap - k)=cap by omega],.inr ⟨gb,0,rfl,(Array.getElem?_eq_some_iff.1 hb).1,fun j hj=>?_⟩⟩
  rw [hg j hj]
  obtain⟨u,c0,hu,-,c1,c2,c3,c4⟩:=h.2 j hj
  have q:∀ i w,i<5→xs[j*5+i]?=some w→W.cell? ⟨gb,0+j*5+i,none⟩=some w:=fun i w hi e=>by
   rw [Nat.zero_add]
   exact (hr.cellAt (j*5+i) (by omega)).trans e
  exact⟨u,by have:=q 0 u (by omega) c0;rwa [Nat.add_zero] at this,hu,q 1 _ (by omega) c1,q 2 _ (by omega) c2,q 3 _ (by omega) c3,q 4 _ (by omega) c4⟩
end
structure MkS (bC:Nat) (Z X:World) (g:Nat→Psg) (v1 v2:Value) (n1 n2:Nat) (x1 x2:List Value) (kc:Nat) (xc:List Value):Prop where
 bel:Below bC Z X
 r1:X.ownsRow (bC+1) 48 5 v1 n1 x1
 r2:X.ownsRow (bC+1) 3 1 v2 n2 x2
 ne:v1.ownBlock=none∨v1.ownBlock≠v2.ownBlock
 cor:PsR X g kc xc (fun r=>bC<r∧some r≠v1.ownBlock∧some r≠v2.ownBlock)
section
variable {bC:Nat} {Z X Y:World} {g:Nat→Psg} {v1 v2 u:Value} {n1 n2 n' kc:Nat} {x1 x2 x' xc:List Value}
theorem MkS.ne2 (h:MkS bC Z X g v1 v2 n1 n2 x1 x2 kc xc):v2.ownBlock=none∨v2.ownBlock≠v1.ownBlock:=by
 rcases h.ne with h | h
 ·rw [h]
  cases v2.ownBlock <;> simp
 ·exact .inr (Ne.symm h)
theorem MkS.up (h:MkS bC Z X g v1 v2 n1 n2 x1 x2 kc xc) (B:Below X.heap.size X Y) (hb:bC≤X.heap.size):MkS bC Z Y g v1 v2 n1 n2 x1 x2 kc xc:=by
 have hg:X.grownBy Y none:=⟨B.os,B.tape,B.output,B.size,fun b hb _=>B.block b hb⟩
 exact⟨h.bel.trans (B.mono hb),h.r1.kept hg (by cases v1.ownBlock <;> simp),h.r2.kept hg (by cases v2.ownBlock <;> simp),h.ne,h.cor.below B⟩
theorem MkS.app1 (h:MkS bC Z X g v1 v2 n1 n2 x1 x2 kc xc) (hb:bC≤X.heap.size) (hg:X.grownBy Y v1.ownBlock) (hr:Y.ownsRow (bC+1) 48 5 u n' x') (ho:u.ownBlock=v1.ownBlock∨u.ownBlock=some X.heap.size):MkS bC Z Y g u v2 n' n2 x' x2 kc xc:=by
 refine⟨h.bel.trans ((Below.refl bC X).grown hg hb (fun j e=>by have:=(h.r1.lt j e).1;omega)),hr,h.r2.kept hg h.ne2,?_,h.cor.app hg (fun r e hp=>hp.2.1 e.symm) (fun r hlt hp=>⟨hp.1,?_,hp.2.2⟩)⟩
 ·rcases ho with ho | ho
  ·rw [ho];exact h.ne
  ·right
   rw [ho]
   intro e
   have:=(h.r2.lt _ e.symm).2
   omega
 ·rcases ho with ho | ho
  ·rw [ho];exact hp.2.1
  ·rw [ho]
   intro e
   have:r=X.heap.size:=by simpa using e
   omega
theorem MkS.app2 (h : MkS bC Z X g v1 v2 n1 n2 x1 x2 kc xc) (hb : bC ≤ X.heap.size) (hg : X.grownBy Y v2.ownBlock) (hr : Y.ownsRow (bC + 1) 3 1 u n' x') (ho : u.ownBlock = v2.ownBlock ∨ u.ownBlock = some X.heap.size) : MkS bC Z Y g v1 u n1 n' x1 x' kc xc := by
 refine⟨h.bel.trans ((Below.refl bC X).grown hg hb (fun j e=>by have:=(h.r2.lt j e).1;omega)),h.r1.kept hg h.ne,hr,?_,h.cor.app hg (fun r e hp=>hp.2.2 e.symm) (fun r hlt hp=>⟨hp.1,hp.2.1,?_⟩)⟩
 ·rcases ho with ho | ho
  ·rw [ho];exact h.ne
  ·by_cases hn:v1.ownBlock=none
   ·exact .inl hn
   ·right
    rw [ho]
    intro e
    have:=(h.r1.lt _ e).2
    omega
 ·rcases ho with ho | ho
  ·rw [ho];exact hp.2.2
  ·rw [ho]
   intro e
   have:r=X.heap.size:=by simpa using e
   omega
theorem MkS.set (h:MkS bC Z X g v1 v2 n1 n2 x1 x2 kc xc) (i:Nat) (w:Value):MkS bC Z (X.setCell ⟨bC,i,none⟩ w) g v1 v2 n1 n2 x1 x2 kc xc:=by
 have hg:X.grownBy (X.setCell ⟨bC,i,none⟩ w) (some bC):=⟨rfl,rfl,rfl,by simp [World.setCell],fun k _ hk=>Below.heap_setCell _ _ _ k (fun e=>hk (by rw [e]))⟩
 refine⟨h.bel.setCell (p:=⟨bC,i,none⟩) (Nat.le_refl _) w,h.r1.kept hg (.inr fun e=>?_),h.r2.kept hg (.inr fun e=>?_),h.ne,h.cor.app hg (fun r e hp=>?_) (fun r _ hp=>hp)⟩
 ·have:=(h.r1.lt _ e).1;omega
 ·have:=(h.r2.lt _ e).1;omega
 ·cases e;exact Nat.lt_irrefl _ hp.1
theorem MkS.fin (h:MkS bC Z X g v1 v2 n1 n2 x1 x2 n1 x1) {b:Nat} (hb:b≤bC) (hg:X.grownBy Y (some b)) (hn:n1≤70368744177663):PsgsAt Y.heap.size Y v1 (upto g n1)∧Y.ownsRow (bC+1) 3 1 v2 n2 x2:=by
 have q1:Y.ownsRow (bC+1) 48 5 v1 n1 x1:=h.r1.kept hg (.inr fun e=>by have:=(h.r1.lt _ e).1;omega)
 have q2:Y.ownsRow (bC+1) 3 1 v2 n2 x2:=h.r2.kept hg (.inr fun e=>by have:=(h.r2.lt _ e).1;omega)
 have q3:=h.cor.app (Q:=fun _=>True) hg (fun r e hp=>by cases e;omega) (fun _ _ _=>trivial)
 exact⟨q3.psgs q1 hn,q2⟩
theorem newI_off {s n0:Nat} {W:World} {v:Value} {l:List Pt} (hN:NewI s v) (h:PtsAt n0 W v l) {r:Nat} (hr:v.ownBlock=some r):l=[]∨s≤r:=by
 obtain⟨-,a,cap,e,hc⟩:=h
 rcases hc with hc | ⟨b,o,e1,hb,-⟩
 ·exact .inl hc
 ·right
  have:=hN b o _ _ (by rw [e,e1])
  rw [e,e1] at hr
  simp only [Value.ownBlock,Option.some.injEq] at hr
  omega
theorem MkS.fresh (h:MkS bC Z X g v1 v2 n1 n2 x1 x2 kc xc) (hb:bC<X.heap.size) {s n0:Nat} {W:World} {l:List Pt} (hN:NewI s u) (hs:X.heap.size≤s) (hu:PtsAt n0 W u l):l=[]∨∀ r,u.ownBlock=some r→bC<r∧some r≠v1.ownBlock∧some r≠v2.ownBlock:=by
 by_cases hl:l=[]
 ·exact .inl hl
 ·refine .inr fun r hr=>?_
  have h1:=(newI_off hN hu hr).resolve_left hl
  refine⟨by omega,fun e=>?_,fun e=>?_⟩
  ·have:=(h.r1.lt _ e.symm).2;omega
  ·have:=(h.r2.lt _ e.symm).2;omega
theorem MkS.one (h:MkS bC Z X g v1 v2 n1 n2 x1 x2 kc xc) (hu:PtsAt X.heap.size X u (g kc).cor) (hP:(g kc).cor=[]∨∀ r,u.ownBlock=some r→bC<r∧some r≠v1.ownBlock∧some r≠v2.ownBlock) :
  MkS bC Z X g v1 v2 n1 n2 x1 x2 (kc+1) (xc++[u,.int .i64 (g kc).fr,.int .i64 (g kc).tw,.int .i64 (g kc).tm,.int .i64 (g kc).en]):=⟨h.bel,h.r1,h.r2,h.ne,h.cor.snoc hu hP⟩
def MkH (X:World) (v1 v2:Value) (B:Nat) (cs:Array Value) (T:TypeId):Prop:=Has X B cs T∧some B≠v1.ownBlock∧some B≠v2.ownBlock
variable {B:Nat} {cs:Array Value} {T:TypeId}
theorem MkH.app1 (h:MkH X v1 v2 B cs T) (hg:X.grownBy Y v1.ownBlock) (ho:u.ownBlock=v1.ownBlock∨u.ownBlock=some X.heap.size):MkH Y u v2 B cs T:=by
 have hlt:=h.1.lt
 refine⟨(hg.block B hlt (by exact h.2.1)).trans h.1,?_,h.2.2⟩
 rcases ho with ho | ho
 ·rw [ho];exact h.2.1
 ·rw [ho];intro e;have:B=X.heap.size:=by simpa using e
  omega
theorem MkH.app2 (h:MkH X v1 v2 B cs T) (hg:X.grownBy Y v2.ownBlock) (ho:u.ownBlock=v2.ownBlock∨u.ownBlock=some X.heap.size):MkH Y v1 u B cs T:=by
 have hlt:=h.1.lt
 refine⟨(hg.block B hlt (by exact h.2.2)).trans h.1,h.2.1,?_⟩
 rcases ho with ho | ho
 ·rw [ho];exact h.2.2
 ·rw [ho];intro e;have:B=X.heap.size:=by simpa using e
  omega
theorem MkH.up (h:MkH X v1 v2 B cs T) (hB:Below X.heap.size X Y):MkH Y v1 v2 B cs T:=⟨h.1.below hB h.1.lt,h.2⟩
theorem MkS.free (h:MkS bC Z X g v1 v2 n1 n2 x1 x2 kc xc) (hH:Has Y B cs T) (hB:B≤bC∨X.heap.size≤B):MkH Y v1 v2 B cs T:=by
 refine⟨hH,fun e=>?_,fun e=>?_⟩
 ·have:=h.r1.lt _ e.symm;omega
 ·have:=h.r2.lt _ e.symm;omega
end
theorem row_sl {W:World} {b:Nat} {t:TypeId} {s n:Nat} {v:Value} {xs:List Value} (h:W.ownsRow b t s v n xs):∃ a c,v=.slice a n c:=by
 rcases h.2 with⟨e,e0⟩ | ⟨g,cap,cur,e,-⟩
 ·exact⟨none,0,by rw [e,e0]⟩
 ·exact⟨_,_,e⟩
theorem has_adds {X:World} {B:Nat} {l:List Value} {T:TypeId} (h:Has X B l.toArray T):∀ j u,l[j]?=some u→X.cell? ((⟨B,0,none⟩:Addr).add j)=some u:=fun j u hu=>by
 rw [show (⟨B,0,none⟩:Addr).add j=⟨B,j,none⟩ by simp [Addr.add];try exact fun h=>h.symm]
 exact h.cell (by simpa using hu)
set_option maxRecDepth 8000 in
theorem cloneInts_any (v : Value) (l : List Int) (w : World) (hp : IntsAt w.heap.size w v l) (hl : l.length ≤ 1000000) :
  Calls Tryz.prog 30 #[v] w fun e w'=>∃ v',e=.returned v'∧IntsAt w'.heap.size w' v' l∧Below w.heap.size w w'∧NewI w.heap.size v':=by
 obtain⟨hl0,a,cap,rfl,hc⟩:=hp
 have q22:∀ (w:World) (a:Option Addr) (n c n' c':Nat),(binOp .eql 27 (.slice a n c) (.slice none n' c')).run Tryz.prog w=.ok (.bool a.isNone) w:=fun w a n c n' c'=>Lib.run_eql_slice_nil w _ _ a n c n' c' Tryz.underlying27
 cases a with
 | none =>
  obtain rfl:l=[]:=by
   rcases hc with h | ⟨b,o,h,-⟩
   ·exact h
   ·cases h
  go_enter Tryz.func30,Tryz.ntmps30
  go_wp2
  go_ret
  exact⟨_,rfl,IntsAt.nil _ _,Below.refl _ _,NewI.nil _⟩
 | some ad =>
  have hcell:∀ j u,(l.map (Value.int .i64))[j]?=some u→(w.alloc (.cells #[] 3)).cell? (ad.add j)=some u:=fun j u hu=>by
   rcases hc with rfl | ⟨b,o,h,hb,hc⟩
   ·simp at hu
   ·cases h
    have hj:j<l.length:=by have:=(List.getElem?_eq_some_iff.1 hu).1;simpa using this
    have e:u=.int .i64 (l.getD j 0):=by
     rw [List.getElem?_map,List.getElem?_eq_getElem hj] at hu
     simp only [Option.map_some,Option.some.injEq] at hu
     rw [← hu,List.getD,List.getElem?_eq_getElem hj];rfl
    rw [e,show (⟨b,o,none⟩:Addr).add j=⟨b,o+j,none⟩ by first | rfl | simp [Addr.add]]
    exact (((Below.refl w.heap.size w).alloc (Nat.le_refl _) (.cells #[] 3)).cell (p:=⟨b,o+j,none⟩) hb).trans (hc j hj)
  have HCE:=Lib.hid hcell
  obtain⟨i0,hi0,hz0',hz1',hz2'⟩:=info_parts intInfo
  have HI:=Lib.hid hi0
  have hA:=Lib.hid ((Below.refl w.heap.size w).alloc (Nat.le_refl _) (.cells #[] 3))
  have hr:=Lib.hid (World.ownsRow_lit (base:=w.heap.size) (e:=3) (size:=1) w #[] 0 (Nat.le_refl _) (by unfold maxLen;omega) (by simp))
  clear hcell hi0 hc
  go_enter Tryz.func30,Tryz.ntmps30
  go_wp2_with (at_builtin;refine wpList_append_own _ rfl _ _ 27 rfl w.heap.size 3 i0 (.int .i64 0) 1 8 Tryz.underlying27 HI.out hz0' hz1' hz2' rfl (by decide) _ _ _ rfl hr.out ad l.length (l.length+cap) (l.map (Value.int .i64)) rfl (by simp) HCE.out (by intro x hx;obtain⟨y,-,rfl⟩:=List.mem_map.1 hx;rfl) (by unfold maxLen;omega) (by omega) (by simp) ?_;intro v' w2 r2 g2 _)
  rw [Nat.zero_add,List.nil_append] at r2
  have B2:=hA.out.trans (app_below hr.out g2 (Nat.le_refl _) hA.out.size)
  have P2:=IntsAt.own r2 (by omega)
  have N2:NewI w.heap.size v':=fun b o n c e=>(r2.lt b (by rw [e];rfl)).1
  go_ret
  exact⟨_,rfl,P2,B2,N2⟩
end Go.Proofs.YtpimbaaahcemhaaGreat
namespace Go.Proofs.YtpimbaaahcemhaaGreat
open Go.RowKit
attribute [local irreducible] wpQuiet
instance (l:List Pt) (s t:Pt):Decidable (Nx l s t):=by unfold Nx;infer_instance
def hullB (l h:List Pt):Bool:=decide (l≠[]∧1≤h.length∧(nth h 0 ∈ l∧∀ x,x ∈ l→¬ LexLt x (nth h 0))∧(∀ i,i<h.length→Nx l (nth h i) (nth h ((i+1) % h.length)))∧(∀ i,i<h.length→0<i→nth h i≠nth h 0))
theorem hullB_of {l h:List Pt} (k:hullB l h=true):hullP l=h:=by
 simp only [hullB,decide_eq_true_eq] at k
 obtain⟨h1,h2,h3,h4,h5⟩:=k
 exact (hullP_eq ⟨fun e=>absurd e h1,fun _=>h2,fun _=>h3,h4,fun i h0 hi=>h5 i hi h0⟩).symm
theorem rdist_of {ax ay bx by' n : Int} (h0 : 0 ≤ n) (h : (ax - bx) * (ax - bx) + (ay - by') * (ay - by') ≤ n * n) (h2 : (n - 1) * (n - 1) < (ax - bx) * (ax - bx) + (ay - by') * (ay - by')) : distV ax ay bx by' = n := by
 unfold distV
 generalize (ax - bx)*(ax - bx)+(ay - by')*(ay - by')=s at *
 have hs:=rootUp_spec (s:=s) (by
  have:0≤(n - 1)*(n - 1):=by
   rcases Int.le_total 0 (n - 1) with h | h
   ·exact Int.mul_nonneg h h
   ·have:=Int.mul_nonneg (show 0≤-(n - 1) by omega) (show 0≤-(n - 1) by omega)
    rwa [Int.neg_mul_neg] at this
  omega)
 have h1:=hs.2.2 n h0 h
 rcases Int.lt_or_le (rootUp s) n with h3 | h3
 ·have h4:=Int.mul_le_mul (show rootUp s≤n - 1 by omega) (show rootUp s≤n - 1 by omega) hs.1 (by omega)
  have:=hs.2.1
  omega
 ·omega
end Go.Proofs.YtpimbaaahcemhaaGreat
namespace Go.Proofs.YtpimbaaahcemhaaGreat
set_option maxRecDepth 100000 in
theorem disk_10:diskP 10=[⟨-10,-5⟩,⟨-5,-10⟩,⟨5,-10⟩,⟨10,-5⟩,⟨10,5⟩,⟨5,10⟩,⟨-5,10⟩,⟨-10,5⟩]:=hullB_of (by decide +kernel)
end Go.Proofs.YtpimbaaahcemhaaGreat
namespace Go.Proofs.YtpimbaaahcemhaaGreat
open Go.RowKit
attribute [local irreducible] wpQuiet
noncomputable def cvB (c:Crt) (i:Int) (r:List (List Pt)):Bool:=if 0≤i∧i<c.psg.length then rwB r (pgd c.psg i.toNat).cor else false
noncomputable def cvE (c:Crt) (i:Int) (r:List (List Pt)):Int:=if 0≤i∧i<c.psg.length then rwE r (pgd c.psg i.toNat).cor else 1
set_option linter.unusedSimpArgs false in
set_option linter.unusedVariables false in
set_option maxRecDepth 8000 in
set_option maxHeartbeats 3200000 in
theorem covers_any (c:Crt) (vs vp ve vr:Value) (i:Int) (r:List (List Pt)) (w:World) (hc:CrtAt w.heap.size w c vs vp ve) (hr:RocksAt w.heap.size w vr r) :
  Calls Tryz.prog 15 #[.agg #[vs,vp,ve],.int .i64 i,vr] w fun e w'=>e=.returned (.tuple #[.bool (cvB c i r),.int .i64 (cvE c i r)])∧Below w.heap.size w w':=by
 have f1:=fun vq q w1 (B:Below w.heap.size w w1) h=>gwithin_any vr r vq q w1 ((hr.below B).mono B.size) h
 have H1:cvB c i r=if 0≤i∧i<c.psg.length then rwB r (pgd c.psg i.toNat).cor else false:=rfl
 have H2:cvE c i r=if 0≤i∧i<c.psg.length then rwE r (pgd c.psg i.toNat).cor else 1:=rfl
 generalize cvB c i r=x at *
 generalize cvE c i r=y at *
 obtain⟨⟨-,aS,cS,rfl,-⟩,⟨-,ap,cp,rfl,hcp⟩,⟨-,ar,cr,rfl,-⟩⟩:=hc
 obtain⟨-,a4,c4,rfl,-⟩:=hr
 replace f1:=Lib.hid f1
 have BW:=Lib.hid (Below.refl w.heap.size w)
 by_cases h1:i<0
 ·have d1:decide (i<0)=true:=by rw [decide_eq_true_eq];exact h1
  have HV:=Lib.hid (And.intro (show x=false by rw [H1,if_neg (by omega)]) (show y=1 by rw [H2,if_neg (by omega)]))
  clear H1 H2 h1 hcp
  go_enter Tryz.func15,Tryz.ntmps15
  go_wp2
  go_ret2
  exact⟨by rw [HV.out.1,HV.out.2];rfl,by repeat (first | exact Below.refl _ _ | assumption | apply Below.drew | refine Below.setCell ?_ (by first | omega | (simp;done) | (simp;omega)) _ | refine Below.alloc ?_ (by first | omega | (simp;done) | (simp;omega)) _ | refine Below.call (by assumption) ?_ (by first | omega | (simp;done) | (simp;omega)))⟩
 have d1:decide (i<0)=false:=by rw [decide_eq_false_iff_not];exact h1
 by_cases h2:i<c.psg.length
 rotate_left
 ·have d2:decide (i≥(c.psg.length:Int))=true:=by rw [decide_eq_true_eq];omega
  have HV:=Lib.hid (And.intro (show x=false by rw [H1,if_neg (by omega)]) (show y=1 by rw [H2,if_neg (by omega)]))
  clear H1 H2 h1 h2 hcp
  go_enter Tryz.func15,Tryz.ntmps15
  go_wp2_with fail
  have e1:(w.alloc (.cells #[.slice aS c.stops.length (c.stops.length+cS),.slice ap c.psg.length (c.psg.length+cp),.slice ar c.ret.length (c.ret.length+cr)] 30)).cell? ⟨w.heap.size,1,none⟩=some (.slice ap c.psg.length (c.psg.length+cp)):=(Has.new w #[.slice aS c.stops.length (c.stops.length+cS),.slice ap c.psg.length (c.psg.length+cp),.slice ar c.ret.length (c.ret.length+cr)] 30).cell (i:=1) rfl
  go_wp2
  go_ret2
  exact⟨by rw [HV.out.1,HV.out.2];rfl,by repeat (first | exact Below.refl _ _ | assumption | apply Below.drew | refine Below.setCell ?_ (by first | omega | (simp;done) | (simp;omega)) _ | refine Below.alloc ?_ (by first | omega | (simp;done) | (simp;omega)) _ | refine Below.call (by assumption) ?_ (by first | omega | (simp;done) | (simp;omega)))⟩
 have d2:decide (i≥(c.psg.length:Int))=false:=by rw [decide_eq_false_iff_not];omega
 obtain⟨k,rfl⟩:∃ k:Nat,i=k:=⟨i.toNat,by omega⟩
 have hk:k<c.psg.length:=by omega
 have HV:=Lib.hid (And.intro (show x=rwB r (pgd c.psg k).cor by rw [H1,if_pos ⟨by omega,h2⟩,Int.toNat_natCast]) (show y=rwE r (pgd c.psg k).cor by rw [H2,if_pos ⟨by omega,h2⟩,Int.toNat_natCast]))
 obtain⟨b,o,rfl,hb,hcp⟩:=hcp.resolve_left (by intro h;rw [h] at hk;simp at hk)
 obtain⟨u,x0,hu,-⟩:=hcp k hk
 obtain⟨au,cu,rfl⟩:=hu.len
 have f2:=Lib.hid (fun w1 B=>f1.out _ _ w1 B ((hu.below B).mono B.size))
 generalize rwB r (pgd c.psg k).cor=x' at *
 generalize rwE r (pgd c.psg k).cor=y' at *
 generalize (pgd c.psg k).cor=cl at *
 have k0:(0:Int)≤(k:Int):=by omega
 clear hcp hu H1 H2 f1 h1
 go_enter Tryz.func15,Tryz.ntmps15
 go_upto_region 1 with fail
 generalize hXX0:World.alloc w _=X0
 obtain⟨q0,hA,hzX0⟩:=box1 hXX0
 clear hXX0
 have BW:=Lib.hid hA
 clear hA
 have CB:=Lib.hid q0
 clear q0
 clear hzX0
 have e1:=CB.out.cell (i:=1) rfl
 replace x0:=(BW.out.cell (p:=⟨b,o+k*5,none⟩) hb).trans x0
 go_wp2_with fail
 refine (f2.out _ BW.out).mono ?_
 rintro e w1 ⟨rfl,b1⟩
 replace BW:=Lib.hid (BW.out.trans (b1.mono BW.out.size))
 have B_X0:=Lib.hid b1
 clear b1
 clear x0 e1
 go_wp2
 go_ret2
 exact⟨by rw [HV.out.1,HV.out.2];rfl,BW.out⟩
set_option linter.unusedSimpArgs false in
set_option linter.unusedVariables false in
set_option maxRecDepth 8000 in
set_option maxHeartbeats 3200000 in
theorem csame_any (c:Crt) (vs vp ve us up ue:Value) (w:World) (hc:CrtAt w.heap.size w c vs vp ve) (hd:CrtAt w.heap.size w c us up ue) :
  Calls Tryz.prog 12 #[.agg #[vs,vp,ve],.agg #[us,up,ue]] w fun e w'=>e=.returned (.bool true)∧Below w.heap.size w w':=by
 have f1:=fun w1 (B:Below w.heap.size w w1)=>same32_any vs us c.stops c.stops w1 ((hc.1.below B).mono B.size) ((hd.1.below B).mono B.size)
 have f2:=fun w1 (B:Below w.heap.size w w1)=>same32_any ve ue c.ret c.ret w1 ((hc.2.2.below B).mono B.size) ((hd.2.2.below B).mono B.size)
 have f3:=fun vx vy (p:List Pt) w1 hx hy=>samepts_any vx vy p p w1 hx hy
 rw [decide_eq_true rfl] at f1 f2
 simp only [decide_true] at f3
 obtain⟨⟨-,aS,cS,rfl,-⟩,⟨hpl,ap,cp,rfl,hcp⟩,⟨-,ar,cr,rfl,-⟩⟩:=hc
 obtain⟨⟨-,aS',cS',rfl,-⟩,⟨-,ap',cp',rfl,hdp⟩,⟨-,ar',cr',rfl,-⟩⟩:=hd
 have HCP:=Lib.hid hcp
 have HDP:=Lib.hid hdp
 replace f1:=Lib.hid f1
 replace f2:=Lib.hid f2
 replace f3:=Lib.hid f3
 clear hcp hdp
 obtain⟨n,hn⟩:∃ n,c.psg.length=n:=⟨_,rfl⟩
 have HN:=Lib.hid hn
 have hnb:n≤70368744177663:=by rw [← hn];exact hpl
 rw [hn]
 clear hn hpl
 have BW:=Lib.hid (Below.refl w.heap.size w)
 have dn:((n:Int) == (n:Int))=true:=by simp
 go_enter Tryz.func12,Tryz.ntmps12
 go_wp2_with fail
 generalize hXX0:World.alloc (World.alloc w _) _=X0
 obtain⟨q0,q1,hA,hzX0⟩:=box2 hXX0
 clear hXX0
 have BW:=Lib.hid hA
 clear hA
 have CB:=Lib.hid q0
 clear q0
 have DB:=Lib.hid q1
 clear q1
 clear hzX0
 have hc:=CB.out
 have c0:=hc.cell (i:=0) rfl
 have c1:=hc.cell (i:=1) rfl
 have c2:=hc.cell (i:=2) rfl
 have hd:=DB.out
 have d0:=hd.cell (i:=0) rfl
 have d1:=hd.cell (i:=1) rfl
 have d2:=hd.cell (i:=2) rfl
 refine (f1.out _ BW.out).mono ?_
 rintro e w1 ⟨rfl,b1⟩
 replace BW:=Lib.hid (BW.out.trans (b1.mono BW.out.size))
 have B_X0:=Lib.hid b1
 clear b1
 clear hc c0 c1 c2 hd d0 d1 d2
 have hc:=(CB.out.below B_X0.out CB.out.lt)
 have c0:=hc.cell (i:=0) rfl
 have c1:=hc.cell (i:=1) rfl
 have c2:=hc.cell (i:=2) rfl
 have hd:=(DB.out.below B_X0.out DB.out.lt)
 have d0:=hd.cell (i:=0) rfl
 have d1:=hd.cell (i:=1) rfl
 have d2:=hd.cell (i:=2) rfl
 go_wp2_with fail
 refine (f2.out _ BW.out).mono ?_
 rintro e w2 ⟨rfl,b2⟩
 replace BW:=Lib.hid (BW.out.trans (b2.mono BW.out.size))
 replace B_X0:=Lib.hid (B_X0.out.trans (b2.mono B_X0.out.size))
 clear b2
 clear hc c0 c1 c2 hd d0 d1 d2
 have hc:=(CB.out.below B_X0.out CB.out.lt)
 have c0:=hc.cell (i:=0) rfl
 have c1:=hc.cell (i:=1) rfl
 have c2:=hc.cell (i:=2) rfl
 have hd:=(DB.out.below B_X0.out DB.out.lt)
 have d0:=hd.cell (i:=0) rfl
 have d1:=hd.cell (i:=1) rfl
 have d2:=hd.cell (i:=2) rfl
 go_wp2
 have hCB:=Lib.hid (CB.out.below B_X0.out CB.out.lt)
 have hDB:=Lib.hid (DB.out.below B_X0.out DB.out.lt)
 clear hc c0 c1 c2 hd d0 d1 d2
 go_loopw [5] (fun i wr=>∃ k:Nat,k≤n∧i=.int .i64 k∧Below w2.heap.size w2 wr) (fun i _=>n - (intOf i).toNat)
 case atStart=>exact⟨0,Nat.zero_le _,rfl,Below.refl _ _⟩
 case round =>
  obtain⟨k,hk,rfl,hB⟩:=hrel
  obtain⟨wo,hwo⟩:∃ x,x=wr:=⟨_,rfl⟩
  subst hwo
  have BB:=Lib.hid hB
  replace BW:=Lib.hid (BW.out.trans (hB.mono BW.out.size))
  clear hB
  have hCO:=Lib.hid (hCB.out.below BB.out hCB.out.lt)
  have hDO:=Lib.hid (hDB.out.below BB.out hDB.out.lt)
  have BR:=Lib.hid (Below.refl wo.heap.size wo)
  by_cases hlt:k<n
  ·obtain⟨b,o,rfl,hb,hc⟩:=HCP.out.resolve_left (by intro h;have:=HN.out;rw [h] at this;simp at this;omega)
   obtain⟨b',o',rfl,hb',hd⟩:=HDP.out.resolve_left (by intro h;have:=HN.out;rw [h] at this;simp at this;omega)
   obtain⟨u,x0,hu,x1,x2,x3,x4⟩:=hc k (by rw [HN.out];exact hlt)
   obtain⟨v,y0,hv,y1,y2,y3,y4⟩:=hd k (by rw [HN.out];exact hlt)
   generalize pgd c.psg k=p at *
   have HU:=Lib.hid ((hu.below BW.out).mono BW.out.size)
   have HV:=Lib.hid ((hv.below BW.out).mono BW.out.size)
   obtain⟨au,cu,rfl⟩:=HU.out.len
   obtain⟨av,cv,rfl⟩:=HV.out.len
   replace x0:=(BW.out.cell (p:=⟨b,o+k*5,none⟩) hb).trans x0
   have Y0:=Lib.hid ((BW.out.cell (p:=⟨b',o'+k*5,none⟩) hb').trans y0)
   replace x1:=(BW.out.cell (p:=⟨b,o+k*5+1,none⟩) hb).trans x1
   have Y1:=Lib.hid ((BW.out.cell (p:=⟨b',o'+k*5+1,none⟩) hb').trans y1)
   replace x2:=(BW.out.cell (p:=⟨b,o+k*5+2,none⟩) hb).trans x2
   have Y2:=Lib.hid ((BW.out.cell (p:=⟨b',o'+k*5+2,none⟩) hb').trans y2)
   replace x3:=(BW.out.cell (p:=⟨b,o+k*5+3,none⟩) hb).trans x3
   have Y3:=Lib.hid ((BW.out.cell (p:=⟨b',o'+k*5+3,none⟩) hb').trans y3)
   replace x4:=(BW.out.cell (p:=⟨b,o+k*5+4,none⟩) hb).trans x4
   have Y4:=Lib.hid ((BW.out.cell (p:=⟨b',o'+k*5+4,none⟩) hb').trans y4)
   have dk:decide ((k:Int)<(n:Int))=true:=by rw [decide_eq_true_eq];omega
   have kl:(k:Int)<(n:Int):=by omega
   have k0:(0:Int)≤(k:Int):=by omega
   have hbz:=Nat.lt_of_lt_of_le hb' BW.out.size
   clear hc hd hu hv y0 y1 y2 y3 y4
   have hc:=hCO.out
   have c0:=hc.cell (i:=0) rfl
   have c1:=hc.cell (i:=1) rfl
   have c2:=hc.cell (i:=2) rfl
   have hd:=hDO.out
   have d0:=hd.cell (i:=0) rfl
   have d1:=hd.cell (i:=1) rfl
   have d2:=hd.cell (i:=2) rfl
   go_upto_region 7 with fail
   generalize hXX6:World.alloc wo _=X6
   obtain⟨q0,hA,hzX6⟩:=box1 hXX6
   clear hXX6
   replace BW:=Lib.hid (BW.out.trans (hA.mono BW.out.size))
   have BR:=Lib.hid hA
   clear hA
   have PB:=Lib.hid q0
   clear q0
   clear hc c0 c1 c2 hd d0 d1 d2
   have hc:=(hCO.out.below BR.out hCO.out.lt)
   have c0:=hc.cell (i:=0) rfl
   have c1:=hc.cell (i:=1) rfl
   have c2:=hc.cell (i:=2) rfl
   have hd:=(hDO.out.below BR.out hDO.out.lt)
   have d0:=hd.cell (i:=0) rfl
   have d1:=hd.cell (i:=1) rfl
   have d2:=hd.cell (i:=2) rfl
   clear x0 x1 x2 x3 x4
   have y0:=(BR.out.cell (p:=⟨b',o'+k*5,none⟩) hbz).trans Y0.out
   have y1:=(BR.out.cell (p:=⟨b',o'+k*5+1,none⟩) hbz).trans Y1.out
   have y2:=(BR.out.cell (p:=⟨b',o'+k*5+2,none⟩) hbz).trans Y2.out
   have y3:=(BR.out.cell (p:=⟨b',o'+k*5+3,none⟩) hbz).trans Y3.out
   have y4:=(BR.out.cell (p:=⟨b',o'+k*5+4,none⟩) hbz).trans Y4.out
   go_upto_region 8 with fail
   generalize hXX7:World.alloc X6 _=X7
   obtain⟨q0,hA,hzX7⟩:=box1 hXX7
   clear hXX7
   replace BW:=Lib.hid (BW.out.trans (hA.mono BW.out.size))
   replace BR:=Lib.hid (BR.out.trans (hA.mono BR.out.size))
   have B_X6:=Lib.hid hA
   clear hA
   have QB:=Lib.hid q0
   clear q0
   clear y0 y1 y2 y3 y4
   replace QB:=QB.out
   rw [hzX6] at QB
   replace QB:=Lib.hid QB
   clear hc c0 c1 c2 hd d0 d1 d2
   have hp:=(PB.out.below B_X6.out PB.out.lt)
   have x0:=hp.cell (i:=0) rfl
   have x1:=hp.cell (i:=1) rfl
   have x2:=hp.cell (i:=2) rfl
   have x3:=hp.cell (i:=3) rfl
   have x4:=hp.cell (i:=4) rfl
   have hq:=QB.out
   have y0:=hq.cell (i:=0) rfl
   have y1:=hq.cell (i:=1) rfl
   have y2:=hq.cell (i:=2) rfl
   have y3:=hq.cell (i:=3) rfl
   have y4:=hq.cell (i:=4) rfl
   go_wp2_with fail
   refine (f3.out _ _ p.cor X7 ((HU.out.below BR.out).mono BR.out.size) ((HV.out.below BR.out).mono BR.out.size)).mono ?_
   rintro e w3 ⟨rfl,b3⟩
   replace BW:=Lib.hid (BW.out.trans (b3.mono BW.out.size))
   replace BR:=Lib.hid (BR.out.trans (b3.mono BR.out.size))
   replace B_X6:=Lib.hid (B_X6.out.trans (b3.mono B_X6.out.size))
   have B_X7:=Lib.hid b3
   clear b3
   clear hp x0 x1 x2 x3 x4 hq y0 y1 y2 y3 y4
   have hp:=(PB.out.below B_X6.out PB.out.lt)
   have x0:=hp.cell (i:=0) rfl
   have x1:=hp.cell (i:=1) rfl
   have x2:=hp.cell (i:=2) rfl
   have x3:=hp.cell (i:=3) rfl
   have x4:=hp.cell (i:=4) rfl
   have hq:=(QB.out.below B_X7.out QB.out.lt)
   have y0:=hq.cell (i:=0) rfl
   have y1:=hq.cell (i:=1) rfl
   have y2:=hq.cell (i:=2) rfl
   have y3:=hq.cell (i:=3) rfl
   have y4:=hq.cell (i:=4) rfl
   have e1:(p.fr == p.fr)=true:=by simp
   have e2:(p.tw == p.tw)=true:=by simp
   have e3:(p.tm == p.tm)=true:=by simp
   have e4:(p.en == p.en)=true:=by simp
   go_wp2
   go_roundw
   case rel=>exact⟨k+1,by omega,by go_num,BB.out.trans (BR.out.mono BB.out.size)⟩
   case measure=>simp [intOf];omega
  obtain rfl:k=n:=by omega
  have jj:decide ((k:Int)<(k:Int))=false:=by simp
  have hc:=hCO.out
  have c0:=hc.cell (i:=0) rfl
  have c1:=hc.cell (i:=1) rfl
  have c2:=hc.cell (i:=2) rfl
  have hd:=hDO.out
  have d0:=hd.cell (i:=0) rfl
  have d1:=hd.cell (i:=1) rfl
  have d2:=hd.cell (i:=2) rfl
  go_wp2
  go_ret
  exact⟨rfl,BW.out⟩
end Go.Proofs.YtpimbaaahcemhaaGreat
namespace Go.Proofs.YtpimbaaahcemhaaGreat
open Go.RowKit
attribute [local irreducible] wpQuiet
noncomputable def usB (m:Msn) (l:List Int):Bool:=fewB m && (decide (l.length≤40) && (validB m && stopsB m l))
set_option linter.unusedSimpArgs false in
set_option linter.unusedVariables false in
set_option maxRecDepth 8000 in
set_option maxHeartbeats 1600000 in
theorem usable36_any (m:Msn) (vw vh vr vl:Value) (l:List Int) (w:World) (hm:MsnAt w.heap.size w m vw vh vr) (hl:IntsAt w.heap.size w vl l) :
  Calls Tryz.prog 17 #[.agg (msnCells m vw vh vr),vl] w fun e w'=>e=.returned (.bool (usB m l))∧Below w.heap.size w w':=by
 have f1:=fun w1 (B:Below w.heap.size w w1)=>few_any m vw vh vr w1 ((hm.below B).mono B.size)
 have f2:=fun w1 (B:Below w.heap.size w w1)=>rValid31_any m vw vh vr w1 ((hm.below B).mono B.size)
 have f3:=fun w1 (B:Below w.heap.size w w1) (hV:validB m=true)=>rstops32_any m vw vh vr vl l w1 (fun k hk=>(wayB_true (waysB_at ((validB_iff m).1 hV).ways hk)).2.2.2.2.1) ((hm.1.below B).mono B.size) ((hl.below B).mono B.size)
 have HU:usB m l=(fewB m && (decide (l.length≤40) && (validB m && stopsB m l))):=rfl
 generalize usB m l=us at *
 generalize fewB m=b1 at *
 generalize validB m=b2 at *
 generalize stopsB m l=b3 at *
 obtain⟨⟨-,a1,cap1,rfl,-⟩,⟨-,a2,cap2,rfl,-⟩,⟨-,a3,cap3,rfl,-⟩⟩:=hm
 obtain⟨-,al,cl,rfl,-⟩:=hl
 unfold msnCells at *
 replace f1:=Lib.hid f1
 replace f2:=Lib.hid f2
 replace f3:=Lib.hid f3
 replace HU:=Lib.hid HU
 have BW:=Lib.hid (Below.refl w.heap.size w)
 go_enter Tryz.func17,Tryz.ntmps17
 go_wp2_with fail
 generalize hXX0:World.alloc w _=X0
 obtain⟨q0,hA,hzX0⟩:=box1 hXX0
 clear hXX0
 have BW:=Lib.hid hA
 clear hA
 have MB:=Lib.hid q0
 clear q0
 clear hzX0
 obtain⟨c0,c1,c2,c3,c4,c5,c6,c7,c8,c9,c10⟩:=msn_cells (m:=m) MB.out
 refine (f1.out _ BW.out).mono ?_
 rintro e w1 ⟨rfl,b1⟩
 replace BW:=Lib.hid (BW.out.trans (b1.mono BW.out.size))
 have B_X0:=Lib.hid b1
 clear b1
 clear c0 c1 c2 c3 c4 c5 c6 c7 c8 c9 c10
 obtain⟨c0,c1,c2,c3,c4,c5,c6,c7,c8,c9,c10⟩:=msn_cells (m:=m) (MB.out.below B_X0.out MB.out.lt)
 cases b1
 ·go_wp2
  go_ret
  exact⟨by rw [HU.out];rfl,BW.out⟩
 by_cases h40:l.length≤40
 rotate_left
 ·have d40:decide ((l.length:Int)≤40)=false:=by rw [decide_eq_false_iff_not];omega
  have HV:=Lib.hid (show us=false by rw [HU.out,decide_eq_false h40];rfl)
  clear h40
  go_wp2
  go_ret
  exact⟨by rw [HV.out];rfl,BW.out⟩
 have d40:decide ((l.length:Int)≤40)=true:=by rw [decide_eq_true_eq];omega
 replace HU:=Lib.hid (show us=(b2 && b3) by rw [HU.out,decide_eq_true h40];rfl)
 clear h40
 go_wp2_with fail
 refine (f2.out _ BW.out).mono ?_
 rintro e w2 ⟨rfl,b2⟩
 replace BW:=Lib.hid (BW.out.trans (b2.mono BW.out.size))
 replace B_X0:=Lib.hid (B_X0.out.trans (b2.mono B_X0.out.size))
 clear b2
 clear c0 c1 c2 c3 c4 c5 c6 c7 c8 c9 c10
 obtain⟨c0,c1,c2,c3,c4,c5,c6,c7,c8,c9,c10⟩:=msn_cells (m:=m) (MB.out.below B_X0.out MB.out.lt)
 cases b2
 ·go_wp2
  go_ret
  exact⟨by rw [HU.out];rfl,BW.out⟩
 go_wp2_with fail
 refine (f3.out _ BW.out (by first | trivial | rfl)).mono ?_
 rintro e w3 ⟨rfl,b3⟩
 replace BW:=Lib.hid (BW.out.trans (b3.mono BW.out.size))
 replace B_X0:=Lib.hid (B_X0.out.trans (b3.mono B_X0.out.size))
 clear b3
 clear c0 c1 c2 c3 c4 c5 c6 c7 c8 c9 c10
 obtain⟨c0,c1,c2,c3,c4,c5,c6,c7,c8,c9,c10⟩:=msn_cells (m:=m) (MB.out.below B_X0.out MB.out.lt)
 go_wp2
 go_ret
 exact⟨by rw [HU.out];rfl,BW.out⟩
end Go.Proofs.YtpimbaaahcemhaaGreat
namespace Go.Proofs.YtpimbaaahcemhaaGreat
open Go.RowKit
attribute [local irreducible] wpQuiet
theorem set11 {X Z:World} {B:Nat} {cs:Array Value} {T:TypeId} {v0 v1 v2 v3 v4 v5 v6 v7 v8 v9 v10:Value} (H:Has X B cs T) (hs:cs.size=11) (hz:(((((((((((X.setCell ⟨B,0,none⟩ v0).setCell ⟨B,1,none⟩ v1).setCell ⟨B,2,none⟩ v2).setCell ⟨B,3,none⟩ v3).setCell ⟨B,4,none⟩ v4).setCell ⟨B,5,none⟩ v5).setCell ⟨B,6,none⟩ v6).setCell ⟨B,7,none⟩ v7).setCell ⟨B,8,none⟩ v8).setCell ⟨B,9,none⟩ v9).setCell ⟨B,10,none⟩ v10)=Z) :
  Has Z B #[v0,v1,v2,v3,v4,v5,v6,v7,v8,v9,v10] T∧(∀ n,n≤B→Below n X Z)∧Z.heap.size=X.heap.size∧∀ b,b≠B→Z.heap[b]?=X.heap[b]?:=by
 subst hz
 obtain⟨l,rfl⟩:∃ l:List Value,cs=l.toArray:=⟨cs.toList,by simp⟩
 obtain⟨u0,u1,u2,u3,u4,u5,u6,u7,u8,u9,u10,rfl⟩:∃ u0 u1 u2 u3 u4 u5 u6 u7 u8 u9 u10,l=[u0,u1,u2,u3,u4,u5,u6,u7,u8,u9,u10]:=by
  match l,hs with
  | [u0,u1,u2,u3,u4,u5,u6,u7,u8,u9,u10],_=>exact⟨_,_,_,_,_,_,_,_,_,_,_,rfl⟩
 refine⟨?_,fun n hn=>?_,by simp,fun b hb=>?_⟩
 ·have:=(((((((((((H.set 0 v0).set 1 v1).set 2 v2).set 3 v3).set 4 v4).set 5 v5).set 6 v6).set 7 v7).set 8 v8).set 9 v9).set 10 v10)
  simpa only [List.setIfInBounds_toArray,List.set_cons_zero,List.set_cons_succ] using this
 ·exact ((((((((((((Below.refl n X).setCell (p:=⟨B,0,none⟩) hn v0).setCell (p:=⟨B,1,none⟩) hn v1).setCell (p:=⟨B,2,none⟩) hn v2).setCell (p:=⟨B,3,none⟩) hn v3).setCell (p:=⟨B,4,none⟩) hn v4).setCell (p:=⟨B,5,none⟩) hn v5).setCell (p:=⟨B,6,none⟩) hn v6).setCell (p:=⟨B,7,none⟩) hn v7).setCell (p:=⟨B,8,none⟩) hn v8).setCell (p:=⟨B,9,none⟩) hn v9).setCell (p:=⟨B,10,none⟩) hn v10)
 ·iterate 11 (rw [Below.heap_setCell _ _ _ _ (by exact hb)])
end Go.Proofs.YtpimbaaahcemhaaGreat
