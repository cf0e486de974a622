/- A region that draws its order, whose first operations only read and call quietly, and whose last ones come in one forced order: in a fence that let .. -/
import Derived.StillTail
import Derived.StillTactics
import Derived.OrdersIn
import Derived.TacticsIn
import Derived.TacticsInMore
import Derived.RangeFuncCalls
import Derived.Deep.Quiet
import Derived.BigQuiet
import Derived.RowKit3
open Go.Value renaming pointer->qP
open Go.RowKit.Below renaming refl->qK
open Go renaming undef->qD
namespace Go.Proofs.YthipcinibldgnaaGreat
section
open Go.RowKit
section
variable {F:Fence} {n:Nat} {P:Program} {ops:Array Oper} {w:World} {Q:Exit->Act->World->Prop}
structure Lets (F:Fence) (P:Program):Prop where
 fn:∀ f,F.fn f
 depth:F.depth=none
 call:∀ (m:Nat) (f:FuncId) (args:Array Value) (w:World) (R:Ending->World->Prop),Calls P f args w R->CallsIn F m P f args w R
theorem Zk (P:Program):Lets Fence.wide P:=⟨fun _=>trivial,rfl,fun _ _ _ _ _ h=>callsIn_wide.2 h⟩
theorem ZT (P:Program) (l:Nat):Lets (Fence.wide.inRound l) P:=⟨fun _=>trivial,rfl,fun _ _ _ _ _ h=>CallsIn.inRound l (callsIn_wide.2 h)⟩
def noDefer (ops:Array Oper):Bool:=ops.all fun o=>match o.op with | .defer _=>false | _=>true
theorem Z0y {o:Oper} (h:noDefer ops=true) {i:Nat} (hi:ops[i]?=some o):∀ c,o.op≠.defer c:=by
 intro c hc;obtain⟨a,b⟩:=Array.getElem?_eq_some_iff.1 hi;have:=(Array.all_eq_true.1 h) i a;rw [b,hc] at this;cases this
theorem Z4N (hL:Lets F P) {o:Oper} {a:Act} {K:Act->Prop} {K':Act->World->Prop} (hnd:∀ c,o.op≠.defer c) (h:∀ a,K a->K' a w) (hh:o.still P a w K):o.wpIn F n P a w K' Q:=by
 refine⟨fun f _=>hL.fn f,?_⟩
 rw [Oper.semAt_eq _ _ _ hnd];unfold Oper.still at hh;generalize (execOp a.eval o).run P w=r at *;cases r with
 | ok x w' =>
  cases x <;> simp only [Oper.stillUpon] at hh <;> simp only [Oper.uponIn]
  case enter f args =>
   obtain⟨rfl,v,b,d⟩:=hh;refine⟨fun hd=>(by rw [hL.depth] at hd;cases hd),hL.call _ _ _ _ _ (b.mono fun e w'' ⟨he,hw⟩=>?_)⟩
   subst he;subst hw;exact h _ d
  all_goals (obtain⟨rfl,g⟩:=hh;exact h _ g)
 | halt x w'=>simp only [Oper.stillUpon] at hh
theorem Z46 (hL:Lets F P) (hnd:noDefer ops=true) {i:Nat} {a:Act} {K:Act->Prop} {K':Act->World->Prop} (h:∀ a,K a->K' a w) (hh:stOp P ops w i K a):wpOpIn F n P ops Q i K' a w:=by
 unfold stOp at hh;unfold wpOpIn
 split
 ·rename_i ho;simp only [ho] at hh;exact h _ hh
 ·rename_i o ho
  simp only [ho] at hh
  split
  ·rename_i hw;simp only [hw,if_true] at hh;exact Z4N hL (Z0y hnd ho) h hh
  ·rename_i hw;rw [if_neg hw] at hh;exact⟨fun f _=>hL.fn f,h _ hh⟩
theorem Z1j (hL:Lets F P) (hnd:noDefer ops=true) {md:Region.Mode} {k g:Nat} {L:Array Bool->Act->Prop} (hLL:∀ listed a,L listed a->wpAnyIn F n P md ops Q g listed a w) :
  ∀ (f:Nat) (listed:Array Bool) (a:Act),wpAnyL P md ops w k L f listed a->wpAnyIn F n P md ops Q (f+g) listed a w
 | 0,listed,a,h=>by rw [Nat.zero_add];exact hLL _ _ h
 | f + 1, listed, a, h => by
  rw [show f+1+g=(f+g)+1 by omega]
  exact⟨fun h0=>absurd h0 h.1,fun i hi=>Z46 hL hnd (fun a' h'=>Z1j hL hnd hLL f _ a' h') (h.2 i hi).2⟩
theorem Z08 {md:Region.Mode}:∀ (l:List Oper) (k:Nat) (listed:Array Bool) (a:Act) (w:World),(∀ j,l[j]?=ops[k+j]?) ->
  Region.seqB md ops l.length k listed=true->wpListIn F n P ops Q l a w->wpAnyIn F n P md ops Q l.length listed a w
 | [],_,_,_,_,_,hB,h=>⟨by simpa [Region.seqB] using hB,h⟩
 | o :: l, k, listed, a, w, hl, hB, h => by
  have h0:ops[k]?=some o:=by simpa using (hl 0).symm
  simp only [List.length_cons,Region.seqB,Bool.and_eq_true,decide_eq_true_eq] at hB;refine⟨fun h1=>(by rw [hB.1] at h1;cases h1),fun i hi=>?_⟩
  rw [hB.1] at hi;have b:i=k:=by simpa using hi
  subst b;have c:wpOpIn F n P ops Q i (wpListIn F n P ops Q l) a w:=by unfold wpOpIn;simp only [h0];exact h
  exact wpOpIn_mono (fun a' w' h'=>Z08 l (i+1) _ a' w' (fun j=>by have:=hl (j+1);simpa [Nat.add_assoc,Nat.add_comm 1 j] using this) hB.2 h') c
theorem Z0n (hL:Lets F P) {id:Nat} {a:Act} {l:List Oper} (k:Nat) (hm:P.follows .mixedOrders=true) (hnd:noDefer l.toArray=true) (hB:Region.lexTailB .any l.toArray k=true)
  (h:wpStill P l.toArray w.drew (fun a'=>wpListIn F n P l.toArray Q (l.drop k) a' w.drew) (l.take k) a):(Code.region id l.toArray true).wpIn F n P Q a w:=by
 simp only [Region.lexTailB,Bool.and_eq_true,decide_eq_true_eq] at hB;obtain⟨⟨⟨⟨d,m⟩,hs⟩,p⟩,c⟩:=hB;have o:k<l.length:=by simpa using m
 have b:(l.take k).length=k:=by simp;omega
 have e:(l.drop k).length=l.toArray.size-k:=by simp
 have f:HeadInv .any l.toArray k (Array.replicate l.toArray.size false) :=
  ⟨by simp,fun j oj _ hl=>(by rw [getD_replicate_false] at hl;cases hl),fun t _ ht=>getD_in (by simpa using ht) (getD_replicate_false _ _)⟩
 have H:=wpAnyL_lex (md:=.any) (g:=l.toArray.size-k) d hs p m (l.take k) 0 _ a (fun j hj=>by
  have i:j<k:=by rw [b] at hj;exact hj
  simp [i]) (by simpa using b) f (by rw [b];exact c) h
 refine wpIn_region_any hm ?_;have:=Z1j (Q:=Q) (n:=n) hL hnd (g:=l.toArray.size-k) (fun listed a' hL'=>by
  have:=Z08 (md:=.any) (F:=F) (n:=n) (P:=P) (Q:=Q) (l.drop k) k listed a' w.drew (fun j=>by simp [List.getElem?_drop]) (by rw [e];exact hL'.1) hL'.2
  rwa [e] at this) _ _ _ H
 rw [b,show k+(l.toArray.size-k)=l.toArray.size by omega] at this
 exact this
end
def Low (w w':World):Prop:=Below w.heap.size w w'
theorem Low.out {w w':World} (h:Low w w'):Below w.heap.size w w':=h
theorem Low.cells {w w':World} (h:Low w w'):(∀ b o,b<w.heap.size->w'.cell? ⟨b,o,none⟩=w.cell? ⟨b,o,none⟩):=fun b o hb=>h.out.cell (p:=⟨b,o,none⟩) hb
theorem Low.cell {w w':World} (h:Low w w') {a:Addr} {v:Value} (hc:w.cell? a=some v):w'.cell? a=some v:=(h.out.cell (World.block_lt_of_cell? w _ hc)).trans hc
theorem Low.fact {w:World} {a:Addr} {v:Value} (hc:w.cell? a=some v):∀ w1,Low w w1->w1.cell? a=some v:=fun _ h=>h.cell hc
section
variable {F:Fence} {n:Nat} {P:Program} {ops:Array Oper} {w:World} {Q:Exit->Act->World->Prop}
theorem Low.calls {f:FuncId} {args:Array Value} {v:Value} {w':World} (hw:Low w w') (h:Calls P f args w' fun e w''=>e=.returned v/\Below w'.heap.size w' w''):Calls P f args w' fun e w''=>e=.returned v/\Low w w'' :=
 h.mono fun _ _ ⟨he,hb⟩=>⟨he,hw.trans (hb.mono hw.size)⟩
theorem Low.calls_same {f:FuncId} {args:Array Value} {v:Value} {w':World} (hw:Low w w') (h:Calls P f args w' fun e w''=>e=.returned v/\w'=w''):Calls P f args w' fun e w''=>e=.returned v/\Low w w'' :=
 h.mono fun _ _ ⟨he,hb⟩=>⟨he,by rw [<- hb];exact hw⟩
theorem Zf {C:World->Prop} {Q:Act->Prop} {a:Act} {o:Oper} {rest:List Oper} {v:Value} (hw:Region.wanted o (yielded ops a.tmps)=true) (hval:∀ w,C w->o.quietAt P a C w v) (h:wpQuiet P ops C Q rest (a.put o.dst v)):wpQuiet P ops C Q (o::rest) a :=
 wpQuiet_step fun K hK=>by rw [if_pos hw];exact⟨v,hval,hK _ h⟩
theorem Zr {C:World->Prop} {Q:Act->Prop} {a:Act} {o:Oper} {rest:List Oper} (hw:Region.wanted o (yielded ops a.tmps)=false) (h:wpQuiet P ops C Q rest (a.put o.dst qD)):wpQuiet P ops C Q (o::rest) a :=
 wpQuiet_step fun K hK=>by rw [if_neg (by rw [hw];simp)];exact hK _ h
theorem qw3 {w:World} {Q:Act->Prop} {a:Act} {o:Oper} {rest:List Oper} {v:Value} (hw:Region.wanted o (yielded ops a.tmps)=true) (hval:∀ w1,Low w w1->(∀ b o,b<w.heap.size->w1.cell? ⟨b,o,none⟩=w.cell? ⟨b,o,none⟩)->o.quietAt P a (Low w) w1 v) (h:wpQuiet P ops (Low w) Q rest (a.put o.dst v)):wpQuiet P ops (Low w) Q (o::rest) a :=
 Zf hw (fun w1 h1=>hval w1 h1 (Low.cells h1)) h
theorem Zg {id:Nat} {a:Act} {l:List Oper} (hm:P.follows .mixedOrders=true) (hB:Region.lexB .any l.toArray=true)
  (h:wpQuiet P l.toArray (Low w) (fun a'=>∀ w',Low w w'->Q .normal a' w') l a):(Code.region id l.toArray true).wp P Q a w :=
 wp_region_quiet (C:=Low w) hm hB (Below.drew (qK _ w)) (by simpa using h)
theorem Z4O (hL:Lets F P) {C:World->Prop} {o:Oper} {a:Act} {K:Act->Prop} {K':Act->World->Prop} (hnd:∀ c,o.op≠.defer c) (hw:C w) (h:∀ a w',C w'->K a->K' a w') (hh:o.quiet P a C K):o.wpIn F n P a w K' Q:=by
 obtain⟨v,k,i⟩:=hh;have b:=k w hw;refine⟨fun f _=>hL.fn f,?_⟩
 rw [Oper.semAt_eq _ _ _ hnd];unfold Oper.quietAt at b;generalize (execOp a.eval o).run P w=r at *;cases r with
 | ok x w' =>
  cases x <;> simp only [Oper.quietUpon] at b <;> simp only [Oper.uponIn]
  case value u =>
   obtain⟨d,g⟩:=b;rw [d,g];exact h _ _ hw i
  case skip =>
   obtain⟨d,g⟩:=b;rw [d,<- g];exact h _ _ hw i
  case enter f args =>
   obtain⟨d,j⟩:=b;rw [d];exact⟨fun hd=>(by rw [hL.depth] at hd;cases hd),hL.call _ _ _ _ _ (j.mono fun e w'' ⟨he,hw''⟩=>by subst he;exact h _ _ hw'' i)⟩
 | halt x w'=>simp only [Oper.quietUpon] at b
theorem Z1Z (hL:Lets F P) (hnd:noDefer ops=true) {C:World->Prop} {i:Nat} {a:Act} {K:Act->Prop} {K':Act->World->Prop} (hC:C w) (h:∀ a w',C w'->K a->K' a w') (hh:qOp P ops C i K a):wpOpIn F n P ops Q i K' a w:=by
 unfold qOp at hh;unfold wpOpIn
 split
 ·rename_i ho;simp only [ho] at hh;exact h _ _ hC hh
 ·rename_i o ho
  simp only [ho] at hh
  split
  ·rename_i hw;simp only [hw,if_true] at hh;exact Z4O hL (Z0y hnd ho) hC h hh
  ·rename_i hw;rw [if_neg hw] at hh;exact⟨fun f _=>hL.fn f,h _ _ hC hh⟩
theorem Z1h (hL:Lets F P) (hnd:noDefer ops=true) {md:Region.Mode} {C:World->Prop} {Q0:Act->Prop} (hQ:∀ a w,C w->Q0 a->Q .normal a w):∀ (fuel:Nat) (listed:Array Bool) (a:Act) (w:World),C w ->
  wpAnyQ P md ops C Q0 fuel listed a->wpAnyIn F n P md ops Q fuel listed a w
 | 0,_,_,_,hw,h=>⟨h.1,hQ _ _ hw h.2⟩
 | fuel+1,_,_,_,hw,h=>⟨fun h0=>hQ _ _ hw (h.1 h0),fun i hi=>Z1Z hL hnd hw (fun a' w' hw'=>Z1h hL hnd hQ fuel _ a' w' hw') (h.2 i hi)⟩
theorem Z03 (hL:Lets F P) {id:Nat} {a:Act} {l:List Oper} (hm:P.follows .mixedOrders=true) (hnd:noDefer l.toArray=true) (hB:Region.lexB .any l.toArray=true)
  (h:wpQuiet P l.toArray (Low w) (fun a'=>∀ w',Low w w'->Q .normal a' w') l a):(Code.region id l.toArray true).wpIn F n P Q a w:=by
 simp only [Region.lexB,Bool.and_eq_true] at hB;refine wpIn_region_any hm (Z1h hL hnd (Q0:=fun a'=>∀ w',Low w w'->Q .normal a' w') (fun _ w' hw' h=>h w' hw') _ _ _ _ (Below.drew (qK _ w)) ?_)
 have:=wpAnyQ_lex (C:=Low w) (md:=.any) hB.1 l 0 (Array.replicate l.toArray.size false) a (by simp) (by simpa using hB.2) h
 simpa using this
end
section
variable {F:Fence} {n:Nat} {P:Program} {md:Region.Mode} {ops:Array Oper} {w:World} {C:World->Prop} {Q:Exit->Act->World->Prop}
def headQ (P:Program) (md:Region.Mode) (ops:Array Oper) (C:World->Prop) (k:Nat) (L:Array Bool->Act->Prop):Nat->Array Bool->Act->Prop
 | 0,listed,a=>L listed a
 | f+1,listed,a=>Region.ready md ops listed≠[]/\∀ i ∈ Region.ready md ops listed,i<k/\qOp P ops C i (headQ P md ops C k L f (listed.setIfInBounds i true)) a
theorem Z6X {k i : Nat} {oi : Oper} {v : Value} {L : Array Bool -> Act -> Prop} (hi : ops[i]? = some oi) (hsel : ∀ (j : Nat) (o : Oper) cs b, ops[j]? = some o -> o.op ≠ .select cs b)
  (hs:Region.sinkB md ops k=true) (hc:Region.chainB md ops k=true) (hn:k<ops.size) (hin:i<k) (hdone:∀ listed a,L listed a->∀ j ∈ Region.ready md ops listed,k<=j) :
  ∀ (f : Nat) (listed : Array Bool) (a : Act), HeadInv md ops k listed ->
   (∀ j oj,ops[j]?=some oj->j≠i->listed.getD j true=false->(∀ e ∈ oj.after,Region.binds md e=true->e.on≠i)->oi.apart ops oj=true) ->
   i ∈ Region.ready md ops listed->YieldsIn P ops C oi v a->headQ P md ops C k L f (listed.setIfInBounds i true) (a.put oi.dst v)->headQ P md ops C k L (f+1) listed a:=by
 intro f
 induction f with
 | zero =>
  intro listed a inv _ hr hy H;have d:=(mem_ready.1 hr).1;refine⟨fun h=>(by rw [h] at hr;cases hr),fun j hj=>?_⟩
  have c:j<k:=by
   rcases Nat.lt_or_ge j k with h | h
   ·exact h
   ·exact absurd hj (tail_waits hs hc hn inv _ i rfl hin d j h)
  refine⟨c,?_⟩;by_cases hji:j=i
  ·subst hji;exact hy.qOp hi H
  ·have:=hdone _ _ H j (ready_mono hj hji)
   omega
 | succ f ih =>
  intro listed a inv hfree hr hy H;have d:=(mem_ready.1 hr).1;refine⟨fun h=>(by rw [h] at hr;cases hr),fun j hj=>?_⟩
  have c:j<k:=by
   rcases Nat.lt_or_ge j k with h | h
   ·exact h
   ·exact absurd hj (tail_waits hs hc hn inv _ i rfl hin d j h)
  refine⟨c,?_⟩;by_cases hji:j=i
  ·subst hji;exact hy.qOp hi H
  ·have q:=(H.2 j (ready_mono hj hji)).2
   obtain⟨g,oj,l,p⟩:=mem_ready.1 hj;have n:∀ e ∈ oj.after,Region.binds md e=true->e.on≠i:=fun e he hb heq=>by
    have q:=p e he hb;rw [heq,getD_both d] at q;cases q
   have r:=qOp_put l (hfree j oj l hji g n) (fun cs b=>hsel i oi cs b hi) (fun cs b=>hsel j oj cs b l) hy q
   refine qOp_mono (fun a' h3=>ih (listed.setIfInBounds j true) a' (inv.set hj c) ?_ (ready_mono hr (Ne.symm hji)) h3.1 ?_) r
   ·intro m om hm hmi hmun hno
    refine hfree m om hm hmi ?_ hno;by_cases hjm:j=m
    ·subst hjm;exact g
    ·rw [getD_set_ne true hjm] at hmun;exact hmun
   ·rw [Array.setIfInBounds_comm _ _ hji]
    exact h3.2
theorem Z67 {k g:Nat} {K:Act->Prop} (hsel:Region.noSelect ops=true) (hs:Region.sinkB md ops k=true) (hc:Region.chainB md ops k=true) (hn:k<ops.size) :
  ∀ (l:List Oper) (m:Nat) (listed:Array Bool) (a:Act),(∀ j,j<l.length->l[j]?=ops[m+j]?)->m+l.length=k->HeadInv md ops k listed ->
  Region.lexHead md ops g l.length m listed=true->wpQuiet P ops C K l a->headQ P md ops C k (fun listed' a'=>Region.seqB md ops g k listed'=true/\K a') l.length listed a
 | [], m, listed, a, _, hk, _, hB, h => by
  obtain rfl:m=k:=by simpa using hk
  exact⟨by simpa [Region.lexHead] using hB,h⟩
 | o :: l, m, listed, a, hl, hk, inv, hB, h => by
  have d:ops[m]?=some o:=by simpa using (hl 0 (by simp)).symm
  simp only [List.length_cons,Region.lexHead,Bool.and_eq_true] at hB;obtain⟨⟨p,i⟩,e⟩:=hB;have c:m ∈ Region.ready md ops listed:=by simpa using p
  have b:m<k:=by simp only [List.length_cons] at hk;omega
  have f:qOp P ops C m (wpQuiet P ops C K l) a:=by unfold qOp;simp only [d];exact h
  obtain⟨v,q,n⟩:=yieldsIn_of_qOp d f;exact Z6X d (Region.noSelect_spec hsel) hs hc hn b (fun listed' a' hL=>seqB_ready hL.1) l.length listed a inv (Region.free_spec d i) c q
   (Z67 hsel hs hc hn l (m+1) _ _ (fun j hj=>by have:=hl (j+1) (by simp;omega);simpa [Nat.add_assoc,Nat.add_comm 1 j] using this) (by simp only [List.length_cons] at hk;omega) (inv.set c b) e n)
theorem Z1i (hL:Lets F P) (hnd:noDefer ops=true) {k g:Nat} {L:Array Bool->Act->Prop} (hLL:∀ listed a w,C w->L listed a->wpAnyIn F n P md ops Q g listed a w) :
  ∀ (f:Nat) (listed:Array Bool) (a:Act) (w:World),C w->headQ P md ops C k L f listed a->wpAnyIn F n P md ops Q (f+g) listed a w
 | 0,listed,a,w,hw,h=>by rw [Nat.zero_add];exact hLL _ _ _ hw h
 | f + 1, listed, a, w, hw, h => by
  rw [show f+1+g=(f+g)+1 by omega]
  exact⟨fun h0=>absurd h0 h.1,fun i hi=>Z1Z hL hnd hw (fun a' w' hw' h'=>Z1i hL hnd hLL f _ a' w' hw' h') (h.2 i hi).2⟩
theorem Zn (hL:Lets F P) {id:Nat} {a:Act} {l:List Oper} (k:Nat) (hm:P.follows .mixedOrders=true) (hnd:noDefer l.toArray=true) (hB:Region.lexTailB .any l.toArray k=true)
  (h:wpQuiet P l.toArray (Low w) (fun a'=>∀ w',Low w w'->wpListIn F n P l.toArray Q (l.drop k) a' w') (l.take k) a):(Code.region id l.toArray true).wpIn F n P Q a w:=by
 simp only [Region.lexTailB,Bool.and_eq_true,decide_eq_true_eq] at hB;obtain⟨⟨⟨⟨d,m⟩,hs⟩,p⟩,c⟩:=hB;have o:k<l.length:=by simpa using m
 have b:(l.take k).length=k:=by simp;omega
 have e:(l.drop k).length=l.toArray.size-k:=by simp
 have f:HeadInv .any l.toArray k (Array.replicate l.toArray.size false) :=
  ⟨by simp,fun j oj _ hl=>(by rw [getD_replicate_false] at hl;cases hl),fun t _ ht=>getD_in (by simpa using ht) (getD_replicate_false _ _)⟩
 have H:=Z67 (md:=.any) (g:=l.toArray.size-k) d hs p m (l.take k) 0 _ a (fun j hj=>by
  have i:j<k:=by rw [b] at hj;exact hj
  simp [i]) (by simpa using b) f (by rw [b];exact c) h
 refine wpIn_region_any hm ?_;have:=Z1i (Q:=Q) (n:=n) hL hnd (g:=l.toArray.size-k) (fun listed a' w' hw' hL'=>by
  have:=Z08 (md:=.any) (F:=F) (n:=n) (P:=P) (Q:=Q) (l.drop k) k listed a' w' (fun j=>by simp [List.getElem?_drop]) (by rw [e];exact hL'.1) (hL'.2 w' hw')
  rwa [e] at this) _ _ _ _ (Below.drew (qK _ w)) H
 rw [b,show k+(l.toArray.size-k)=l.toArray.size by omega] at this
 exact this
end
section
variable {F:Fence} {n:Nat} {P:Program} {md:Region.Mode} {ops:Array Oper} {w:World} {Q:Exit->Act->World->Prop}
attribute [local irreducible] wpQuiet
theorem Z44 {B:Nat} {a w:World} (h:Below B a w) (n:Nat):Below B a (w.drewN n):=⟨h.os,h.tape,h.output,h.size,h.block⟩
theorem Zl {w:World} {B:Nat} {cs:Array Value} {t:TypeId} (h:w.heap[B]?=some (.cells cs t (0,0))) {i:Nat} {v:Value} (hi:cs[i]?=some v):w.cell? ⟨B,i,none⟩=some v:=by
 simp [World.cell?,h,hi]
theorem Ze {w:World} {B:Nat} {cs:Array Value} {t:TypeId} (h:w.heap[B]?=some (.cells cs t (0,0))) (i:Nat):w.frozen? ⟨B,i,none⟩=false:=by
 simp [World.frozen?,h]
def lowUpon (P:Program) (w:World) (v:Value):Result Next->Prop
 | .ok (.value u) w'=>w'=w/\u=v
 | .ok .skip w'=>w'=w/\v=qD
 | .ok (.enter f args) w'=>w'=w/\Calls P f args w (fun e w''=>e=.returned v/\Below w.heap.size w w'')
 | _=>False
def lowAt (P:Program) (o:Oper) (a:Act) (w:World) (v:Value):Prop:=lowUpon P w v ((execOp a.eval o).run P w)
def YL (P:Program) (ops:Array Oper) (w:World) (o:Oper) (v:Value) (a:Act):Prop :=
 (Region.wanted o (yielded ops a.tmps)=true/\∀ w1,Low w w1->lowAt P o a w1 v)\/(Region.wanted o (yielded ops a.tmps)=false/\v=qD)
def lOp (P:Program) (ops:Array Oper) (w:World) (i:Nat) (K:Act->Prop) (a:Act):Prop :=
 match ops[i]? with
 | none=>K a
 | some o=>∃ v,YL P ops w o v a/\K (a.put o.dst v)
def wpLow (P:Program) (ops:Array Oper) (w:World) (Q:Act->Prop):List Oper->Act->Prop
 | [],a=>Q a
 | o::rest,a=>∃ v,YL P ops w o v a/\wpLow P ops w Q rest (a.put o.dst v)
theorem ZbI {Q:Act->Prop} {a:Act} {o:Oper} {rest:List Oper} {v:Value} (hw:Region.wanted o (yielded ops a.tmps)=true) (hval:∀ w1,Low w w1->lowAt P o a w1 v) (h:wpLow P ops w Q rest (a.put o.dst v)):wpLow P ops w Q (o::rest) a :=
 ⟨v,.inl ⟨hw,hval⟩,h⟩
theorem ZcP {Q:Act->Prop} {a:Act} (h:Q a):wpLow P ops w Q [] a:=h
theorem ZbJ {i:Nat} {a:Act} {K K':Act->Prop} (h:∀ a,K a->K' a) (hh:lOp P ops w i K a):lOp P ops w i K' a:=by
 unfold lOp at *
 split
 ·exact h _ (by simpa [*] using hh)
 ·rename_i o ho
  simp only [ho] at hh;obtain⟨v,b,c⟩:=hh;exact⟨v,b,h _ c⟩
theorem YL.of_same {o:Oper} {v:Value} {a a':Act} (hy:YL P ops w o v a) (he:execOp a'.eval o=execOp a.eval o)
  (hw:Region.wanted o (yielded ops a'.tmps)=Region.wanted o (yielded ops a.tmps)):YL P ops w o v a':=by
 unfold YL lowAt at *;rw [he,hw];exact hy
theorem ZcQ {j:Nat} {oi oj:Oper} {v:Value} (hj:ops[j]?=some oj) (hap:oi.apart ops oj=true)
  (hsi:∀ cs b,oi.op≠.select cs b) (hsj:∀ cs b,oj.op≠.select cs b) {K:Act->Prop} {a:Act}
  (hy:YL P ops w oi v a) (h:lOp P ops w j K (a.put oi.dst v)) :
  lOp P ops w j (fun a'=>YL P ops w oi v a'/\K (a'.put oi.dst v)) a:=by
 obtain⟨d,g,c⟩:=Oper.apart_spec hap;unfold lOp at *;simp only [hj] at *;obtain⟨u,e,f⟩:=h;refine⟨u,e.of_same (execOp_put oj hsj a oi.dst v d).symm (wanted_put oj a oi.dst v d).symm,hy.of_same (execOp_put oi hsi a oj.dst u c) (wanted_put oi a oj.dst u c),?_⟩;rw [<- Act.put_comm a v u g];exact f
def headL (P:Program) (md:Region.Mode) (ops:Array Oper) (w:World) (k:Nat) (L:Array Bool->Act->Prop):Nat->Array Bool->Act->Prop
 | 0,listed,a=>L listed a
 | f+1,listed,a=>Region.ready md ops listed≠[]/\∀ i ∈ Region.ready md ops listed,i<k/\lOp P ops w i (headL P md ops w k L f (listed.setIfInBounds i true)) a
theorem YL.lOp {i:Nat} {o:Oper} {v:Value} {a:Act} (hi:ops[i]?=some o) (hy:YL P ops w o v a) {K:Act->Prop} (h:K (a.put o.dst v)):lOp P ops w i K a:=by
 unfold Go.Proofs.YthipcinibldgnaaGreat.lOp;simp only [hi];exact⟨v,hy,h⟩
theorem Z6Y {k i : Nat} {oi : Oper} {v : Value} {L : Array Bool -> Act -> Prop} (hi : ops[i]? = some oi) (hsel : ∀ (j : Nat) (o : Oper) cs b, ops[j]? = some o -> o.op ≠ .select cs b)
  (hs:Region.sinkB md ops k=true) (hc:Region.chainB md ops k=true) (hn:k<ops.size) (hin:i<k) (hdone:∀ listed a,L listed a->∀ j ∈ Region.ready md ops listed,k<=j) :
  ∀ (f : Nat) (listed : Array Bool) (a : Act), HeadInv md ops k listed ->
   (∀ j oj,ops[j]?=some oj->j≠i->listed.getD j true=false->(∀ e ∈ oj.after,Region.binds md e=true->e.on≠i)->oi.apart ops oj=true) ->
   i ∈ Region.ready md ops listed->YL P ops w oi v a->headL P md ops w k L f (listed.setIfInBounds i true) (a.put oi.dst v)->headL P md ops w k L (f+1) listed a:=by
 intro f
 induction f with
 | zero =>
  intro listed a inv _ hr hy H;have d:=(mem_ready.1 hr).1;refine⟨fun h=>(by rw [h] at hr;cases hr),fun j hj=>?_⟩
  have c:j<k:=by
   rcases Nat.lt_or_ge j k with h | h
   ·exact h
   ·exact absurd hj (tail_waits hs hc hn inv _ i rfl hin d j h)
  refine⟨c,?_⟩;by_cases hji:j=i
  ·subst hji;exact hy.lOp hi H
  ·have:=hdone _ _ H j (ready_mono hj hji)
   omega
 | succ f ih =>
  intro listed a inv hfree hr hy H;have d:=(mem_ready.1 hr).1;refine⟨fun h=>(by rw [h] at hr;cases hr),fun j hj=>?_⟩
  have c:j<k:=by
   rcases Nat.lt_or_ge j k with h | h
   ·exact h
   ·exact absurd hj (tail_waits hs hc hn inv _ i rfl hin d j h)
  refine⟨c,?_⟩;by_cases hji:j=i
  ·subst hji;exact hy.lOp hi H
  ·have q:=(H.2 j (ready_mono hj hji)).2
   obtain⟨g,oj,l,p⟩:=mem_ready.1 hj;have n:∀ e ∈ oj.after,Region.binds md e=true->e.on≠i:=fun e he hb heq=>by
    have q:=p e he hb;rw [heq,getD_both d] at q;cases q
   have r:=ZcQ l (hfree j oj l hji g n) (fun cs b=>hsel i oi cs b hi) (fun cs b=>hsel j oj cs b l) hy q
   refine ZbJ (fun a' h3=>ih (listed.setIfInBounds j true) a' (inv.set hj c) ?_ (ready_mono hr (Ne.symm hji)) h3.1 ?_) r
   ·intro m om hm hmi hmun hno
    refine hfree m om hm hmi ?_ hno;by_cases hjm:j=m
    ·subst hjm;exact g
    ·rw [getD_set_ne true hjm] at hmun;exact hmun
   ·rw [Array.setIfInBounds_comm _ _ hji]
    exact h3.2
theorem Z2h {listed:Array Bool} {m:Nat} (h:m<listed.size):(listed.setIfInBounds m true).getD m false=true:=by
 simp [Array.getD,h]
theorem Z68 {k g : Nat} {K : Act -> Prop} (hsel : Region.noSelect ops = true) (hs : Region.sinkB md ops k = true) (hc : Region.chainB md ops k = true) (hn : k < ops.size) :
  ∀ (l:List Oper) (m:Nat) (listed:Array Bool) (a:Act),(∀ j,j<l.length->l[j]?=ops[m+j]?)->m+l.length=k->HeadInv md ops k listed->(∀ j,j<m->listed.getD j false=true) ->
  Region.lexHead md ops g l.length m listed=true->wpLow P ops w K l a->headL P md ops w k (fun listed' a'=>Region.seqB md ops g k listed'=true/\(∀ j,j<k->listed'.getD j false=true)/\K a') l.length listed a
 | [], m, listed, a, _, hk, _, hL, hB, h => by
  obtain rfl:m=k:=by simpa using hk
  exact⟨by simpa [Region.lexHead] using hB,hL,h⟩
 | o :: l, m, listed, a, hl, hk, inv, hL, hB, h => by
  have f:ops[m]?=some o:=by simpa using (hl 0 (by simp)).symm
  simp only [List.length_cons,Region.lexHead,Bool.and_eq_true] at hB;obtain⟨⟨p,i⟩,d⟩:=hB;have c:m ∈ Region.ready md ops listed:=by simpa using p
  have b:m<k:=by simp only [List.length_cons] at hk;omega
  obtain⟨v,q,n⟩:=h;exact Z6Y f (Region.noSelect_spec hsel) hs hc hn b (fun listed' a' hL => seqB_ready hL.1) l.length listed a inv (Region.free_spec f i) c q
   (Z68 hsel hs hc hn l (m+1) _ _ (fun j hj=>by have:=hl (j+1) (by simp;omega);simpa [Nat.add_assoc,Nat.add_comm 1 j] using this) (by simp only [List.length_cons] at hk;omega) (inv.set c b)
    (fun j hj=>by
     by_cases e:m=j
     ·subst e;exact Z2h (by rw [inv.size];omega)
     ·rw [getD_set_ne false e];exact hL j (by omega)) d n)
theorem Z2L (hL : Lets F P) (hnd : noDefer ops = true) {i : Nat} {o : Oper} {a : Act} {w' : World} {v : Value} {K' : Act -> World -> Prop} (hi : ops[i]? = some o) (hw : Low w w') (hy : YL P ops w o v a)
  (h:∀ w'',Below w'.heap.size w' w''->K' (a.put o.dst v) w''):wpOpIn F n P ops Q i K' a w':=by
 unfold wpOpIn;simp only [hi];rcases hy with⟨g,k⟩ | ⟨g,rfl⟩
 ·rw [if_pos g]
  have b:=k w' hw;refine⟨fun f _=>hL.fn f,?_⟩
  rw [Oper.semAt_eq _ _ _ (Z0y hnd hi)];unfold lowAt at b;generalize (execOp a.eval o).run P w'=r at *;cases r with
  | ok x w2 =>
   cases x <;> simp only [lowUpon] at b <;> simp only [Oper.uponIn]
   case value u =>
    obtain⟨c,d⟩:=b;rw [c,d];exact h _ (qK _ _)
   case skip =>
    obtain⟨c,d⟩:=b;rw [c];rw [d] at h;exact h _ (qK _ _)
   case enter f args =>
    obtain⟨c,j⟩:=b;rw [c];exact⟨fun hd=>(by rw [hL.depth] at hd;cases hd),hL.call _ _ _ _ _ (j.mono fun e w3 ⟨he,hw3⟩=>by subst he;exact h _ hw3)⟩
  | halt x w2=>simp only [lowUpon] at b
 ·rw [if_neg (by rw [g];simp)]
  exact⟨fun f _=>hL.fn f,h _ (qK _ _)⟩
theorem Z25 {i0:Nat} {o0 o1:Oper} (h0:ops[i0]?=some o0) (ha:o1.after=o0.after) (listed:Array Bool):Region.ready md (ops.setIfInBounds i0 o1) listed=Region.ready md ops listed:=by
 unfold Region.ready;rw [Array.size_setIfInBounds]
 apply List.filter_congr
 intro i _;by_cases e:i0=i
 ·subst e
  have:i0<ops.size:=(Array.getElem?_eq_some_iff.1 h0).1;rw [Array.getElem?_setIfInBounds_self_of_lt this,h0];simp [ha]
 ·rw [Array.getElem?_setIfInBounds_ne e]
theorem Z7r {i0:Nat} {o0 o1:Oper} (h0:ops[i0]?=some o0) (ha:o1.after=o0.after):∀ (g k:Nat) (listed:Array Bool),Region.seqB md (ops.setIfInBounds i0 o1) g k listed=Region.seqB md ops g k listed
 | 0,k,listed=>by simp only [Region.seqB,Z25 h0 ha]
 | g+1,k,listed=>by simp only [Region.seqB,Z25 h0 ha,Z7r h0 ha g]
theorem Z3g {i0:Nat} {o0 o1:Oper} (h0:ops[i0]?=some o0) (hd:o1.dst=o0.dst) (tmps:Array Value):yielded (ops.setIfInBounds i0 o1) tmps=yielded ops tmps:=by
 funext j
 unfold yielded;by_cases e:i0=j
 ·subst e
  have:i0<ops.size:=(Array.getElem?_eq_some_iff.1 h0).1;rw [Array.getElem?_setIfInBounds_self_of_lt this,h0];simp [hd]
 ·rw [Array.getElem?_setIfInBounds_ne e]
def freeB (ops:Array Oper) (k i0 d0:Nat):Bool:=(List.range k).all fun j=>j == i0 || match ops[j]? with | none=>true | some o=>!(o.looksAt ops).contains d0 && o.dst != some d0
theorem Z8K {k i0 d0:Nat} (h:freeB ops k i0 d0=true) {j:Nat} {o:Oper} (hj:ops[j]?=some o) (hjk:j<k) (hne:j≠i0):(∀ d,some d0=some d->d ∉ o.looksAt ops)/\(∀ d,some d0=some d->o.dst≠some d):=by
 have:=(List.all_eq_true.1 h) j (List.mem_range.2 hjk);simp only [hj,Bool.or_eq_true,beq_iff_eq,Bool.and_eq_true,Bool.not_eq_true',bne_iff_ne] at this;rcases this with a | ⟨a,b⟩
 ·exact absurd a hne
 ·refine⟨fun d hd=>?_,fun d hd=>?_⟩
  ·cases hd;simpa using a
  ·cases hd;exact b
theorem ZcI (a:Act) (d:Option Tmp) (u v:Value):(a.put d u).put d v=a.put d v:=by
 cases d with
 | none=>rfl
 | some d=>simp [Act.put]
section
variable {k i0 g d0:Nat} {o0:Oper} {T:TypeId} {cs:Array Value} {K:Act->Prop}
theorem Z4C (hL:Lets F P) (hnd:noDefer ops=true) (hi0:ops[i0]?=some o0) (hd:o0.dst=some d0) (hfree:freeB ops k i0 d0=true) (hsel:Region.noSelect ops=true)
  {m:Nat} (hm:w.heap.size<=m)
  (hK:∀ a w',K a->Low w w'->w'.heap[m]?=some (.cells cs T (0,0))->∀ listed,Region.seqB md (ops.setIfInBounds i0 { o0 with op:=.move (.const qD) }) g k listed=true->wpAnyIn F n P md ops Q g listed (a.put (some d0) (qP (some ⟨m,0,none⟩))) w') :
  ∀ (f : Nat) (listed : Array Bool) (a : Act) (w' : World), Low w w' -> w'.heap[m]? = some (.cells cs T (0, 0)) -> listed.getD i0 false = true ->
   headL P md (ops.setIfInBounds i0 { o0 with op:=.move (.const qD) }) w k (fun listed' a'=>Region.seqB md (ops.setIfInBounds i0 { o0 with op:=.move (.const qD) }) g k listed'=true/\(∀ j,j<k->listed'.getD j false=true)/\K a') f listed a ->
   wpAnyIn F n P md ops Q (f+g) listed (a.put (some d0) (qP (some ⟨m,0,none⟩))) w'
 | 0,listed,a,w',hw,hb,_,h=>by rw [Nat.zero_add];exact hK a w' h.2.2 hw hb _ h.1
 | f + 1, listed, a, w', hw, hb, hl, h => by
  rw [show f+1+g=(f+g)+1 by omega]
  obtain⟨h1,h2⟩:=h;rw [Z25 (o1:={ o0 with op:=.move (.const qD) }) hi0 rfl] at h1 h2
  refine⟨fun h0=>absurd h0 h1,fun i hi=>?_⟩
  obtain⟨hik,h3⟩:=h2 i hi;have hii:i≠i0:=by
   rintro rfl;have:=(mem_ready.1 hi).1;rw [getD_both this] at hl;cases hl
  have q:i<ops.size:=by
   obtain⟨_,o,c,_⟩:=mem_ready.1 hi;exact (Array.getElem?_eq_some_iff.1 c).1
  obtain⟨o,c⟩:∃ o,ops[i]?=some o:=⟨_,Array.getElem?_eq_getElem q⟩;unfold lOp at h3;rw [Array.getElem?_setIfInBounds_ne (Ne.symm hii),c] at h3;obtain⟨v,u,r⟩:=h3;have s:YL P ops w o v a:=by
   unfold YL at u ⊢
   rwa [Z3g (o1:={ o0 with op:=.move (.const qD) }) hi0 rfl] at u
  obtain⟨t,x⟩:=Z8K hfree c hik hii;have p:YL P ops w o v (a.put (some d0) (qP (some ⟨m,0,none⟩))):=s.of_same (execOp_put o (fun cs b=>Region.noSelect_spec hsel i o cs b c) a _ _ t) (wanted_put o a _ _ t)
  refine Z2L hL hnd c hw p fun w'' hB=>?_
  have l:m<w'.heap.size:=(Array.getElem?_eq_some_iff.1 hb).1;have:=Z4C hL hnd hi0 hd hfree hsel hm hK f (listed.setIfInBounds i true) (a.put o.dst v) w'' (hw.trans (hB.mono hw.size)) ((hB.block m l).trans hb)
   (by rw [getD_set_ne false hii];exact hl) r
  rwa [Act.put_comm a (qP (some ⟨m,0,none⟩)) v (fun d e=>by cases e;exact x _ rfl)]
theorem Z3S (hL : Lets F P) (hnd : noDefer ops = true) (hi0 : ops[i0]? = some o0) (hd : o0.dst = some d0) (hg : o0.guard = none) (hfree : freeB ops k i0 d0 = true) (hsel : Region.noSelect ops = true) (hik0 : i0 < k)
  (hal:∀ (a:Act) (w1:World),(execOp a.eval o0).run P w1=.ok (.value (qP (some ⟨w1.heap.size,0,none⟩))) (w1.alloc (.cells cs T)))
  (hK:∀ m,w.heap.size<=m->∀ a w',K a->Low w w'->w'.heap[m]?=some (.cells cs T (0,0))->∀ listed,Region.seqB md (ops.setIfInBounds i0 { o0 with op:=.move (.const qD) }) g k listed=true->wpAnyIn F n P md ops Q g listed (a.put (some d0) (qP (some ⟨m,0,none⟩))) w') :
  ∀ (f : Nat) (listed : Array Bool) (a : Act) (w' : World), Low w w' -> listed.getD i0 false = false -> i0 < listed.size ->
   headL P md (ops.setIfInBounds i0 { o0 with op:=.move (.const qD) }) w k (fun listed' a'=>Region.seqB md (ops.setIfInBounds i0 { o0 with op:=.move (.const qD) }) g k listed'=true/\(∀ j,j<k->listed'.getD j false=true)/\K a') f listed a ->
   wpAnyIn F n P md ops Q (f+g) listed a w'
 | 0,listed,a,w',hw,hl,_,h=>by have:=h.2.1 i0 hik0;rw [hl] at this;cases this
 | f + 1, listed, a, w', hw, hl, hsz, h => by
  rw [show f+1+g=(f+g)+1 by omega]
  obtain⟨h1,h2⟩:=h;rw [Z25 (o1:={ o0 with op:=.move (.const qD) }) hi0 rfl] at h1 h2
  refine⟨fun h0=>absurd h0 h1,fun i hi=>?_⟩
  obtain⟨hik,h3⟩:=h2 i hi;have hlt:i<ops.size:=by
   obtain⟨_,o,d,_⟩:=mem_ready.1 hi;exact (Array.getElem?_eq_some_iff.1 d).1
  by_cases hii:i=i0
  ·subst hii
   unfold lOp at h3;rw [Array.getElem?_setIfInBounds_self_of_lt hlt] at h3;obtain⟨v,_,b⟩:=h3;unfold wpOpIn;simp only [hi0];have c:Region.wanted o0 (yielded ops a.tmps)=true:=by simp [Region.wanted,hg]
   rw [if_pos c];refine⟨fun f _=>hL.fn f,?_⟩
   rw [Oper.semAt_eq _ _ _ (Z0y hnd hi0),hal a w'];simp only [Oper.uponIn];have e:Below w'.heap.size w' (w'.alloc (.cells cs T)):=(qK _ w').alloc (Nat.le_refl _) _;have:=Z4C (cs:=cs) (T:=T) (K:=K) hL hnd hi0 hd hfree hsel hw.size (hK _ hw.size) f (listed.setIfInBounds i true) (a.put o0.dst v) (w'.alloc (.cells cs T)) (hw.trans (e.mono hw.size)) (World.alloc_heap_new _ _)
    (Z2h hsz) b
   rw [hd] at this ⊢
   rwa [ZcI] at this
  ·obtain⟨o,d⟩:∃ o,ops[i]?=some o:=⟨_,Array.getElem?_eq_getElem hlt⟩
   unfold lOp at h3;rw [Array.getElem?_setIfInBounds_ne (Ne.symm hii),d] at h3;obtain⟨v,p,b⟩:=h3;have l:YL P ops w o v a:=by
    unfold YL at p ⊢
    rwa [Z3g (o1:={ o0 with op:=.move (.const qD) }) hi0 rfl] at p
   refine Z2L hL hnd d hw l fun w'' e=>?_
   exact Z3S hL hnd hi0 hd hg hfree hsel hik0 hal hK f (listed.setIfInBounds i true) (a.put o.dst v) w'' (hw.trans (e.mono hw.size))
    (by rw [getD_set_ne false hii];exact hl) (by simpa using hsz) b
end
theorem Z1O (hL:Lets F P) {id:Nat} {a:Act} {l:List Oper} (k i0 d0:Nat) (o0:Oper) (T:TypeId) (cs:Array Value) (hi0:l[i0]?=some o0) (hd:o0.dst=some d0) (hg:o0.guard=none) (hik:i0<k)
  (hm:P.follows .mixedOrders=true) (hnd:noDefer l.toArray=true) (hsel0:Region.noSelect l.toArray=true) (hfree:freeB l.toArray k i0 d0=true)
  (hB:Region.lexTailB .any (l.set i0 { o0 with op:=.move (.const qD) }).toArray k=true)
  (hal:∀ (a:Act) (w1:World),(execOp a.eval o0).run P w1=.ok (.value (qP (some ⟨w1.heap.size,0,none⟩))) (w1.alloc (.cells cs T)))
  (h:wpLow P (l.set i0 { o0 with op:=.move (.const qD) }).toArray w (fun a'=>∀ w' m,Low w w'->w.heap.size<=m->w'.heap[m]?=some (.cells cs T (0,0))->wpListIn F n P l.toArray Q (l.drop k) (a'.put (some d0) (qP (some ⟨m,0,none⟩))) w')
   ((l.set i0 { o0 with op:=.move (.const qD) }).take k) a):(Code.region id l.toArray true).wpIn F n P Q a w:=by
 have f:(l.set i0 { o0 with op:=.move (.const qD) }).toArray=l.toArray.setIfInBounds i0 { o0 with op:=.move (.const qD) }:=by simp
 simp only [Region.lexTailB,Bool.and_eq_true,decide_eq_true_eq] at hB;obtain⟨⟨⟨⟨e,s⟩,hs⟩,v⟩,c⟩:=hB;have u:k<l.length:=by simpa using s
 have r:(l.set i0 { o0 with op:=.move (.const qD) }).length=l.length:=by simp
 have b:((l.set i0 { o0 with op:=.move (.const qD) }).take k).length=k:=by simp;omega
 have i:(l.drop k).length=l.toArray.size-k:=by simp
 have p:(l.set i0 { o0 with op:=.move (.const qD) }).toArray.size=l.toArray.size:=by simp
 have o:HeadInv .any (l.set i0 { o0 with op:=.move (.const qD) }).toArray k (Array.replicate l.toArray.size false) :=
  ⟨by simp,fun j oj _ hl=>(by rw [getD_replicate_false] at hl;cases hl),fun t _ ht=>getD_in (by simpa using ht) (getD_replicate_false _ _)⟩
 rw [p] at c;have H:=Z68 (P:=P) (md:=.any) (g:=l.toArray.size-k) e hs v s ((l.set i0 { o0 with op:=.move (.const qD) }).take k) 0 _ a (fun j hj=>by
  have q:j<k:=by rw [b] at hj;exact hj
  simp [q]) (by simpa using b) o (fun j hj=>by omega) (by rw [b];exact c) h
 refine wpIn_region_any hm ?_;rw [b,f] at H;have d:l.toArray[i0]?=some o0:=by simpa using hi0
 have:=Z3S (Q:=Q) (n:=n) (F:=F) (ops:=l.toArray) (w:=w) hL hnd d hd hg hfree hsel0 hik hal (fun m hm' a' w' hK hlow hcell listed hseq=>by
  rw [Z7r (o1:={ o0 with op:=.move (.const qD) }) d rfl] at hseq
  have:=Z08 (md:=.any) (F:=F) (n:=n) (P:=P) (Q:=Q) (l.drop k) k listed (a'.put (some d0) (qP (some ⟨m,0,none⟩))) w' (fun j=>by simp [List.getElem?_drop]) (by rw [i];exact hseq) (hK w' m hlow hm' hcell)
  rwa [i] at this) k _ a w.drew (Below.drew (qK _ w)) (getD_replicate_false _ _) (by simp;omega) H
 rw [show k+(l.toArray.size-k)=l.toArray.size by omega] at this
 exact this
end
attribute [go_sem] lowUpon
attribute [irreducible] wpLow
end
end Go.Proofs.YthipcinibldgnaaGreat
