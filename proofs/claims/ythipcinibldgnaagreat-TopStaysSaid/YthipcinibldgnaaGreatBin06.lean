/- A region that draws its order and holds appends and allocations beside loads: the loads are taken first, what is left in every order that the edges .. -/
import Derived.Maps.AppendAt
import Derived.RangeFuncNested
import Derived.Test.YthipcinibldgnaaGreatBin03
import Derived.Test.YthipcinibldgnaaGreatBin05
namespace Go.Proofs.YthipcinibldgnaaGreat
section
open Go.RowKit
section
variable {F:Fence} {n:Nat} {P:Program} {md:Region.Mode} {ops:Array Oper} {Q:Exit->Act->World->Prop} {S:World->Prop} {L:Array Bool->Act->World->Prop} {k:Nat}
def okUpon (P:Program) (o:Oper) (a:Act) (next:Act->World->Prop):Result Next->Prop
 | .ok (.value u) w'=>next (a.put o.dst u) w'
 | .ok .skip w'=>next (a.put o.dst undef) w'
 | .ok (.enter f args) w'=>Calls P f args w' (fun e w''=>∃ v,e=.returned v/\next (a.put o.dst v) w'')
 | _=>False
def okOp (P:Program) (ops:Array Oper) (i:Nat) (next:Act->World->Prop) (a:Act) (w:World):Prop :=
 match ops[i]? with
 | none=>next a w
 | some o=>if Region.wanted o (yielded ops a.tmps)=true then okUpon P o a next ((execOp a.eval o).run P w) else next (a.put o.dst undef) w
def sched (P:Program) (md:Region.Mode) (ops:Array Oper) (S:World->Prop) (L:Array Bool->Act->World->Prop) (k:Nat):Nat->Array Bool->Act->World->Prop
 | 0,listed,a,w=>S w/\L listed a w
 | f+1,listed,a,w=>S w/\Region.ready md ops listed≠[]/\∀ i ∈ Region.ready md ops listed,i<k/\okOp P ops i (sched P md ops S L k f (listed.setIfInBounds i true)) a w
theorem Z6L {o:Oper} {a:Act} {K K':Act->World->Prop} (h:∀ a w,K a w->K' a w) {r:Result Next} (hh:okUpon P o a K r):okUpon P o a K' r:=by
 cases r with
 | ok x w =>
  cases x <;> simp only [okUpon] at hh ⊢
  case value u=>exact h _ _ hh
  case skip=>exact h _ _ hh
  case enter f args=>exact hh.mono fun _ _ ⟨v,he,hv⟩=>⟨v,he,h _ _ hv⟩
 | halt x w=>simp only [okUpon] at hh
theorem Z5V {i:Nat} {a:Act} {w:World} {K K':Act->World->Prop} (h:∀ a w,K a w->K' a w) (hh:okOp P ops i K a w):okOp P ops i K' a w:=by
 unfold okOp at *
 split
 ·exact h _ _ (by simpa [*] using hh)
 ·rename_i o ho
  simp only [ho] at hh
  split
  ·rename_i hw;rw [if_pos hw] at hh;exact Z6L h hh
  ·rename_i hw;rw [if_neg hw] at hh;exact h _ _ hh
def YS (P:Program) (ops:Array Oper) (S:World->Prop) (o:Oper) (v:Value) (a:Act):Prop :=
 (Region.wanted o (yielded ops a.tmps)=true/\∀ w,S w->(execOp a.eval o).run P w=.ok (.value v) w)\/(Region.wanted o (yielded ops a.tmps)=false/\v=undef)
theorem YS.of_same {o:Oper} {v:Value} {a a':Act} (hy:YS P ops S o v a) (he:execOp a'.eval o=execOp a.eval o)
  (hw:Region.wanted o (yielded ops a'.tmps)=Region.wanted o (yielded ops a.tmps)):YS P ops S o v a':=by
 unfold YS at *;rw [he,hw];exact hy
theorem YS.okOp {i:Nat} {o:Oper} {v:Value} {a:Act} {w:World} (hi:ops[i]?=some o) (hy:YS P ops S o v a) (hS:S w) {K:Act->World->Prop} (h:K (a.put o.dst v) w):okOp P ops i K a w:=by
 unfold Go.Proofs.YthipcinibldgnaaGreat.okOp;simp only [hi];rcases hy with⟨b,c⟩ | ⟨b,rfl⟩
 ·rw [if_pos b,c w hS];exact h
 ·rw [if_neg (by rw [b];simp)];exact h
theorem Z7y {j:Nat} {oi oj:Oper} {v:Value} (hj:ops[j]?=some oj) (hap:oi.apart ops oj=true)
  (hsi:∀ cs b,oi.op≠.select cs b) (hsj:∀ cs b,oj.op≠.select cs b) {K:Act->World->Prop} {a:Act} {w:World}
  (hy:YS P ops S oi v a) (h:okOp P ops j K (a.put oi.dst v) w) :
  okOp P ops j (fun a' w'=>YS P ops S oi v a'/\K (a'.put oi.dst v) w') a w:=by
 obtain⟨e,d,g⟩:=Oper.apart_spec hap;have c:∀ u,YS P ops S oi v (a.put oj.dst u):=fun u=>hy.of_same (execOp_put oi hsi a oj.dst u g) (wanted_put oi a oj.dst u g)
 unfold okOp at *;simp only [hj] at *;rw [wanted_put oj a oi.dst v e] at h
 split
 ·rename_i hw
  rw [if_pos hw,execOp_put oj hsj a oi.dst v e] at h;generalize (execOp a.eval oj).run P w=r at *;cases r with
  | ok x w1 =>
   cases x <;> simp only [okUpon] at h ⊢
   case value u=>exact⟨c u,by rw [<- Act.put_comm a v u d];exact h⟩
   case skip=>exact⟨c undef,by rw [<- Act.put_comm a v undef d];exact h⟩
   case enter f args=>exact h.mono fun _ _ ⟨u,he,hv⟩=>⟨u,he,c u,by rw [<- Act.put_comm a v u d];exact hv⟩
  | halt x w1=>simp only [okUpon] at h
 ·rename_i hw
  rw [if_neg hw] at h;exact⟨c undef,by rw [<- Act.put_comm a v undef d];exact h⟩
theorem Z3n {i : Nat} {oi : Oper} {v : Value} (hi : ops[i]? = some oi) (hsel : ∀ (j : Nat) (o : Oper) cs b, ops[j]? = some o -> o.op ≠ .select cs b)
  (hs:Region.sinkB md ops k=true) (hc:Region.chainB md ops k=true) (hn:k<ops.size) (hin:i<k) (hdone:∀ listed a w,L listed a w->∀ j ∈ Region.ready md ops listed,k<=j) :
  ∀ (f : Nat) (listed : Array Bool) (a : Act) (w : World), HeadInv md ops k listed ->
   (∀ j oj,ops[j]?=some oj->j≠i->listed.getD j true=false->(∀ e ∈ oj.after,Region.binds md e=true->e.on≠i)->oi.apart ops oj=true) ->
   i ∈ Region.ready md ops listed->YS P ops S oi v a->sched P md ops S L k f (listed.setIfInBounds i true) (a.put oi.dst v) w->sched P md ops S L k (f+1) listed a w:=by
 intro f
 induction f with
 | zero =>
  intro listed a w inv _ hr hy H;have d:=(mem_ready.1 hr).1;refine⟨H.1,fun h=>(by rw [h] at hr;cases hr),fun j hj=>?_⟩
  have c:j<k:=by
   rcases Nat.lt_or_ge j k with h | h
   ·exact h
   ·exact absurd hj (tail_waits hs hc hn inv _ i rfl hin d j h)
  refine⟨c,?_⟩;by_cases hji:j=i
  ·subst hji;exact hy.okOp hi H.1 H
  ·have:=hdone _ _ _ H.2 j (ready_mono hj hji)
   omega
 | succ f ih =>
  intro listed a w inv hfree hr hy H;have d:=(mem_ready.1 hr).1;refine⟨H.1,fun h=>(by rw [h] at hr;cases hr),fun j hj=>?_⟩
  have c:j<k:=by
   rcases Nat.lt_or_ge j k with h | h
   ·exact h
   ·exact absurd hj (tail_waits hs hc hn inv _ i rfl hin d j h)
  refine⟨c,?_⟩;by_cases hji:j=i
  ·subst hji;exact hy.okOp hi H.1 H
  ·have q:=(H.2.2 j (ready_mono hj hji)).2
   obtain⟨g,oj,l,p⟩:=mem_ready.1 hj;have n:∀ e ∈ oj.after,Region.binds md e=true->e.on≠i:=fun e he hb heq=>by
    have q:=p e he hb;rw [heq,getD_both d] at q;cases q
   have r:=Z7y l (hfree j oj l hji g n) (fun cs b=>hsel i oi cs b hi) (fun cs b=>hsel j oj cs b l) hy q
   refine Z5V (fun a' w' h3=>ih (listed.setIfInBounds j true) a' w' (inv.set hj c) ?_ (ready_mono hr (Ne.symm hji)) h3.1 ?_) r
   ·intro m om hm hmi hmun hno
    refine hfree m om hm hmi ?_ hno;by_cases hjm:j=m
    ·subst hjm;exact g
    ·rw [getD_set_ne true hjm] at hmun;exact hmun
   ·rw [Array.setIfInBounds_comm _ _ hji]
    exact h3.2
structure Headed (md:Region.Mode) (ops:Array Oper) (k:Nat):Prop where
 sel:Region.noSelect ops=true
 sink:Region.sinkB md ops k=true
 chain:Region.chainB md ops k=true
 lt:k<ops.size
def headedB (md:Region.Mode) (ops:Array Oper) (k:Nat):Bool:=Region.noSelect ops && Region.sinkB md ops k && Region.chainB md ops k && decide (k<ops.size)
theorem Zag (h:headedB md ops k=true):Headed md ops k:=by
 simp only [headedB,Bool.and_eq_true,decide_eq_true_eq] at h;exact⟨h.1.1.1,h.1.1.2,h.1.2,h.2⟩
def tailL (F:Fence) (n:Nat) (P:Program) (md:Region.Mode) (ops:Array Oper) (Q:Exit->Act->World->Prop) (k:Nat) (tail:List Oper):Array Bool->Act->World->Prop :=
 fun listed a w=>Region.seqB md ops (ops.size-k) k listed=true/\wpListIn F n P ops Q tail a w
theorem Z8l (hH:Headed md ops k) {tail:List Oper} {i f:Nat} {oi:Oper} {v:Value} {listed:Array Bool} {a:Act} {w:World} (hi:ops[i]?=some oi) (hin:i<k) (inv:HeadInv md ops k listed)
  (hr:(Region.ready md ops listed).contains i=true) (hf:Region.free md ops listed i=true) (hw:Region.wanted oi (yielded ops a.tmps)=true) (hv:∀ w,S w->(execOp a.eval oi).run P w=.ok (.value v) w)
  (h:HeadInv md ops k (listed.setIfInBounds i true)->sched P md ops S (tailL F n P md ops Q k tail) k f (listed.setIfInBounds i true) (a.put oi.dst v) w):sched P md ops S (tailL F n P md ops Q k tail) k (f+1) listed a w:=by
 have b:i ∈ Region.ready md ops listed:=by simpa using hr
 exact Z3n hi (Region.noSelect_spec hH.sel) hH.sink hH.chain hH.lt hin (fun _ _ _ hL=>seqB_ready hL.1) f listed a w inv (Region.free_spec hi hf) b (.inl ⟨hw,hv⟩) (h (inv.set b hin))
theorem sk (hH:Headed md ops k) {tail:List Oper} (i:Nat) {f:Nat} {oi:Oper} (v:Value) {listed:Array Bool} {a:Act} {w:World} (hi:ops[i]?=some oi) (inv:HeadInv md ops k listed) (hv:∀ w,S w->(execOp a.eval oi).run P w=.ok (.value v) w)
  (h:HeadInv md ops k (listed.setIfInBounds i true)->sched P md ops S (tailL F n P md ops Q k tail) k f (listed.setIfInBounds i true) (a.put oi.dst v) w) (hin:i<k:=by omega) (hr:(Region.ready md ops listed).contains i=true:=by kernel_rfl) (hf:Region.free md ops listed i=true:=by kernel_rfl)
  (hw:Region.wanted oi (yielded ops a.tmps)=true:=by exact rfl):sched P md ops S (tailL F n P md ops Q k tail) k (f+1) listed a w:=Z8l hH hi hin inv hr hf hw hv h
theorem pT:(∀ (a:Act) (d:Tmp) (v:Value),a.put (some d) v=⟨a.tmps.setIfInBounds d v,a.defers⟩)/\(∀ (a:Act) (v:Value),a.put none v=a)/\(∀ (l:List Value) (i:Nat) (a:Value),l.toArray.setIfInBounds i a=(l.set i a).toArray)/\(∀ (b a:Value) (l:List Value),(b::l).set 0 a=a::l)/\(∀ (b a:Value) (l:List Value) (n:Nat),(b::l).set (n+1) a=b::l.set n a) :=
 ⟨fun _ _ _=>rfl,fun _ _=>rfl,fun _ _ _=>by simp,fun _ _ _=>rfl,fun _ _ _ _=>rfl⟩
theorem Zw {f:Nat} {listed:Array Bool} {a:Act} {w:World} {rs:List Nat} (hr:Region.ready md ops listed=rs) (hne:rs≠[]) (hS:S w) (hlt:∀ i ∈ rs,i<k) (h:∀ i ∈ rs,okOp P ops i (sched P md ops S L k f (listed.setIfInBounds i true)) a w) :
  sched P md ops S L k (f+1) listed a w:=⟨hS,by rw [hr];exact hne,fun i hi=>by rw [hr] at hi;exact⟨hlt i hi,h i hi⟩⟩
theorem sa1 {f:Nat} {listed:Array Bool} {a:Act} {w:World} {r:Nat} (hS:S w) (h:okOp P ops r (sched P md ops S L k f (listed.setIfInBounds r true)) a w) (hr:Region.ready md ops listed=[r]:=by kernel_rfl) (hlt:r<k:=by simp) :
  sched P md ops S L k (f+1) listed a w:=Zw (rs:=[r]) hr (by simp) hS (fun i hi=>by simp at hi;subst hi;exact hlt) (fun i hi=>by simp at hi;subst hi;exact h)
theorem ZC {i:Nat} {o:Oper} {a:Act} {w w':World} {v:Value} {K:Act->World->Prop} (hi:ops[i]?=some o) (hw:Region.wanted o (yielded ops a.tmps)=true) (hv:(execOp a.eval o).run P w=.ok (.value v) w') (h:K (a.put o.dst v) w'):okOp P ops i K a w:=by
 unfold okOp;simp only [hi];rw [if_pos hw,hv];exact h
theorem Zj {tail:List Oper} {listed:Array Bool} {a:Act} {w:World} (hB:Region.seqB md ops (ops.size-k) k listed=true) (hS:S w) (h:wpListIn F n P ops Q tail a w):sched P md ops S (tailL F n P md ops Q k tail) k 0 listed a w:=⟨hS,hB,h⟩
theorem ZR (hL : Lets F P) (hnd : noDefer ops = true) {g : Nat} (hLL : ∀ listed a w, L listed a w -> wpAnyIn F n P md ops Q g listed a w) :
  ∀ (f:Nat) (listed:Array Bool) (a:Act) (w:World),sched P md ops S L k f listed a w->wpAnyIn F n P md ops Q (f+g) listed a w
 | 0,listed,a,w,h=>by rw [Nat.zero_add];exact hLL _ _ _ h.2
 | f + 1, listed, a, w, h => by
  rw [show f+1+g=(f+g)+1 by omega]
  refine⟨fun h0=>absurd h0 h.2.1,fun i hi=>?_⟩
  have h1:=(h.2.2 i hi).2;have hlt:i<ops.size:=by
   obtain⟨_,o,b,_⟩:=mem_ready.1 hi;exact (Array.getElem?_eq_some_iff.1 b).1
  obtain⟨o,b⟩:∃ o,ops[i]?=some o:=⟨_,Array.getElem?_eq_getElem hlt⟩;unfold okOp at h1;unfold wpOpIn;simp only [b] at h1 ⊢
  split
  ·rename_i hw
   rw [if_pos hw] at h1;refine⟨fun f _=>hL.fn f,?_⟩
   rw [Oper.semAt_eq _ _ _ (Z0y hnd b)];generalize (execOp a.eval o).run P w=r at *;cases r with
   | ok x w1 =>
    cases x <;> simp only [okUpon] at h1 <;> simp only [Oper.uponIn]
    case value u=>exact ZR hL hnd hLL f _ _ _ h1
    case skip=>exact ZR hL hnd hLL f _ _ _ h1
    case enter fn args=>exact⟨fun hd=>(by rw [hL.depth] at hd;cases hd),hL.call _ _ _ _ _ (h1.mono fun e w3 ⟨v,he,hv⟩=>by subst he;exact ZR hL hnd hLL f _ _ _ hv)⟩
   | halt x w1=>simp only [okUpon] at h1
  ·rename_i hw
   rw [if_neg hw] at h1;exact⟨fun f _=>hL.fn f,ZR hL hnd hLL f _ _ _ h1⟩
theorem Zi (hL:Lets F P) {id:Nat} {a:Act} {w:World} {l:List Oper} (k:Nat) (S:World->Prop) (hm:P.follows .mixedOrders=true) (hnd:noDefer l.toArray=true) (hB:headedB .any l.toArray k=true)
  (h:Headed .any l.toArray k->HeadInv .any l.toArray k (Array.replicate l.length false)->sched P .any l.toArray S (tailL F n P .any l.toArray Q k (l.drop k)) k k (Array.replicate l.length false) a w.drew):(Code.region id l.toArray true).wpIn F n P Q a w:=by
 have d:=Zag hB;have e:k<l.length:=by simpa using d.lt
 have b:HeadInv .any l.toArray k (Array.replicate l.length false) :=
  ⟨by simp,fun j oj _ hl=>(by rw [getD_replicate_false] at hl;cases hl),fun t _ ht=>getD_in (by simpa using ht) (getD_replicate_false _ _)⟩
 have c:(l.drop k).length=l.toArray.size-k:=by simp
 refine wpIn_region_any hm ?_;have:=ZR (Q:=Q) (n:=n) hL hnd (g:=l.toArray.size-k) (fun listed a' w' hL'=>by
  have:=Z08 (md:=.any) (F:=F) (n:=n) (P:=P) (Q:=Q) (l.drop k) k listed a' w' (fun j=>by simp [List.getElem?_drop]) (by rw [c];exact hL'.1) hL'.2
  rwa [c] at this) _ _ _ _ (h d b)
 rw [show k+(l.toArray.size-k)=l.toArray.size by simp;omega] at this
 simpa using this
end
theorem Zd {l rest:List Oper} {i:Nat} {o:Oper} (h:l.drop i=o::rest):l.toArray[i]?=some o:=by
 have:(l.drop i)[0]?=l[i]?:=by simp
 rw [h] at this
 simpa using this.symm
section
variable {P:Program} {ops:Array Oper}
theorem Z05 {i:Nat} {o:Oper} {a:Act} {w w':World} {K:Act->World->Prop} (hi:ops[i]?=some o) (hw:Region.wanted o (yielded ops a.tmps)=true) (hv:(execOp a.eval o).run P w=.ok .skip w') (h:K (a.put o.dst undef) w'):okOp P ops i K a w:=by
 unfold okOp;simp only [hi];rw [if_pos hw,hv];exact h
theorem ZA {i:Nat} {o:Oper} {a:Act} {w:World} {K:Act->World->Prop} (hi:ops[i]?=some o) (hg:o.guard=none) (s x:Operand) (t:TypeId)
  (hop:o.op=Op.call { callee:=Callee.builtin Builtin.append,args:=#[s,x],argTypes:=#[t,t] })
  (base:Nat) (e:TypeId) (inf:TypeInfo) (z:Value) (size bytes:Nat) (h1:P.underlying t=some (.slice e)) (h2:P.info? e=some inf) (h3:inf.zero=some z) (h4:inf.size=size) (h5:inf.bytes=bytes) (h6:z.cells.size=size) (h7:0<size)
  (v:Value) (k:Nat) (xs:List Value) (hs:a.eval s=v) (hown:w.ownsRow base e size v k xs) (ad:Addr) (m c:Nat) (news:List Value) (hx:a.eval x=.slice (some ad) m c) (hn:news.length=m*size)
  (hc:∀ j u,news[j]?=some u->w.cell? (ad.add j)=some u) (h1c:∀ u ∈ news,u.oneCell'=true) (b1:k+m<=maxLen) (b2:(k+m)*bytes<=140737488355328) (b3:base<=w.heap.size)
  (hK:∀ v' w',w'.ownsRow base e size v' (k+m) (xs++news)->w.grownBy w' v.ownBlock->(v'.ownBlock=v.ownBlock\/v'.ownBlock=some w.heap.size)->K (a.put o.dst v') w'):okOp P ops i K a w:=by
 obtain⟨v',w',b,d,f,_,g⟩:=run_append_own_at (P:=P) w base t o.type e inf z size bytes h1 h2 h3 h4 h5 h6 h7 v k xs hown ad m c news hn hc h1c b1 b2 b3;refine ZC hi (by simp [Region.wanted,hg]) (v:=v') (w':=w') ?_ (hK v' w' d f g)
 simp [execOp,hop,resolve,invoke,builtin,hs,hx,b,Result.andThen]
end
structure Two (base:Nat) (e:TypeId) (W X:World) (v1 v2 u1 u2:Value) (n1 n2:Nat) (l1 l2:List Value):Prop where
 os:X.os=W.os
 tape:X.tape=W.tape
 output:X.output=W.output
 size:W.heap.size<=X.heap.size
 keep:∀ b,b<W.heap.size->some b≠v1.ownBlock->some b≠v2.ownBlock->X.heap[b]?=W.heap[b]?
 r1:X.ownsRow base e 1 u1 n1 l1
 r2:X.ownsRow base e 1 u2 n2 l2
 ne:u1.ownBlock=none\/u1.ownBlock≠u2.ownBlock
 o1:u1.ownBlock=v1.ownBlock\/∀ g,u1.ownBlock=some g->W.heap.size<=g
 o2:u2.ownBlock=v2.ownBlock\/∀ g,u2.ownBlock=some g->W.heap.size<=g
section
variable {base:Nat} {e:TypeId} {W X X':World} {v1 v2 u1 u2 u:Value} {n1 n2 n':Nat} {l1 l2 l':List Value}
theorem Two.refl (h1:W.ownsRow base e 1 v1 n1 l1) (h2:W.ownsRow base e 1 v2 n2 l2) (hne:v1.ownBlock=none\/v1.ownBlock≠v2.ownBlock):Two base e W W v1 v2 v1 v2 n1 n2 l1 l2 :=
 ⟨rfl,rfl,rfl,Nat.le_refl _,fun _ _ _ _=>rfl,h1,h2,hne,.inl rfl,.inl rfl⟩
theorem Two.ne2 (h:Two base e W X v1 v2 u1 u2 n1 n2 l1 l2):u2.ownBlock=none\/u2.ownBlock≠u1.ownBlock:=by
 rcases h.ne with h | h
 ·rw [h]
  cases u2.ownBlock <;> simp
 ·exact .inr (Ne.symm h)
theorem Two.grow (h:Two base e W X v1 v2 u1 u2 n1 n2 l1 l2) (hg:X.grownBy X' none):Two base e W X' v1 v2 u1 u2 n1 n2 l1 l2 :=
 ⟨hg.os.trans h.os,hg.tape.trans h.tape,hg.output.trans h.output,Nat.le_trans h.size hg.size,fun b hb h1 h2=>(hg.block b (Nat.lt_of_lt_of_le hb h.size) (by simp)).trans (h.keep b hb h1 h2),
  h.r1.kept hg (by cases u1.ownBlock <;> simp),h.r2.kept hg (by cases u2.ownBlock <;> simp),h.ne,h.o1,h.o2⟩
theorem Two.alloc (h:Two base e W X v1 v2 u1 u2 n1 n2 l1 l2) (o:Obj):Two base e W (X.alloc o) v1 v2 u1 u2 n1 n2 l1 l2:=h.grow (World.grownBy_alloc X o none)
theorem Two.app1 (h:Two base e W X v1 v2 u1 u2 n1 n2 l1 l2) (hg:X.grownBy X' u1.ownBlock) (hr:X'.ownsRow base e 1 u n' l') (ho:u.ownBlock=u1.ownBlock\/u.ownBlock=some X.heap.size):Two base e W X' v1 v2 u u2 n' n2 l' l2:=by
 refine⟨hg.os.trans h.os,hg.tape.trans h.tape,hg.output.trans h.output,Nat.le_trans h.size hg.size,fun b hb h1 h2=>?_,hr,h.r2.kept hg h.ne2,?_,?_,h.o2⟩
 ·refine (hg.block b (Nat.lt_of_lt_of_le hb h.size) fun e=>?_).trans (h.keep b hb h1 h2)
  rcases h.o1 with o | o
  ·exact h1 (e.trans o)
  ·have:=o b e.symm;omega
 ·rcases ho with ho | ho
  ·rw [ho];exact h.ne
  ·right
   rw [ho];intro e;have:=(h.r2.lt _ e.symm).2;omega
 ·rcases ho with ho | ho
  ·rw [ho];exact h.o1
  ·right
   intro g e;rw [ho] at e;cases e;exact h.size
theorem Two.app2 (h : Two base e W X v1 v2 u1 u2 n1 n2 l1 l2) (hg : X.grownBy X' u2.ownBlock) (hr : X'.ownsRow base e 1 u n' l') (ho : u.ownBlock = u2.ownBlock \/ u.ownBlock = some X.heap.size) : Two base e W X' v1 v2 u1 u n1 n' l1 l' := by
 refine⟨hg.os.trans h.os,hg.tape.trans h.tape,hg.output.trans h.output,Nat.le_trans h.size hg.size,fun b hb h1 h2=>?_,h.r1.kept hg h.ne,hr,?_,h.o1,?_⟩
 ·refine (hg.block b (Nat.lt_of_lt_of_le hb h.size) fun e=>?_).trans (h.keep b hb h1 h2)
  rcases h.o2 with o | o
  ·exact h2 (e.trans o)
  ·have:=o b e.symm;omega
 ·rcases ho with ho | ho
  ·rw [ho];exact h.ne
  ·by_cases hn:u1.ownBlock=none
   ·exact .inl hn
   ·right
    rw [ho];intro e;have:=(h.r1.lt _ e).2;omega
 ·rcases ho with ho | ho
  ·rw [ho];exact h.o2
  ·right
   intro g e;rw [ho] at e;cases e;exact h.size
theorem Zx {v:Value} {n:Nat} {l:List Value} (h:W.ownsRow base e 1 v n l) {b:Nat} (hb:b<base):some b≠v.ownBlock:=fun e=>by have:=(h.lt b e.symm).1;omega
theorem Two.store {t : TypeId} {bt be : Nat} (h : Two base e W X v1 v2 u1 u2 n1 n2 l1 l2) (h1 : W.ownsRow base e 1 v1 n' l') {n2' : Nat} {l2' : List Value} (h2 : W.ownsRow base e 1 v2 n2' l2') (hb1 : Boxed W bt t v1) (hb2 : Boxed W be t v2) (hne : bt ≠ be) (hl1 : bt < base) (hl2 : be < base) :
  (Boxed X bt t v1/\Boxed (X.setCell ⟨bt,0,none⟩ u1) be t v2)/\(Boxed ((X.setCell ⟨bt,0,none⟩ u1).setCell ⟨be,0,none⟩ u2) bt t u1/\Boxed ((X.setCell ⟨bt,0,none⟩ u1).setCell ⟨be,0,none⟩ u2) be t u2) /\
   (((X.setCell ⟨bt,0,none⟩ u1).setCell ⟨be,0,none⟩ u2).ownsRow base e 1 u1 n1 l1/\((X.setCell ⟨bt,0,none⟩ u1).setCell ⟨be,0,none⟩ u2).ownsRow base e 1 u2 n2 l2) /\
   KeepsOthers W ((X.setCell ⟨bt,0,none⟩ u1).setCell ⟨be,0,none⟩ u2) /\
   (∀ m,m<=bt->m<=be->m<=base->Below m W ((X.setCell ⟨bt,0,none⟩ u1).setCell ⟨be,0,none⟩ u2)) /\
   (W.heap.size<=((X.setCell ⟨bt,0,none⟩ u1).setCell ⟨be,0,none⟩ u2).heap.size/\∀ b,b<W.heap.size->b≠bt->b≠be->some b≠v1.ownBlock->some b≠v2.ownBlock->((X.setCell ⟨bt,0,none⟩ u1).setCell ⟨be,0,none⟩ u2).heap[b]?=W.heap[b]?):=by
 have j:Boxed X bt t v1:=(h.keep bt hb1.lt (Zx h1 hl1) (Zx h2 hl1)).trans hb1;have i:Boxed X be t v2:=(h.keep be hb2.lt (Zx h1 hl2) (Zx h2 hl2)).trans hb2;have f:((X.setCell ⟨bt,0,none⟩ u1).setCell ⟨be,0,none⟩ u2).heap.size=X.heap.size:=by simp [World.setCell]
 have d:∀ b,b≠bt->b≠be->((X.setCell ⟨bt,0,none⟩ u1).setCell ⟨be,0,none⟩ u2).heap[b]?=X.heap[b]?:=fun b h1 h2 =>
  (Below.heap_setCell _ ⟨be,0,none⟩ u2 b h2).trans (Below.heap_setCell _ ⟨bt,0,none⟩ u1 b h1)
 have a:∀ b,b<W.heap.size->b≠bt->b≠be->some b≠v1.ownBlock->some b≠v2.ownBlock->((X.setCell ⟨bt,0,none⟩ u1).setCell ⟨be,0,none⟩ u2).heap[b]?=W.heap[b]?:=fun b hb n1 n2 n3 n4=>(d b n1 n2).trans (h.keep b hb n3 n4)
 refine⟨⟨j,i.other (Ne.symm hne) _⟩,⟨(j.set u1).other hne _,(i.other (Ne.symm hne) _).set u2⟩,⟨?_,?_⟩,⟨by rw [f];exact h.size,fun b o hb ho=>?_⟩,fun m m1 m2 m3=>⟨h.os,h.tape,h.output,by rw [f];exact h.size,fun b hb=>?_⟩,by rw [f];exact h.size,a⟩
 ·exact (h.r1.kept (grownBy_setCell' X bt u1) (.inr (Ne.symm (Zx h.r1 hl1)))).kept (grownBy_setCell' _ be u2) (.inr (Ne.symm (Zx h.r1 hl2)))
 ·exact (h.r2.kept (grownBy_setCell' X bt u1) (.inr (Ne.symm (Zx h.r2 hl1)))).kept (grownBy_setCell' _ be u2) (.inr (Ne.symm (Zx h.r2 hl2)))
 ·have c:∀ {v:Value} {n:Nat} {l:List Value},W.ownsRow base e 1 v n l->some b≠v.ownBlock:=fun {v n l} hr e'=>by
   rcases hr.2 with⟨rfl,_⟩ | ⟨g,p,q,rfl,_,k,_⟩
   ·simp [Value.ownBlock] at e'
   ·obtain rfl:b=g:=by simpa [Value.ownBlock] using e'
    rw [hb] at k;cases k;cases ho
  refine (a b (Array.getElem?_eq_some_iff.1 hb).1 ?_ ?_ (c h1) (c h2)).trans hb
  ·rintro rfl;rw [show W.heap[b]?=_ from hb1] at hb;cases hb;cases ho
  ·rintro rfl;rw [show W.heap[b]?=_ from hb2] at hb;cases hb;cases ho
 ·exact a b (Nat.lt_of_lt_of_le hb (Nat.le_trans m1 (Nat.le_of_lt hb1.lt))) (by omega) (by omega) (Zx h1 (by omega)) (Zx h2 (by omega))
end
end
end Go.Proofs.YthipcinibldgnaaGreat
