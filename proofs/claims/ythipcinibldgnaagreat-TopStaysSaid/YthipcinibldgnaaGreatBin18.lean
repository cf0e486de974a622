/- package plan: choices, the iterator over all choices of a list's elements. | package plan: choices, walked: what is handed out. | package plan: cho .. -/
import Derived.Test.YthipcinibldgnaaGreatBin11
import Derived.Test.YthipcinibldgnaaGreatBin17
open Go.Value renaming int->O,pointer->qP,slice->qS
open Go.IntKind renaming wrap->qW,i64->qL
open Go.Lib renaming hid->qH
open And renaming intro->qI
open Go.Act renaming put->qJ
set_option linter.unusedVariables false
set_option maxRecDepth 8000
set_option maxHeartbeats 6400000
namespace Go.Proofs.YthipcinibldgnaaGreat
section
attribute [local go_sem] Oper.semAt_some
attribute [local irreducible] wpQuiet
open Go.RowKit Go.Shelf
def chE (x:Value × List Int):Array Value:=#[x.1]
def chH (nb:Nat) (x:Value × List Int) (W:World):Prop:=Z8 W.heap.size W x.1 x.2/\∀ r,x.1.ownBlock=some r->nb<=r/\r<W.heap.size
def chOwn (s:List (Value × List Int)) (B r:Nat):Prop:=B<=r/\∀ x,x ∈ s->x.1.ownBlock≠some r
def chK (q:Nat->Prop) (B:Nat) (A C:World):Prop:=A.heap.size<=C.heap.size/\∀ b,(q b\/(B<=b/\b<A.heap.size))->C.heap[b]?=A.heap[b]?
structure ChS (n1 Bc:Nat) (s:List (Value × List Int)) (xs:List Int) (v:Value) (W:World):Prop where
 box:Boxed W Bc 29 v
 row:W.ownsRow n1 3 1 v xs.length (xs.map (O qL))
 off:∀ x,x ∈ s->∀ r,x.1.ownBlock=some r->r<W.heap.size/\v.ownBlock≠some r/\r≠Bc
 lt:Bc<n1
 base:n1<=W.heap.size
theorem ChS.shape {n1 Bc:Nat} {s:List (Value × List Int)} {xs:List Int} {v:Value} {W:World} (h:ChS n1 Bc s xs v W):∃ a c,v=qS a xs.length c:=by
 rcases Z0w h.row with⟨b,d⟩ | ⟨g,c,b,_⟩
 ·exact⟨none,0,by rw [b,d]⟩
 ·exact⟨_,c,b⟩
theorem ChS.keep {n1 Bc:Nat} {s:List (Value × List Int)} {xs:List Int} {v:Value} {W X:World} (h:ChS n1 Bc s xs v W) (k:∀ b,b<W.heap.size->n1<=b\/b=Bc->X.heap[b]?=W.heap[b]?) (hz:W.heap.size<=X.heap.size):ChS n1 Bc s xs v X:=by
 have m:=h.box.lt;refine⟨(k Bc m (.inr rfl)).trans h.box,?_,fun x hx r e=>⟨by have:=(h.off x hx r e).1;omega,(h.off x hx r e).2⟩,h.lt,Nat.le_trans h.base hz⟩
 refine⟨h.row.1,h.row.2.imp id ?_⟩;rintro ⟨g,c,a,l,d,f,j⟩;exact⟨g,c,a,l,d,(k g (Array.getElem?_eq_some_iff.1 f).1 (.inl d)).trans f,j⟩
theorem Zd0 (xs:List Int):∀ u ∈ xs.map (O qL),u.oneCell'=true:=by
 intro u hu;obtain⟨x,_,rfl⟩:=List.mem_map.1 hu
 rfl
section
variable {n1 Bc base:Nat} {s:List (Value × List Int)} {xs:List Int} {v:Value} {W:World} {J:List (Value × List Int)->World->Prop}
theorem ChS.push (hJ : ∀ s A B, J s A -> MoveM (chOwn s base) A B -> J s B) (h : ChS n1 Bc s xs v W) (hb : base <= Bc) (hJs : J s W) {tmp : Obj} {X2 : World} {v' : Value} {x : Int}
  (hg:(W.alloc tmp).grownBy X2 v.ownBlock) (hr:X2.ownsRow n1 3 1 v' (xs.length+1) (xs.map (O qL)++[O qL x])) (ho:v'.ownBlock=v.ownBlock\/v'.ownBlock=some (W.alloc tmp).heap.size) :
  Boxed X2 Bc 29 v/\ChS n1 Bc s (xs++[x]) v' (X2.setCell ⟨Bc,0,none⟩ v')/\J s (X2.setCell ⟨Bc,0,none⟩ v')/\W.heap.size<=X2.heap.size/\(∀ b,b<n1->X2.heap[b]?=W.heap[b]?)/\∀ b,b<n1->b≠Bc->(X2.setCell ⟨Bc,0,none⟩ v').heap[b]?=W.heap[b]?:=by
 have j:=h.lt;have p:=h.base;have k:W.heap.size<=X2.heap.size:=Nat.le_trans (by simp) hg.size
 have a:∀ r,v.ownBlock=some r->n1<=r/\r<W.heap.size:=fun r e=>h.row.lt r e
 have f:∀ r,v'.ownBlock=some r->n1<=r/\r<X2.heap.size:=fun r e=>hr.lt r e
 have d:Boxed X2 Bc 29 v:=(h.box.alloc tmp).kept hg (fun e=>by have:=a Bc e.symm;omega)
 have c:∀ b,b<n1->X2.heap[b]?=W.heap[b]?:=fun b hb1=>by
  have m:X2.heap[b]?=(W.alloc tmp).heap[b]?:=hg.block b (by simp;omega) (fun e=>by have:=a b e.symm;omega)
  exact m.trans (Below.heap_alloc W tmp b (by omega))
 refine⟨d,⟨d.set v',?_,fun y hy r e=>?_,j,by simp only [World.size_setCell];omega⟩,?_,k,c,fun b hb1 hb2=>(Below.heap_setCell X2 ⟨Bc,0,none⟩ v' b hb2).trans (c b hb1)⟩
 ·have:X2.ownsRow n1 3 1 v' (xs++[x]).length ((xs++[x]).map (O qL)):=by simpa using hr
  exact this.kept (grownBy_setCell' X2 Bc v') (.inr fun e=>by have:=f Bc e;omega)
 ·have o:=h.off y hy r e
  refine⟨by simp only [World.size_setCell];omega,fun e2=>?_,o.2.2⟩
  rcases ho with ho | ho
  ·exact o.2.1 (by rw [<- ho];exact e2)
  ·rw [ho] at e2
   have:(W.alloc tmp).heap.size=r:=by simpa using e2
   simp at this;omega
 ·have q:J s (W.alloc tmp):=hJ _ _ _ hJs (MoveM.alloc _ _ _)
  have n:J s X2:=by
   refine hJ _ _ _ q ⟨v.ownBlock,hg,fun r e=>?_⟩
   have w:=a r e;refine⟨⟨by omega,fun y hy e2=>(h.off y hy r e2).2.1 e⟩,?_⟩
   rcases (h.row.alloc tmp).2 with⟨rfl,_⟩ | ⟨g,u,t,rfl,_,l,_⟩
   ·simp [Value.ownBlock] at e
   ·obtain rfl:g=r:=by simpa [Value.ownBlock] using e
    exact⟨_,l,rfl⟩
  exact hJ _ _ _ n (MoveM.set ⟨by simpa using hb,fun y hy e=>(h.off y hy _ e).2.2 rfl⟩ d.cell)
theorem ChS.pop (hJ:∀ s A B,J s A->MoveM (chOwn s base) A B->J s B) {x:Int} {g c:Nat} (h:ChS n1 Bc s (xs++[x]) (qS (some ⟨g,0,none⟩) (xs.length+1) c) W) (hb:base<=Bc) (hJs:J s W) :
  ChS n1 Bc s xs (qS (some ⟨g,0,none⟩) xs.length c) (W.setCell ⟨Bc,0,none⟩ (qS (some ⟨g,0,none⟩) xs.length c))/\J s (W.setCell ⟨Bc,0,none⟩ (qS (some ⟨g,0,none⟩) xs.length c))/\∀ b,b≠Bc->(W.setCell ⟨Bc,0,none⟩ (qS (some ⟨g,0,none⟩) xs.length c)).heap[b]?=W.heap[b]?:=by
 have j:=h.lt;have f:W.ownsRow n1 3 1 (qS (some ⟨g,0,none⟩) xs.length c) xs.length (xs.map (O qL)):=by
  have m:=h.row;refine⟨by simp,?_⟩
  rcases m.2 with⟨d,_⟩ | ⟨w,p,a,d,q,t,u,l,n,k⟩
  ·simp at d
  ·simp only [Value.slice.injEq,Option.some.injEq,Addr.mk.injEq,and_true] at d
   obtain⟨rfl,-,rfl⟩:=d;simp only [List.length_append,List.length_cons,List.length_nil,Nat.zero_add,Nat.mul_one] at u k;refine .inr ⟨g,c,a,rfl,q,t,by omega,l,n,?_⟩
   have e:a.toList.take xs.length=(a.toList.take (xs.length+1)).take xs.length:=by rw [List.take_take];congr 1;omega
   rw [Nat.mul_one,e,k];simp
 have v:n1<=g:=(h.row.lt g rfl).1;refine⟨⟨h.box.set _,f.kept (grownBy_setCell' W Bc _) (.inr fun e=>?_),fun y hy r e=>?_,j,by simp only [World.size_setCell];exact h.base⟩,hJ _ _ _ hJs (MoveM.set ⟨by simpa using hb,fun y hy e=>(h.off y hy _ e).2.2 rfl⟩ h.box.cell),fun b hb2=>Below.heap_setCell W ⟨Bc,0,none⟩ _ b hb2⟩
 ·have:g=Bc:=by simpa [Value.ownBlock] using e
  omega
 ·have o:=h.off y hy r e
  exact⟨by simp only [World.size_setCell];exact o.1,o.2.1,o.2.2⟩
end
section
variable {P:Program} {ops:Array Oper}
theorem Z3A {i:Nat} {o:Oper} {a:Act} {w w':World} {K:Act->World->Prop} (hi:ops[i]?=some o) (hg:o.guard=none) (s x:Operand) (t:TypeId)
  (hop:o.op=Op.call { callee:=Callee.builtin Builtin.append,args:=#[s,x],argTypes:=#[t,t] }) {vs vx y:Value} (hs:a.eval s=vs) (hx:a.eval x=vx)
  (hrun:(Builtin.append_ #[t,t] o.type #[vs,vx]).run P w=.ok y w') (hK:K (a.put o.dst y) w'):okOp P ops i K a w:=by
 refine ZC hi (by simp [Region.wanted,hg]) (v:=y) (w':=w') ?_ hK
 simp [execOp,hop,resolve,invoke,builtin,hs,hx,hrun,Result.andThen]
end
theorem Zc3 {X:World} {n1 c:Nat} {a:Option Addr} {xs:List Int} (ty:TypeId) (h:X.ownsRow n1 3 1 (qS a xs.length c) xs.length (xs.map (O qL))) (hl:xs.length<=1000) :
  ∃ y X2,(Builtin.append_ #[29,29] ty #[qS none 0 0,qS a xs.length c]).run Tryz.prog X=.ok y X2/\X2.ownsRow X.heap.size 3 1 y xs.length (xs.map (O qL))/\X.grownBy X2 none:=by
 obtain⟨l,j,f,b,e⟩:=info_parts intInfo;rcases Z0w h with⟨d,p⟩ | ⟨g,q,d,_⟩
 ·simp only [Value.slice.injEq] at d
  obtain⟨rfl,k,rfl⟩:=d;rw [k];have:xs=[]:=List.eq_nil_of_length_eq_zero k;subst this;exact⟨_,_,run_append_owned_none X X.heap.size _ ty _ l 1 Tryz.underlying29 j _ 0 [] (World.ownsRow_nil X _ _ _),World.ownsRow_nil X _ _ _,⟨rfl,rfl,rfl,Nat.le_refl _,fun _ _ _=>rfl⟩⟩
 ·simp only [Value.slice.injEq] at d
  obtain⟨rfl,-,rfl⟩:=d;obtain⟨y,X2,o,m,n,-,-⟩:=run_append_own_at X X.heap.size 29 ty 3 l (.int .i64 0) 1 8 Tryz.underlying29 j f b e rfl (by decide) _ _ _ (World.ownsRow_nil X X.heap.size 3 1) ⟨g,0,none⟩ xs.length c (xs.map (Value.int .i64)) (by simp) (h.cells rfl) (Zd0 xs) (by unfold maxLen;omega) (by omega) (Nat.le_refl _)
  exact⟨y,X2,o,by simpa using m,n⟩
structure ChF (fx:Nat->Prop) (Bc Bk By Bl Bf L k cl:Nat) (al:Option Addr) (l:List Int) (W:World):Prop where
 many:W.cell? ⟨Bk,0,none⟩=some (O qL (k:Int))
 yld:W.cell? ⟨By,0,none⟩=some (.func (.yield L) #[] #[])
 lst:W.cell? ⟨Bl,0,none⟩=some (qS al l.length cl)
 frm:W.cell? ⟨Bf,0,none⟩=some (.func (.func 139) #[] #[qP (some ⟨Bc,0,none⟩),qP (some ⟨Bk,0,none⟩),qP (some ⟨By,0,none⟩),qP (some ⟨Bl,0,none⟩),qP (some ⟨Bf,0,none⟩)])
 els:∀ j,j<l.length->∃ b o,al=some ⟨b,o,none⟩/\fx b/\W.cell? ⟨b,o+j,none⟩=some (O qL (l.getD j 0))
 fk:fx Bk
 fy:fx By
 fl:fx Bl
 ff:fx Bf
theorem ChF.keep {fx:Nat->Prop} {Bc Bk By Bl Bf L k cl:Nat} {al:Option Addr} {l:List Int} {W X:World} (h:ChF fx Bc Bk By Bl Bf L k cl al l W) (hk:∀ b,fx b->X.heap[b]?=W.heap[b]?):ChF fx Bc Bk By Bl Bf L k cl al l X :=
 ⟨(World.cell?_of_block (hk _ h.fk)).trans h.many, (World.cell?_of_block (hk _ h.fy)).trans h.yld, (World.cell?_of_block (hk _ h.fl)).trans h.lst, (World.cell?_of_block (hk _ h.ff)).trans h.frm,
  fun j hj=>by obtain⟨b,o,h1,h2,h3⟩:=h.els j hj;exact⟨b,o,h1,h2,(World.cell?_of_block (hk _ h2)).trans h3⟩,h.fk,h.fy,h.fl,h.ff⟩
def ChQ (n1 Bc:Nat) (J Jx:List (Value × List Int)->World->Prop) (F:World->Prop) (ls:List (List Int)) (xs:List Int) (s:List (Value × List Int)) (e:Ending) (W':World):Prop :=
 F W'/\∃ t u v,t.map (·.2)++u=ls/\ChS n1 Bc (s++t) xs v W'/\((e=.returned (.bool true)/\u=[]/\J (s++t) W')\/(e=.returned (.bool false)/\Jx (s++t) W'))
theorem ChS.yield {n1 Bc:Nat} {s:List (Value × List Int)} {xs:List Int} {v y:Value} {W X0 X2:World} (h:ChS n1 Bc s xs v W) (h0:Below W.heap.size W X0) (hg:X0.grownBy X2 none) (hr:X2.ownsRow X0.heap.size 3 1 y xs.length (xs.map (O qL))) :
  Below W.heap.size W X2/\ChS n1 Bc (s++[(y,xs)]) xs v X2:=by
 have d:Below W.heap.size W X2:=h0.grown hg h0.size (fun k e=>by cases e)
 refine⟨d,?_⟩;have c:=h.keep (X:=X2) (fun b f _=>d.block b f) d.size
 have j:=h0.size;refine⟨c.box,c.row,fun x a r e=>?_,c.lt,c.base⟩
 rcases List.mem_append.1 a with a | a
 ·exact c.off x a r e
 ·obtain rfl:x=(y,xs):=by simpa using a
  have o:=hr.lt r e;have f:=h.base;have g:=h.lt;refine⟨o.2,fun e2=>?_,by omega⟩
  have:=(h.row.lt r e2).2;omega
theorem Zap {fx q:Nat->Prop} {J Jx:List (Value × List Int)->World->Prop} {nb base n1 Bc Bk By Bl Bf L cl:Nat} {al:Option Addr} {l:List Int} (hnb:nb<=base)
  (hJ:∀ s A B,J s A->MoveM (chOwn s base) A B->J s B)
  (hY:∀ m pre x W1,J pre W1->chH nb x W1->base<=W1.heap.size->YieldAt Fence.wide m Tryz.prog L (chE x) W1 fun e W'=>((e=.returned (.bool true)/\J (pre++[x]) W')\/(e=.returned (.bool false)/\Jx (pre++[x]) W'))/\chK q base W1 W')
  (hb:base<=Bc) (hfx:∀ b,fx b->b<n1/\b≠Bc/\(q b\/base<=b))
  (n i:Nat) (xs:List Int) (s:List (Value × List Int)) (v:Value) (W:World) (hl:xs.length<=1000) (S:ChS n1 Bc s xs v W) (F:ChF fx Bc Bk By Bl Bf L xs.length cl al l W) (hJs:J s W) :
  CallsIn Fence.wide n Tryz.prog 139 #[O qL (i:Int),qP (some ⟨Bc,0,none⟩),qP (some ⟨Bk,0,none⟩),qP (some ⟨By,0,none⟩),qP (some ⟨Bl,0,none⟩),qP (some ⟨Bf,0,none⟩)] W
   (ChQ n1 Bc J Jx (ChF fx Bc Bk By Bl Bf L xs.length cl al l) [xs] xs s):=by
 obtain⟨av,cv,rfl⟩:=S.shape;have hlt:=S.lt;have hbs:=S.base;have c1:=S.box.cell;have c2:=F.many;have c3:=F.yld;have V:=qH S;have FF:=qH F;have JJ:=qH hJs;have H:=qH hfx;have HY:=qH hY;have fy:=F.fy;clear S F hJs hfx hY;have T1:=qH (fun X (hX:KeepsP (fun b=>fx b\/b=Bc) W X)=>(hX.cell (b:=By) (i:=0) (.inl fy)).trans c3)
 have T2:=qH (fun X (hX:KeepsP (fun b=>fx b\/b=Bc) W X)=>(hX.cell (b:=Bc) (i:=0) (.inr rfl)).trans c1)
 refine callsIn_of_wp Tryz.func139 rfl trivial ?_ rfl;simp only [Tryz.ntmps139,List.size_toArray,List.length_cons,List.length_nil,Nat.reduceAdd,Nat.reduceSub,Array.replicate_succ,Array.replicate_zero,List.push_toArray,List.append_toArray,List.nil_append,List.cons_append];gi_wp2;refine Zi (Zk _) 3 (fun X=>KeepsP (fun b=>fx b\/b=Bc) W X) (by kernel_rfl) (by kernel_rfl) (by kernel_rfl) fun hH inv0=>?_
 refine sk hH 0 (.func (.yield L) #[] #[]) (Zd rfl) inv0 (fun X hX=>?_) fun k=>?_
 ·have r:=T1.out X hX;go_simp
 simp only [pT];refine sk hH 1 (qS av xs.length cv) (Zd rfl) k (fun X hX=>?_) fun C=>?_
 ·have r:=T2.out X hX;go_simp
 simp only [pT];have p:Below W.heap.size W W.drew:=Below.drew (Below.refl _ _);generalize W.drew=X0 at *;have P:KeepsP (fun b=>fx b\/b=Bc) W X0:=KeepsP.of_below p fun b hb'=>by
  rcases hb' with h | h
  ·have:=(H.out b h).1;omega
  ·omega
 have S0:=V.out.keep (X:=X0) (fun b hb' _=>p.block b hb') p.size
 refine sa1 (r:=2) P ?_;obtain⟨y,j,t,G,U⟩:=Zc3 29 S0.row hl;refine Z3A (Zd rfl) rfl (.const (qS none 0 0)) (.tmp 14) 29 rfl rfl rfl t ?_;simp only [pT];obtain⟨D,R⟩:=V.out.yield p U G;have K2:KeepsP (fun b=>fx b\/b=Bc) W j:=KeepsP.of_below D fun b hb'=>by
  rcases hb' with h | h
  ·have:=(H.out b h).1;omega
  ·omega
 refine Zj (by kernel_rfl) K2 ?_
 simp only [List.drop_succ_cons,List.drop_zero];have z2:=D.size;have Y:=hJ _ _ _ JJ.out (MoveM.low D);have o:Z8 j.heap.size j y xs:=Z8.own G (by omega)
 have u:∀ r,y.ownBlock=some r->nb<=r/\r<j.heap.size:=fun r e=>by have:=G.lt r e;have:=p.size;omega
 have F2:=qH (FF.out.keep (X:=j) fun b hb'=>D.block b (by have:=(H.out b hb').1;omega))
 obtain⟨fn,w,g,z,M,hR⟩:=HY.out (n-1) s (y,xs) j Y ⟨o,u⟩ (by omega)
 replace M:(Instr.yield L #[y]).run Tryz.prog j=.ok (.round L fn w g z) j:=M;obtain⟨ay,cy,rfl⟩:∃ a c,y=qS a xs.length c:=by obtain⟨_,a,c,h,_⟩:=o;exact⟨a,_,h⟩
 have K:=qH R;clear P S0 p D t G U K2 Y o u R hH inv0 k C c1 c2 c3;gi_wp2;refine⟨(fun h=>by cases h),hR.mono ?_⟩
 rintro e Q ⟨hc,f⟩;have zk:=f.1;have Z:=F2.out.keep (X:=Q) fun b hb'=>f.2 b (by
  have h:=H.out b hb';rcases h.2.2 with I | I
  ·exact .inl I
  ·exact .inr ⟨I,by omega⟩)
 have T:=K.out.keep (X:=Q) (fun b hb1 hb2=>f.2 b (.inr ⟨by omega,hb1⟩)) zk
 have E:=qH (qI Z T);clear Z T f M hR;rcases hc with⟨rfl,d⟩ | ⟨rfl,d⟩
 ·have N:=qH d
  clear d;gi_wp2;go_ret;exact⟨E.out.1,[(_,xs)],[],_,rfl,E.out.2,.inl ⟨rfl,rfl,N.out⟩⟩
 ·have N:=qH d
  clear d;gi_wp2;go_ret;exact⟨E.out.1,[(_,xs)],[],_,rfl,E.out.2,.inr ⟨rfl,N.out⟩⟩
theorem Z7b {l:List Int} {j:Nat} (hj:j<l.length) (r:Nat) (xs:List Int) :
  (combos (l.drop j) (r+1)).map (xs++·)=(combos (l.drop (j+1)) r).map ((xs++[l.getD j 0])++·)++(combos (l.drop (j+1)) (r+1)).map (xs++·):=by
 rw [List.drop_eq_getElem_cons hj];simp only [combos,List.map_append,List.map_map,List.getD_eq_getElem?_getD,List.getElem?_eq_getElem hj,Option.getD_some]
 congr 1
 refine List.map_congr_left fun c _=>?_
 simp
set_option linter.unusedSimpArgs false in
theorem Z8T {fx q : Nat -> Prop} {J Jx : List (Value × List Int) -> World -> Prop} {nb base n1 Bc Bk By Bl Bf L k cl : Nat} {al : Option Addr} {l : List Int} (hnb : nb <= base)
  (hJ:∀ s A B,J s A->MoveM (chOwn s base) A B->J s B) (hJx:∀ s A B,Jx s A->MoveM (chOwn s base) A B->Jx s B)
  (hY:∀ m pre x W1,J pre W1->chH nb x W1->base<=W1.heap.size->YieldAt Fence.wide m Tryz.prog L (chE x) W1 fun e W'=>((e=.returned (.bool true)/\J (pre++[x]) W')\/(e=.returned (.bool false)/\Jx (pre++[x]) W'))/\chK q base W1 W')
  (hb:base<=Bc) (hfx:∀ b,fx b->b<n1/\b≠Bc/\(q b\/base<=b)) (hll:l.length<=100) (hkk:k<=100) :
  ∀ (r n i:Nat) (xs:List Int) (s:List (Value × List Int)) (v:Value) (W:World),xs.length+r=k->i<=l.length->ChS n1 Bc s xs v W->ChF fx Bc Bk By Bl Bf L k cl al l W->J s W ->
  CallsIn Fence.wide n Tryz.prog 139 #[O qL (i:Int),qP (some ⟨Bc,0,none⟩),qP (some ⟨Bk,0,none⟩),qP (some ⟨By,0,none⟩),qP (some ⟨Bl,0,none⟩),qP (some ⟨Bf,0,none⟩)] W
   (ChQ n1 Bc J Jx (ChF fx Bc Bk By Bl Bf L k cl al l) ((combos (l.drop i) r).map (xs++·)) xs s):=by
 intro r
 induction r with
 | zero =>
  intro n i xs s v W hk hi S F a;have hk:xs.length=k:=by omega
  subst hk;have:=Zap hnb hJ hY hb hfx n i xs s v W (by omega) S F a
  simpa [combos] using this
 | succ r ih =>
  intro n i xs s v W hk hi S F a;obtain⟨i0,hi0,hz0',aa,V⟩:=info_parts intInfo;have hlt:=S.lt;have hbs:=S.base;obtain⟨av,cv,rfl⟩:=S.shape;have c1:=S.box.cell;have c2:=F.many;have d0:((xs.length:Int) == (k:Int))=false:=by rw [beq_eq_false_iff_ne];omega
  obtain⟨R,hR⟩:∃ R,r+1=R:=⟨_,rfl⟩;have w1:qW qL ((k:Int)-(xs.length:Int))=(R:Int):=by rw [show (k:Int)-(xs.length:Int)=(R:Int) by omega];exact zW2
  have w2:qW qL ((l.length:Int)-(R:Int))=(l.length:Int)-(R:Int):=zW2;have hxl:xs.length<=100:=by omega
  have SS:=qH S;have FF:=qH F;have JJ:=qH a;have HF:=qH hfx;have IH:=qH ih;have hst:=qH (fun j (hj:j<l.length)=>Z7b hj r xs)
  have HK:=qH (qI hk hR);simp only [hR] at hst ⊢;clear S F a hfx hY ih hk hR;refine callsIn_of_wp Tryz.func139 rfl trivial ?_ rfl;simp only [Tryz.ntmps139,List.size_toArray,List.length_cons,List.length_nil,Nat.reduceAdd,Nat.reduceSub,Array.replicate_succ,Array.replicate_zero,List.push_toArray,List.append_toArray,List.nil_append,List.cons_append];gi_wp2
  gi_loopw [0] (fun iv wr=>∃ (j:Nat) (t:List (Value × List Int)) (vv:Value),j<=l.length/\iv=O qL (j:Int)/\t.map (·.2)++(combos (l.drop j) R).map (xs++·)=(combos (l.drop i) R).map (xs++·)/\ChS n1 Bc (s++t) xs vv wr/\ChF fx Bc Bk By Bl Bf L k cl al l wr/\J (s++t) wr) (fun iv _=>l.length+1-(intOf iv).toNat)
  case atStart=>exact⟨i,[],_,hi,rfl,rfl,by simpa using SS.out,FF.out,by simpa using JJ.out⟩
  case round =>
   obtain⟨j,t,vv,hj,rfl,I,S,F,a⟩:=hrel;obtain⟨d,hwo⟩:∃ x,x=wr:=⟨_,rfl⟩;subst hwo;obtain⟨aw,cw,rfl⟩:=S.shape;have c3:=S.box.cell;have Q:=F.many;have c5:=F.lst;clear c1 c2 SS FF JJ;by_cases hgo:j+R<=l.length
   ·have hrr:=HK.out.2
    have d1:decide ((j:Int)<=(l.length:Int)-(R:Int))=true:=by rw [decide_eq_true_eq];omega
    obtain⟨b,o,hal,hfb,P⟩:=F.els j (by omega)
    rw [hal] at c5;have jl:(j:Int)<(l.length:Int):=by omega
    have j0:(0:Int)<=(j:Int):=by omega
    obtain⟨x,hx⟩:∃ x,l.getD j 0=x:=⟨_,rfl⟩;rw [hx] at P;have N:=hst.out j (by omega)
    rw [hx] at N;have fl:=F.fl;have SS:=qH S;have FF:=qH F;have JJ:=qH a;have HT:=qH (qI I (qI N hx));have wj:qW qL ((j:Int)+1)=((j+1:Nat):Int):=by rw [show (j:Int)+1=((j+1:Nat):Int) by omega];exact zW2
    have T1:=qH (fun X (hX:KeepsP (fun b=>fx b\/b=Bc) d X)=>(hX.cell (b:=Bc) (i:=0) (.inr rfl)).trans c3)
    have T2:=qH (fun X (hX:KeepsP (fun b=>fx b\/b=Bc) d X)=>(hX.cell (b:=Bl) (i:=0) (.inl fl)).trans c5)
    have T3:=qH (fun X (hX:KeepsP (fun b=>fx b\/b=Bc) d X)=>(hX.cell (b:=b) (i:=o+j) (.inl hfb)).trans P)
    clear S F a I N hx hrr P;gi_wp2;refine Zi (Zk _) 7 (fun X=>KeepsP (fun b=>fx b\/b=Bc) d X) (by kernel_rfl) (by kernel_rfl) (by kernel_rfl) fun hH inv0=>?_
    refine sk hH 0 (qS aw xs.length cw) (Zd rfl) inv0 (fun X hX=>?_) fun G=>?_
    ·have r:=T1.out X hX;go_simp
    simp only [pT];refine sk hH 1 (qS (some ⟨b,o,none⟩) l.length cl) (Zd rfl) G (fun X hX=>?_) fun E=>?_
    ·have r:=T2.out X hX;go_simp
    simp only [pT];refine sk hH 2 (O qL (j:Int)) (Zd rfl) E (fun X hX=>?_) fun C=>?_
    ·go_simp
    simp only [pT];refine sk hH 3 (qP (some ⟨b,o+j,none⟩)) (Zd rfl) C (fun X hX=>?_) fun D=>?_
    ·go_simp
    simp only [pT];refine sk hH 4 (O qL x) (Zd rfl) D (fun X hX=>?_) fun inv5=>?_
    ·have r:=T3.out X hX;go_simp
    simp only [pT];have w:Below d.heap.size d d.drew:=Below.drew (Below.refl _ _);generalize d.drew=X0 at *;have y:∀ Y:World,d.heap.size<=Y.heap.size->(∀ b,b<n1->Y.heap[b]?=d.heap[b]?)->KeepsP (fun b=>fx b\/b=Bc) d Y:=fun Y hz h=>⟨hz,fun b hb'=>h b (by
     rcases hb' with h | h
     ·exact (HF.out b h).1
     ·omega)⟩
    have hbw:=SS.out.base;have K0:=y X0 w.size (fun b hb'=>w.block b (by omega))
    have S0:=SS.out.keep (X:=X0) (fun b hb' _=>w.block b hb') w.size
    have J0:=hJ _ _ _ JJ.out (MoveM.low w);refine sa1 (r:=5) K0 ?_;refine ZC (Zd rfl) rfl (v:=qS (some ⟨X0.heap.size,0,none⟩) 1 1) (w':=X0.alloc (.cells #[O qL x] 3)) (by go_simp) ?_
    simp only [pT];have K1:=y (X0.alloc (.cells #[O qL x] 3)) (by have:=w.size;simp;omega) (fun b hb'=>(Below.heap_alloc X0 _ b (by have:=S0.base;omega)).trans (w.block b (by omega)))
    have hN:=Boxed.new X0 3 (.int .i64 x);have p:=S0.row.alloc (.cells #[.int .i64 x] 3);refine sa1 (r:=6) K1 ?_;refine ZA (Zd rfl) rfl (.tmp 28) (.tmp 33) 29 rfl n1 3 i0 (.int .i64 0) 1 8 Tryz.underlying29 hi0 hz0' aa V rfl (by decide) _ _ _ rfl p ⟨X0.heap.size,0,none⟩ 1 1 [.int .i64 x] rfl rfl (ZL hN) (by simp [Value.oneCell']) (by unfold maxLen;omega) (by omega) (by have:=S0.base;simp;omega) ?_
    intro v' X2 hown' hgrow ho;simp only [pT];obtain⟨M,S3,J3,Z,z,K⟩:=S0.push hJ hb J0 hgrow hown' ho;have c:∀ b,b<n1->X2.heap[b]?=d.heap[b]?:=fun b hb'=>(z b hb').trans (w.block b (by omega))
    refine Zj (by kernel_rfl) (y X2 (Nat.le_trans w.size Z) c) ?_
    simp only [List.drop_succ_cons,List.drop_zero];obtain⟨g,cap,rfl⟩:=Z0P hown' (by omega)
    have F3:=FF.out.keep (X:=X2.setCell ⟨Bc,0,none⟩ (qS (some ⟨g,0,none⟩) (xs.length+1) cap)) fun b hb'=>by
     have hh:=HF.out b hb';exact (Below.heap_setCell X2 ⟨Bc,0,none⟩ _ b hh.2.1).trans (c b hh.1)
    have ff:=F3.frm;have cb:=M.cell;have fb:=M.frozen;have P3:=qH (qI S3 (qI F3 J3));clear inv0 G E C D inv5 hH K0 K1 S0 J0 hN p hown' hgrow ho M S3 J3 Z z K c y F3 T1 T2 T3 w c3 Q c5
    gi_wp2_with fail
    have g1:=IH.out (n-1) (j+1) (xs++[x]) (s++t) _ _ (by have:=HK.out;simp;omega) (by omega) P3.out.1 P3.out.2.1 P3.out.2.2
    rw [show ((j+1:Nat):Int)=(j:Int)+1 by omega] at g1
    refine⟨trivial,(fun h=>by cases h),g1.mono ?_⟩
    clear g1 ff cb fb;rintro e W4 ⟨F4,t',u',v4,ht',H,hc⟩;obtain⟨g4,Q,rfl⟩:=Z0P H.row (by simp)
    have u:(xs++[x]).length=xs.length+1:=by simp
    rw [u] at H;have q1:=H.box.cell;have q2:=H.box.frozen;have q3:xs.length+1<=Q:=by
     rcases H.row.2 with⟨h,_⟩ | ⟨_,_,_,h,_,_,hle,_⟩
     ·cases h
     ·rw [u] at hle
      simp only [Value.slice.injEq] at h;omega
    have q4:qW qL (((xs.length:Int)+1)-1)=(xs.length:Int):=by rw [show ((xs.length:Int)+1)-1=(xs.length:Int) by omega];exact zW2
    have q5:qW qL (xs.length:Int)=(xs.length:Int):=zW2;have q6:xs.length<=Q:=by omega
    have q7:(xs.length:Int)<=(Q:Int):=by omega
    have hF5:=qH (F4.keep (X:=W4.setCell ⟨Bc,0,none⟩ (qS (some ⟨g4,0,none⟩) xs.length Q)) fun b hb'=>Below.heap_setCell W4 ⟨Bc,0,none⟩ _ b (HF.out b hb').2.1)
    have ab:=qH ht';have T:=qH H;clear F4 H ht' u P3;rcases hc with⟨rfl,rfl,f⟩ | ⟨rfl,f⟩
    ·obtain⟨p1,U,p3⟩:=T.out.pop hJ hb f
     have P5:=qH (qI p1 U);clear p1 U p3 f;gi_wp2;go_roundw
     case rel =>
      refine⟨j+1,t++t',_,by omega,by go_num,?_,by simpa [List.append_assoc] using P5.out.1,hF5.out,by simpa [List.append_assoc] using P5.out.2⟩
      have P:=ab.out;rw [List.append_nil] at P;rw [<- HT.out.1,HT.out.2.1,List.map_append,List.append_assoc,P]
     case measure=>simp [intOf];omega
    ·obtain⟨p1,U,p3⟩:=T.out.pop hJx hb f
     have P5:=qH (qI p1 U);clear p1 U p3 f;gi_wp2;go_ret;refine⟨hF5.out,t++t',u'++(combos (l.drop (j+1)) R).map (xs++·),_,?_,by simpa [List.append_assoc] using P5.out.1,.inr ⟨rfl,by simpa [List.append_assoc] using P5.out.2⟩⟩
     rw [<- HT.out.1,HT.out.2.1,List.map_append,<- ab.out];simp [List.append_assoc]
   ·have d1:decide ((j:Int)<=(l.length:Int)-(R:Int))=false:=by rw [decide_eq_false_iff_not];omega
    have hz:combos (l.drop j) R=[]:=Z6k (by rw [List.length_drop];omega)
    rw [hz] at I;have PP:=qH (qI S (qI F (qI a I)));clear S F a I hz;gi_wp2;go_ret;obtain⟨S,F,a,I⟩:=PP.out;exact⟨F,t,[],_,by simpa using I,S,.inl ⟨rfl,rfl,a⟩⟩
theorem Z7d (a:Option Addr) (n c:Nat) (k:Int) (w:World) :
  Calls Tryz.prog 76 #[qS a n c,O qL k] w fun e w'=>e=.returned (.func (.func 138) #[] #[qP (some ⟨w.heap.size+1,0,none⟩),qP (some ⟨w.heap.size,0,none⟩)])/\w'=(w.alloc (.cells #[qS a n c] 29)).alloc (.cells #[O qL k] 3):=by
 go_enter Tryz.func76,Tryz.ntmps76;go_wp2;go_ret;exact⟨rfl,rfl⟩
theorem Z8S (q:Nat->Prop) (Bk Bl k cl:Nat) (al:Option Addr) (l:List Int) (w0:World) (hll:l.length<=100) (hkk:k<=100)
  (h1:w0.cell? ⟨Bk,0,none⟩=some (O qL (k:Int))) (h2:w0.cell? ⟨Bl,0,none⟩=some (qS al l.length cl)) (qk:q Bk) (ql:q Bl)
  (hel:∀ j,j<l.length->∃ b o,al=some ⟨b,o,none⟩/\q b/\w0.cell? ⟨b,o+j,none⟩=some (O qL (l.getD j 0))) (hq:∀ b,q b->b<w0.heap.size) :
  SeqD Tryz.prog 138 #[qP (some ⟨Bk,0,none⟩),qP (some ⟨Bl,0,none⟩)] chE (chH w0.heap.size) (chK q) chOwn (fun ys=>ys.map (·.2)=combos l k) (fun pre=>∃ u,pre.map (·.2)++u=combos l k) w0:=by
 intro n L J Jx W hW hJ hJx hY h0;have g:=qH (qI h1 (qI h2 hel));have d:=qH (qI hJ hJx);have M:=qH hY;have E:=qH h0;clear h1 h2 hel hJ hJx hY h0
 change CallsIn Fence.wide n Tryz.prog _ #[.func (.yield L) #[] #[],qP (some ⟨Bk,0,none⟩),qP (some ⟨Bl,0,none⟩)] W _
 refine callsIn_of_wp Tryz.func138 rfl trivial ?_ rfl;simp only [Tryz.ntmps138,List.size_toArray,List.length_cons,List.length_nil,Nat.reduceAdd,Nat.reduceSub,Array.replicate_succ,Array.replicate_zero,List.push_toArray,List.append_toArray,List.nil_append,List.cons_append]
 gi_wp2_with fail
 generalize z:World.alloc (World.alloc (World.alloc W _) _) _=X;obtain⟨D,C,w,f,I⟩:=box3 z;clear z;have c:Below w0.heap.size w0 X:=hW.trans (f.mono hW.size);have m:=hW.size;have S:ChS (W.heap.size+3) (W.heap.size+1) [] [] (qS none 0 0) X:=⟨C,World.ownsRow_nil X _ _ _,(fun x hx=>by cases hx),by omega,by omega⟩
 have F:ChF (fun b=>q b\/b=W.heap.size\/b=W.heap.size+2) (W.heap.size+1) Bk W.heap.size Bl (W.heap.size+1+1) L k cl al l X :=
  ⟨(c.cell (p := ⟨Bk, 0, none⟩) (hq _ qk)).trans g.out.1, D.cell (i := 0) rfl, (c.cell (p := ⟨Bl, 0, none⟩) (hq _ ql)).trans g.out.2.1, w.cell (i := 0) rfl, fun j hj => by
   obtain⟨b,o,H,s,K⟩:=g.out.2.2 j hj;exact⟨b,o,H,.inl s,(c.cell (p:=⟨b,o+j,none⟩) (hq _ s)).trans K⟩,.inl qk,.inr (.inl rfl),.inl ql,.inr (.inr rfl)⟩
 have y:=Z8T (n1:=W.heap.size+3) (base:=W.heap.size) m d.out.1 d.out.2 M.out (by omega) (fun b hb=>by
  rcases hb with h | h | h
  ·have:=hq b h;exact⟨by omega,by omega,.inl h⟩
  ·exact⟨by omega,by omega,.inr (by omega)⟩
  ·exact⟨by omega,by omega,.inr (by omega)⟩) hll hkk k (n-1) 0 [] [] _ X (by simp) (by omega) S F (d.out.1 _ _ _ E.out (MoveM.low f))
 refine⟨trivial,(fun h=>by cases h),y.mono ?_⟩
 clear y S F D C w f c I;rintro e N ⟨-,t,u,v,B,-,G⟩;have A:=qH (show t.map (·.2)++u=combos l k by simpa using B)
 clear B;rcases G with⟨rfl,rfl,a⟩ | ⟨rfl,a⟩
 ·have r:=qH a
  clear a;gi_wp2;go_end0;exact⟨⟨_,rfl⟩,.inl ⟨t,by simpa using A.out,by simpa using r.out⟩⟩
 ·have r:=qH a
  clear a;gi_wp2;go_end0;exact⟨⟨_,rfl⟩,.inr ⟨t,⟨u,A.out⟩,by simpa using r.out⟩⟩
end
end Go.Proofs.YthipcinibldgnaaGreat
