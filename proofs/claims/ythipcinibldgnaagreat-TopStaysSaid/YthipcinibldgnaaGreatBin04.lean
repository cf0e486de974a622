/- The iterator over the sides of a polygon (package hull): its contract. | Choices of a list's elements, the best ones of them. No program here. | hu .. -/
import Derived.RangeFuncNested
import Derived.RangeFuncBound
import Derived.RangeFuncCalls
import Derived.RangeFuncLeaves
import Derived.Shelf.Abstract
import Derived.Shelf.RegionOpen
import Derived.OwnWalkIn
import Derived.TacticsInMore
import Derived.LoopNIn
import Derived.LoopIn
import Derived.Test.YthipcinibldgnaaGreatBin02
import Derived.Test.YthipcinibldgnaaGreatBin03
import Derived.Test.YthipcinibldgnaaGreatBin00
open Go.Value renaming int->O,pointer->qP,slice->qS,bool->qB
open Go.Ending renaming returned->qR
open Go.Obj renaming cells->qC
open Go.IntKind renaming wrap->qW,i64->qL
open Go.Lib renaming hid->qH
open Go.RowKit.Below renaming refl->qK
open Go.World renaming block_lt_of_cell?->qO
open Nat renaming le_refl->qN
open Go.Act renaming put->qJ
open Go renaming undef->qD
set_option linter.unusedSimpArgs false
set_option maxHeartbeats 4000000
namespace Go.Proofs.YthipcinibldgnaaGreat
section
open Go.RowKit
theorem zq4 {α:Type} (l:List α) (i:Nat) (a:α):l.toArray.setIfInBounds i a=(l.set i a).toArray:=List.setIfInBounds_toArray ..
theorem zr4 {α:Type} (b a:α) (l:List α):(b::l).set 0 a=a::l:=rfl
theorem zs4 {α:Type} (b a:α) (l:List α) (n:Nat):(b::l).set (n+1) a=b::l.set n a:=rfl
end
section
attribute [local go_sem] Oper.semAt_some
open Go.RowKit Go.Shelf
def upto {α:Type} (f:Nat->α) (k:Nat):List α:=(List.range k).map f
theorem ZB {α:Type} (f:Nat->α) (k:Nat):upto f (k+1)=upto f k++[f k]:=by simp [upto,List.range_succ]
theorem Zq {α:Type} (f:Nat->α) (k:Nat):(upto f k).length=k:=by simp [upto]
def sideP (l:List Pt) (i:Nat):Pt × Pt:=(nth l i,nth l ((i+1) % l.length))
def encS (x:Pt × Pt):Array Value:=#[.agg #[O qL x.1.x,O qL x.1.y],.agg #[O qL x.2.x,O qL x.2.y]]
set_option maxRecDepth 100000 in
theorem Z9q {α : Type} (encA : α -> Array Value) (f : Nat -> α) (n : Nat) (hn : 1 <= n) (W : World) (l Bs n0 n0' b o cap : Nat) (ps : List Pt) (hlen : ps.length <= 70368744177663) (hb : b < n0) (hBs : Bs < n0') (hn0' : n0' <= W.heap.size) (hf : ∀ i, i < ps.length -> encA (f i) = encS (sideP ps i)) (J Jx : List α -> World -> Prop)
  (hJ:AbidesFrom W.heap.size J)
  (hY:∀ pre x W1,J pre W1->pre.length<ps.length->YieldAt Fence.wide (n-1) Tryz.prog l (encA x) W1 fun e W' =>
   (e=qR (qB true)/\J (pre++[x]) W'/\Below n0' W1 W')\/(e=qR (qB false)/\Jx (pre++[x]) W')) (h00:n0<=n0')
  (hB:W.cell? ⟨Bs,0,none⟩=some (qS (some ⟨b,o,none⟩) ps.length cap))
  (hc:∀ j,j<ps.length->W.cell? ⟨b,o+j*2,none⟩=some (O qL (nth ps j).x)/\W.cell? ⟨b,o+j*2+1,none⟩=some (O qL (nth ps j).y)) (h0:J [] W) :
  CallsIn Fence.wide n Tryz.prog 117 #[.func (.yield l) #[] #[],qP (some ⟨Bs,0,none⟩)] W fun e W'=>(∃ v,e=qR v) /\
   ((∃ ys,ys=upto f ps.length/\J ys W')\/(∃ pre,(∃ k,k<=ps.length/\pre=upto f k)/\Jx pre W')):=by
 refine callsIn_of_wp Tryz.func117 rfl trivial ?_ rfl;simp only [Tryz.ntmps117,List.size_toArray,List.length_cons,List.length_nil,Nat.reduceAdd,Nat.reduceSub,Array.replicate_succ,Array.replicate_zero,List.push_toArray,List.append_toArray,List.nil_append,List.cons_append];gi_wp2
 gi_loopw [7] (fun i wr=>∃ k:Nat,k<=ps.length/\i=O qL k/\J (upto f k) wr/\Below n0' W wr)
  (fun i _=>ps.length-(intOf i).toNat)
 case atStart=>exact⟨0,Nat.zero_le _,rfl,h0,qK _ _⟩
 case round =>
  obtain⟨k,Y,rfl,t,a⟩:=hrel;by_cases hlt:k<ps.length
  ·have s:0<ps.length:=by omega
   obtain⟨m,w⟩:∃ m,(k+1) % ps.length=m:=⟨_,rfl⟩;have g:m<ps.length:=by rw [<- w];exact Nat.mod_lt _ s
   have C:sideP ps k=(nth ps k,nth ps m):=by rw [sideP,w]
   have b1:W.heap.size<=wr.heap.size:=a.size;have T:=qO W _ hB;have G:wr.cell? ⟨Bs,0,none⟩=some (qS (some ⟨b,o,none⟩) ps.length cap):=(a.cell (p:=⟨Bs,0,none⟩) hBs).trans hB;have E:=(a.cell (p:=⟨b,o+k*2,none⟩) (by show b<n0';omega)).trans (hc k hlt).1
   have V:=(a.cell (p:=⟨b,o+k*2+1,none⟩) (by show b<n0';omega)).trans (hc k hlt).2
   have I:=(a.cell (p:=⟨b,o+m*2,none⟩) (by show b<n0';omega)).trans (hc m g).1
   have R:=(a.cell (p:=⟨b,o+m*2+1,none⟩) (by show b<n0';omega)).trans (hc m g).2
   have q:J (upto f k) (wr.alloc (qC #[O qL (nth ps k).x,O qL (nth ps k).y] 36)).drew :=
    hJ _ _ _ none (hJ _ _ _ none t (World.grownBy_alloc _ _ none) (fun r e=>by cases e)) (Z4B _ none) (fun r e=>by cases e)
   obtain⟨fn,F,z,H,D,N⟩:=hY _ (f k) _ q (by rw [Zq];exact hlt)
   rw [hf k hlt,C] at D;dsimp only [encS] at D;have P:qW qL ((k:Int)+1)=(k:Int)+1:=zW2;have M:((k:Int)+1).tmod (ps.length:Int)=(m:Int):=by
    have:((k:Int)+1).tmod (ps.length:Int)=(((k+1) % ps.length:Nat):Int):=by
     rw [Int.tmod_eq_emod_of_nonneg (by omega)];rfl
    rw [this,w]
   have d:=qO wr _ E;have c:Below wr.heap.size wr (wr.alloc (qC #[O qL (nth ps k).x,O qL (nth ps k).y] 36)):=(qK _ wr).alloc (qN _) _;have f0:=(c.cell (p:=⟨Bs,0,none⟩) (qO wr _ G)).trans G;have f1:=(c.cell (p:=⟨b,o+k*2,none⟩) d).trans E;have f2:=(c.cell (p:=⟨b,o+k*2+1,none⟩) d).trans V;have f3:=(c.cell (p:=⟨b,o+m*2,none⟩) d).trans I;have f4:=(c.cell (p:=⟨b,o+m*2+1,none⟩) d).trans R;have X:¬ ps=[]:=by intro h;rw [h] at s;simp at s
   have Q:=qH hc;have L:=qH w;have U:=qH C;have S:=qH q;clear hc w C hB q;gi_wp2;refine Z0n (Zk _) 10 (by kernel_rfl) (by kernel_rfl) (by kernel_rfl) ?_
   simp only [List.take_succ_cons,List.take_zero,List.drop_succ_cons,List.drop_zero]
   iterate 10 (refine wpStill_step (fun K hK=>?_);go_simp;refine hK _ ?_;clear hK K)
   refine wpStill_nil ?_;gi_wp2;refine N.mono ?_;rintro e Z (⟨rfl,B,A⟩ | ⟨rfl,u⟩)
   ·gi_wp2
    go_roundw
    case rel=>exact⟨k+1,by omega,by simp,by rw [ZB];exact B,a.trans ((((qK n0' wr).alloc (by omega) _).drew).trans A)⟩
    case measure=>simp [intOf];omega
   ·gi_wp2
    refine bodyPost_ret (results_none rfl _ _ _) rfl ?_;exact⟨⟨_,rfl⟩,.inr ⟨_,⟨k+1,by omega,(ZB _ _).symm⟩,u⟩⟩
  ·obtain rfl:k=ps.length:=by omega
   gi_wp2;go_end0;exact⟨⟨_,rfl⟩,.inl ⟨_,rfl,t⟩⟩
set_option maxRecDepth 100000 in
theorem Z47 {α:Type} (n:Nat) (l Bs cap:Nat) (a:Option Addr) (J:List α->World->Prop) (W:World) (hB:W.cell? ⟨Bs,0,none⟩=some (qS a 0 cap)) (h0:J [] W) :
  CallsIn Fence.wide n Tryz.prog 117 #[.func (.yield l) #[] #[],qP (some ⟨Bs,0,none⟩)] W fun e W'=>(∃ v,e=qR v)/\J [] W':=by
 refine callsIn_of_wp Tryz.func117 rfl trivial ?_ rfl;simp only [Tryz.ntmps117,List.size_toArray,List.length_cons,List.length_nil,Nat.reduceAdd,Nat.reduceSub,Array.replicate_succ,Array.replicate_zero,List.push_toArray,List.append_toArray,List.nil_append,List.cons_append];gi_wp2
 gi_loopw [7] (fun i wr=>i=O qL 0/\J [] wr) (fun _ _=>0)
 case atStart=>exact⟨rfl,h0⟩
 case round =>
  obtain⟨rfl,b⟩:=hrel;gi_wp2;go_end0;exact⟨⟨_,rfl⟩,b⟩
theorem Z5C (a:Option Addr) (len cap:Nat) (w:World) :
  Calls Tryz.prog 67 #[qS a len cap] w fun e w'=>e=qR (.func (.func 117) #[] #[qP (some ⟨w.heap.size,0,none⟩)])/\w.alloc (qC #[qS a len cap] 23)=w':=by
 go_enter Tryz.func67,Tryz.ntmps67;go_wp2;go_ret;exact⟨rfl,rfl⟩
theorem Z3l {α:Type} (encA:α->Array Value) (f:Nat->α) (n:Nat) (hn:1<=n) (Bs n0:Nat) (sv:Value) (ps:List Pt) (w:World) (hBs:Bs<n0) (hn0:n0<=w.heap.size)
  (hc:w.cell? ⟨Bs,0,none⟩=some sv) (hI:Z7 n0 w sv ps) (hf:∀ i,i<ps.length->encA (f i)=encS (sideP ps i)) :
  SeqStopsK Fence.wide n Tryz.prog 117 #[qP (some ⟨Bs,0,none⟩)] encA (Below n0) (fun ys=>ys=upto f ps.length)
   (fun pre=>∃ k,k<=ps.length/\pre=upto f k) ps.length w:=fun l J Jx W hW hJ _ hY h0=>by
 have hc':=(hW.cell (p:=⟨Bs,0,none⟩) (by show Bs<_;omega)).trans hc
 have hsz:=hW.size;obtain⟨hl,a,cap,rfl,hcs⟩:=hI.below (hW.mono hn0);rcases hcs with rfl | ⟨b,o,rfl,hb,hcs⟩
 ·exact (Z47 n l Bs _ a J W hc' h0).mono fun e W' ⟨he,hj⟩=>⟨he,.inl ⟨_,rfl,hj⟩⟩
 ·exact Z9q encA f n hn W l Bs n0 n0 b o (ps.length+cap) ps hl hb hBs (by omega) hf J Jx hJ hY (qN _) hc' hcs h0
end
def combos:List Int->Nat->List (List Int)
 | _,0=>[[]]
 | [],_+1=>[]
 | x::xs,k+1=>(combos xs k).map (x::·)++combos xs (k+1)
def allTo (l:List Int) (n:Nat):List (List Int):=(List.range n).flatMap (combos l)
theorem Z1N (l:List Int) (n:Nat):allTo l (n+1)=allTo l n++combos l n:=by simp [allTo,List.range_succ]
theorem Z02 {s : List Int} : ∀ {l : List Int} {k : Nat}, s ∈ combos l k ↔ s.Sublist l /\ s.length = k
 | l, 0 => by
  simp only [combos,List.mem_singleton,List.length_eq_zero_iff];exact⟨fun h=>⟨by rw [h];exact List.nil_sublist _,h⟩,fun h=>h.2⟩
 | [], k + 1 => by
  simp only [combos,List.not_mem_nil,false_iff];rintro ⟨h1,h2⟩;rw [List.sublist_nil.1 h1] at h2;simp at h2
 | x :: xs, k + 1 => by
  simp only [combos,List.mem_append,List.mem_map];constructor
  ·rintro (⟨t,ht,rfl⟩ | h)
   ·obtain⟨h1,h2⟩:=Z02.1 ht
    exact⟨h1.cons_cons x,by simp [h2]⟩
   ·obtain⟨h1,h2⟩:=Z02.1 h
    exact⟨h1.cons x,h2⟩
  ·rintro ⟨h1,h2⟩
   rcases List.sublist_cons_iff.1 h1 with h | ⟨t,rfl,h⟩
   ·exact .inr (Z02.2 ⟨h,h2⟩)
   ·exact .inl ⟨t,Z02.2 ⟨h,by simpa using h2⟩,rfl⟩
theorem Z6k:∀ {l:List Int} {k:Nat},l.length<k->combos l k=[]
 | l, k, h => by
  rw [List.eq_nil_iff_forall_not_mem];intro s hs;obtain⟨h1,h2⟩:=Z02.1 hs;have:=h1.length_le;omega
theorem Z3D {l s:List Int} {n:Nat}:s ∈ allTo l n↔s.Sublist l/\s.length<n:=by
 simp only [allTo,List.mem_flatMap,List.mem_range,Z02];exact⟨fun ⟨k,h1,h2,h3⟩=>⟨h2,by omega⟩,fun ⟨h1,h2⟩=>⟨_,h2,h1,rfl⟩⟩
def lexB:List Int->List Int->Bool
 | [],_=>false
 | _::_,[]=>false
 | x::xs,y::ys=>if x=y then lexB xs ys else decide (x<y)
def betterB (a b:List Int):Bool:=if a.length=b.length then lexB a b else decide (a.length<b.length)
theorem Z1f : ∀ {l : List Int} {k : Nat}, l.Pairwise (· < ·) -> (combos l k).Pairwise fun a b => lexB a b = true
 | _,0,_=>by simp [combos]
 | [],_+1,_=>by simp [combos]
 | x :: xs, k + 1, h => by
  rw [List.pairwise_cons] at h;simp only [combos];rw [List.pairwise_append];refine⟨?_,Z1f h.2,?_⟩
  ·rw [List.pairwise_map]
   exact (Z1f h.2).imp fun h=>by simpa [lexB] using h
  ·intro a ha b hb
   obtain⟨t,ht,rfl⟩:=List.mem_map.1 ha;obtain⟨h1,h2⟩:=Z02.1 hb;cases b with
   | nil=>simp at h2
   | cons y ys =>
    have:=h.1 y (h1.subset (by simp))
    simp only [lexB];rw [if_neg (by omega)];exact decide_eq_true this
theorem Z31 {l:List Int} (h:l.Pairwise (·<·)):∀ n,(allTo l n).Pairwise fun a b=>betterB a b=true
 | 0=>by simp [allTo]
 | n + 1 => by
  rw [Z1N,List.pairwise_append];refine⟨Z31 h n,?_,?_⟩
  ·refine (Z1f h).imp_of_mem fun {a b} ha hb hab=>?_
   unfold betterB;rw [if_pos (by rw [(Z02.1 ha).2,(Z02.1 hb).2])];exact hab
  ·intro a ha b hb
   have h1:=(Z3D.1 ha).2;have h2:=(Z02.1 hb).2;unfold betterB;rw [if_neg (by omega)];exact decide_eq_true (by omega)
section
variable (lead:List Int->Int)
def farS (s:Int × List Int) (x:List Int):Int × List Int:=if s.1<lead x then (lead x,x) else s
def farL (L:List (List Int)):Int × List Int:=L.foldl (farS lead) (-1,[])
def IsBest (L:List (List Int)) (r:Int × List Int):Prop:=r.2 ∈ L/\r.1=lead r.2/\∀ x ∈ L,lead x<r.1\/(lead x=r.1/\(x=r.2\/betterB r.2 x=true))
theorem Z7P (h0 : ∀ x, 0 <= lead x) : ∀ (L : List (List Int)) (P : List (List Int)) (r : Int × List Int), (P ++ L).Pairwise (fun a b => betterB a b = true) -> (P = [] /\ r = (-1, []) \/ IsBest lead P r) -> L ≠ [] \/ P ≠ [] -> IsBest lead (P ++ L) (L.foldl (farS lead) r)
 | [], P, r, _, h, hn => by
  rcases h with⟨h,_⟩ | h
  ·subst h;simp at hn
  ·simpa using h
 | x :: L, P, r, hs, h, _ => by
  have:=Z7P h0 L (P++[x]) (farS lead r x) (by simpa using hs) (.inr ?_) (.inr (by simp))
  ·simpa using this
  ·unfold farS
   rcases h with⟨rfl,rfl⟩ | ⟨a,b,c⟩
   ·have:=h0 x
    rw [if_pos (by simp only;omega)]
    refine⟨by simp,rfl,fun y hy=>?_⟩
    obtain rfl:y=x:=by simpa using hy
    exact .inr ⟨rfl,.inl rfl⟩
   ·have f:=(List.pairwise_append.1 hs).2.2 r.2 a x (by simp)
    by_cases hc:r.1<lead x
    ·rw [if_pos hc]
     refine⟨by simp,rfl,fun y hy=>?_⟩
     rcases List.mem_append.1 hy with hy | hy
     ·have d:=c y hy
      left;simp only;omega
     ·obtain rfl:y=x:=by simpa using hy
      exact .inr ⟨rfl,.inl rfl⟩
    ·rw [if_neg hc]
     refine⟨List.mem_append.2 (.inl a),b,fun y hy=>?_⟩
     rcases List.mem_append.1 hy with hy | hy
     ·exact c y hy
     ·obtain rfl:y=x:=by simpa using hy
      rcases Int.lt_or_eq_of_le (Int.not_lt.1 hc) with e | e
      ·exact .inl e
      ·exact .inr ⟨e,.inr f⟩
theorem Zay {top:Int} (ht:∀ x,lead x<=top) {s:Int × List Int} (hs:s.1=top) (L:List (List Int)):L.foldl (farS lead) s=s:=by
 induction L with
 | nil=>rfl
 | cons x L ih =>
  have:farS lead s x=s:=by unfold farS;rw [if_neg];have:=ht x;omega
  rw [List.foldl_cons,this];exact ih
end
section
attribute [local go_sem] Oper.semAt_some
attribute [local irreducible] wpQuiet
open Go.RowKit Go.Shelf
def headOk (l:List Pt) (k:Nat):Prop:=Z3 (nth l k)=true/\(0<k->cmpP (nth l 0) (nth l k)<0)
def GoValid (l:List Pt):Prop:=1<=l.length/\l.length<=64/\(∀ k,k<l.length->headOk l k) /\
 (3<=l.length->∀ i,i<l.length->∀ k,k<l.length->nth l k≠(sideP l i).1->nth l k≠(sideP l i).2->0<Z5 (sideP l i).1 (sideP l i).2 (nth l k))
open Classical in
noncomputable def Zb (l:List Pt):Bool:=decide (GoValid l)
set_option maxRecDepth 100000 in
theorem Z4d (v:Value) (l:List Pt) (w:World) (hp:Z7 w.heap.size w v l) (hs:l.length<1\/64<l.length) :
  Calls Tryz.prog 63 #[v] w fun e w'=>e=qR (qB (Zb l))/\Below w.heap.size w w':=by
 have c:Zb l=false:=by simp only [Zb,decide_eq_false_iff_not];rintro ⟨j,h,_⟩;omega
 rw [c];clear c;obtain⟨i,a,f,rfl,g⟩:=hp;clear g;refine (callsIn_wide (n:=9)).1 ?_;refine callsIn_of_wp_marks Tryz.func63 rfl trivial ?_ rfl;simp only [Tryz.ntmps63,List.size_toArray,List.length_cons,List.length_nil,Nat.reduceAdd,Nat.reduceSub,Array.replicate_succ,Array.replicate_zero,List.push_toArray,List.append_toArray,List.nil_append,List.cons_append];refine wpIn_wide.2 ?_;rcases hs with hs | hs
 ·have d:decide ((l.length:Int)<1)=true:=by simp;omega
  have b:=qH hs;clear hs;go_wp2;exact⟨qB false,by simp [results,Tryz.f63,go_sem],rfl,zB2⟩
 ·have d:decide ((l.length:Int)<1)=false:=by simp;omega
  have d:decide (64<(l.length:Int))=true:=by simp;omega
  have b:=qH hs;clear hs;go_wp2;exact⟨qB false,by simp [results,Tryz.f63,go_sem],rfl,zB2⟩
theorem Boxed.below {W W':World} {B n:Nat} {t:TypeId} {v:Value} (h:Boxed W B t v) (hb:Below n W W') (hlt:B<n):Boxed W' B t v:=(hb.block B hlt).trans h
def Has (W:World) (B:Nat) (cs:Array Value) (t:TypeId):Prop:=W.heap[B]?=some (qC cs t (0,0))
theorem Has.lt {W:World} {B:Nat} {cs:Array Value} {t:TypeId} (h:Has W B cs t):B<W.heap.size:=(Array.getElem?_eq_some_iff.1 h).1
theorem Z0v {W W':World} {row:Option Nat} {B:Nat} {cs:Array Value} {t:TypeId} (h:Has W B cs t) (hg:W.grownBy W' row) (hrow:∀ r,row=some r->∃ o:Obj,W.heap[r]?=some o/\o.isCells=false):Has W' B cs t :=
 (hg.block B h.lt (fun e=>by obtain⟨o,ho,hc⟩:=hrow B e.symm;rw [show W.heap[B]?=_ from h] at ho;cases ho;cases hc)).trans h
theorem Has.below {W W':World} {B n:Nat} {cs:Array Value} {t:TypeId} (h:Has W B cs t) (hb:Below n W W') (hlt:B<n):Has W' B cs t:=(hb.block B hlt).trans h
theorem Has.new (W:World) (cs:Array Value) (t:TypeId):Has (W.alloc (qC cs t)) W.heap.size cs t:=World.alloc_heap_new W _
theorem Has.cell {W:World} {B:Nat} {cs:Array Value} {t:TypeId} (h:Has W B cs t) {i:Nat} {v:Value} (hi:cs[i]?=some v):W.cell? ⟨B,i,none⟩=some v:=by
 simp [World.cell?,show W.heap[B]?=_ from h,hi]
theorem cY {n:Nat} {A B:World} (h:Below n A B) {p:Addr} {v:Value} (e:A.cell? p=some v) (hp:p.block<n):B.cell? p=some v:=(h.cell hp).trans e
theorem cX (i:Nat) {W:World} {B:Nat} {cs:Array Value} {t:TypeId} (h:Has W B cs t) {v:Value} (hi:cs[i]?=some v):W.cell? ⟨B,i,none⟩=some v:=h.cell hi
def sideOk (l:List Pt) (s:Pt × Pt):Prop:=∀ k,k<l.length->nth l k≠s.1->nth l k≠s.2->0<Z5 s.1 s.2 (nth l k)
def okTo (l:List Pt) (a b:Pt) (k:Nat):Prop:=∀ j,j<k->nth l j≠a->nth l j≠b->0<Z5 a b (nth l j)
theorem Z9N {l:List Pt} {a b:Pt} {k:Nat} (h:okTo l a b k) (hk:nth l k=a\/nth l k=b):okTo l a b (k+1):=fun j hj h1 h2=>by
 by_cases e:j=k
 ·subst e;rcases hk with hk | hk
  ·exact absurd hk h1
  ·exact absurd hk h2
 ·exact h j (by omega) h1 h2
theorem Z9O {l:List Pt} {a b:Pt} {k:Nat} (h:okTo l a b k) (hk:0<Z5 a b (nth l k)):okTo l a b (k+1):=fun j hj h1 h2=>by
 by_cases e:j=k
 ·subst e;exact hk
 ·exact h j (by omega) h1 h2
theorem Zbw (px py ax ay bx by':Int):((px=ax/\py=ay)\/(px=ax/\¬ py=ay/\ax=bx/\py=by')\/(¬ px=ax/\px=bx/\py=by')) \/
  ((px=ax/\¬ py=ay/\ax=bx/\¬ py=by')\/(px=ax/\¬ py=ay/\¬ ax=bx)\/(¬ px=ax/\px=bx/\¬ py=by')\/(¬ px=ax/\¬ px=bx)):=by omega
theorem Pt.ne_of {a b:Pt} (h:¬ (a.x=b.x/\a.y=b.y)):a≠b:=fun e=>h (by rw [e];exact⟨rfl,rfl⟩)
theorem ZE {B:Nat} {W W':World} (h:Below W.heap.size W W'):KeepsFrom B W W' :=
 ⟨h.size,fun k _ _ hk _=>(h.block k (Array.getElem?_eq_some_iff.1 hk).1).trans hk⟩
theorem Z1I {α:Type} {f:Nat->α} {n:Nat} {x:α}:x ∈ upto f n↔∃ i,i<n/\f i=x:=by simp [upto]
abbrev PlS:={ s:Pt × Pt // Z3 s.1=true/\Z3 s.2=true }
theorem Z0i {l:List Pt} (h:∀ k,k<l.length->Z3 (nth l k)=true) (k:Nat):Z3 (nth l k)=true:=by
 by_cases hk:k<l.length
 ·exact h k hk
 ·have:nth l k=⟨0,0⟩:=by unfold nth;simp [List.getD_eq_getElem?_getD,List.getElem?_eq_none (by omega:l.length<=k)]
  rw [this];rfl
set_option maxRecDepth 100000 in
theorem Z5h (v : Value) (l : List Pt) (w : World) (hp : Z7 w.heap.size w v l) (h1 : 1 <= l.length) (h2 : l.length <= 64) :
  Calls Tryz.prog 63 #[v] w fun e w'=>e=qR (qB (Zb l))/\Below w.heap.size w w':=by
 obtain⟨hl,a,d,rfl,hc⟩:=hp;obtain⟨b,o,rfl,hb,hc⟩:∃ b o,a=some ⟨b,o,none⟩/\b<w.heap.size/\∀ j,j<l.length->w.cell? ⟨b,o+j*2,none⟩=some (O qL (nth l j).x)/\w.cell? ⟨b,o+j*2+1,none⟩=some (O qL (nth l j).y):=by
  rcases hc with rfl | h
  ·simp at h1
  ·exact h
 refine (callsIn_wide (n:=9)).1 ?_;refine callsIn_of_wp_marks Tryz.func63 rfl trivial ?_ rfl;simp only [Tryz.ntmps63,List.size_toArray,List.length_cons,List.length_nil,Nat.reduceAdd,Nat.reduceSub,Array.replicate_succ,Array.replicate_zero,List.push_toArray,List.append_toArray,List.nil_append,List.cons_append];refine wpIn_wide.2 ?_;have d1:decide ((l.length:Int)<1)=false:=by simp;omega
 have d2:decide (64<(l.length:Int))=false:=by simp;omega
 have H:=qH hc;clear hc;go_wp2
 go_loopw [19] (fun i wr=>∃ k:Nat,k<=l.length/\i=O qL k/\(∀ j,j<k->headOk l j) /\
  Boxed wr w.heap.size 23 (qS (some ⟨b,o,none⟩) l.length (l.length+d))/\Boxed wr (w.heap.size+1) 4 (qB false)/\Below w.heap.size w wr) (fun i _=>l.length-(intOf i).toNat)
 case atStart =>
  have bS:=Boxed.new w 23 (qS (some ⟨b,o,none⟩) l.length (l.length+d));have V:=Boxed.new (w.alloc (qC #[qS (some ⟨b,o,none⟩) l.length (l.length+d)] 23)) 4 (qB false);rw [World.size_alloc] at V;exact⟨0,Nat.zero_le _,rfl,fun j h=>by omega,bS.alloc _,V,zB2⟩
 case round =>
  obtain⟨k,hk,rfl,A,bS,V,N⟩:=hrel;by_cases F:k<l.length
  ·have hz := N.size
   have hsr:=V.lt;have c0:=bS.cell;have c1:=(N.cell (p:=⟨b,o+k*2,none⟩) hb).trans (H.out k F).1;have c2:=(N.cell (p:=⟨b,o+k*2+1,none⟩) hb).trans (H.out k F).2;have c3:=(N.cell (p:=⟨b,o+0*2,none⟩) hb).trans (H.out 0 (by omega)).1
   have c4:=(N.cell (p:=⟨b,o+0*2+1,none⟩) hb).trans (H.out 0 (by omega)).2
   simp only [Nat.zero_mul,Nat.add_zero] at c3 c4;have hB2:Below wr.heap.size wr (wr.alloc (qC #[O qL (nth l k).x,O qL (nth l k).y] 36)):=(qK _ wr).alloc (qN _) _;have g:=qH A;have bS':=qH bS;have M:=qH V;clear A bS V;have r0:=M.out.cell;have r1:=M.out.frozen;cases q:placeB (nth l k).x (nth l k).y
   ·have z:Zb l=false:=by
     simp only [Zb,decide_eq_false_iff_not];rintro ⟨_,_,h3,_⟩;have:=(h3 k F).1;rw [Z3,q] at this;cases this
    have HR:=qH z;clear z;go_wp2
    (refine Zg (by kernel_rfl) (by kernel_rfl) ?_;(iterate 4 (apply qw3;(case hw=>rfl);(case hval=>(intro w1 hw1 hcx;simp only [Oper.quietAt];go_simp;first | done | (first | (go_at_call 64;exact Low.calls hw1 (Z2x _ _ _ q))) | rfl | exact⟨rfl,rfl⟩));simp only [qJ,zq4,zr4,zs4]));(iterate 10 (apply Zr;(case hw=>rfl);simp only [qJ,zq4,zr4,zs4]));(iterate 1 (apply qw3;(case hw=>rfl);(case hval=>(intro w1 hw1 hcx;simp only [Oper.quietAt];go_simp;first | done | (first | (go_at_call 64;exact Low.calls hw1 (Z2x _ _ _ q))) | rfl | exact⟨rfl,rfl⟩));simp only [qJ,zq4,zr4,zs4]));refine wpQuiet_nil ?_;intro Z hw2)
    have t:=hw2.out.size;rw [World.size_alloc] at t;have B:Boxed Z (w.heap.size+1) 4 (qB false):=Boxed.below (M.out.alloc _) hw2.out (by rw [World.size_alloc];omega)
    have q0:=B.cell;have q1:=B.frozen;go_wp2;exact⟨qB false,by simp [results,Tryz.f63,go_sem,World.cell?_setCell_same' Z ⟨w.heap.size+1,0,none⟩ (qB false) (by rw [q0];rfl)],Zu HR.out.symm,((N.alloc (by omega) _).trans (hw2.out.mono (by rw [World.size_alloc];omega))).setCell (by simp) _⟩
   ·by_cases hk0:k=0
    ·subst hk0
     have dk:decide ((0:Int)<((0:Nat):Int))=false:=by simp
     go_wp2
     (refine Zg (by kernel_rfl) (by kernel_rfl) ?_;(iterate 7 (apply qw3;(case hw=>rfl);(case hval=>(intro w1 hw1 hcx;simp only [Oper.quietAt];go_simp;first | done | (first | (go_at_call 64;exact Low.calls hw1 (Z0r _ _ _ q))) | rfl | exact⟨rfl,rfl⟩));simp only [qJ,zq4,zr4,zs4]));(iterate 6 (apply Zr;(case hw=>rfl);simp only [qJ,zq4,zr4,zs4]));(iterate 2 (apply qw3;(case hw=>rfl);(case hval=>(intro w1 hw1 hcx;simp only [Oper.quietAt];go_simp;first | done | (first | (go_at_call 64;exact Low.calls hw1 (Z0r _ _ _ q))) | rfl | exact⟨rfl,rfl⟩));simp only [qJ,zq4,zr4,zs4]));refine wpQuiet_nil ?_;intro Z hw2)
     have t:=hw2.out.size;rw [World.size_alloc] at t;go_wp2;go_roundw
     case rel =>
      refine⟨1,by omega,rfl,fun j hj=>?_,Boxed.below (bS'.out.alloc _) hw2.out (by rw [World.size_alloc];omega),Boxed.below (M.out.alloc _) hw2.out (by rw [World.size_alloc];omega),(N.alloc (by omega) _).trans (hw2.out.mono (by rw [World.size_alloc];omega))⟩
      obtain rfl:j=0:=by omega
      exact⟨q,fun h=>by omega⟩
     case measure=>simp [intOf];omega
    ·have hk1:(0:Int)<(k:Int):=by omega
     have dk:decide (0<k)=true:=by simp;omega
     have hkn:0<k:=by omega
     have hl0:0<l.length:=by omega
     have hbl:=qO wr _ c1;have f0:=(hB2.cell (p:=⟨w.heap.size,0,none⟩) (qO wr _ c0)).trans c0;have f3:=(hB2.cell (p:=⟨b,o,none⟩) hbl).trans c3;have f4:=(hB2.cell (p:=⟨b,o+1,none⟩) hbl).trans c4;have g0:=Low.fact f0;have g3:=Low.fact f3;have g4:=Low.fact f4;by_cases hcmp:cmpV (nth l 0).x (nth l 0).y (nth l k).x (nth l k).y<0
     ·have dc:decide (0<=cmpV (nth l 0).x (nth l 0).y (nth l k).x (nth l k).y)=false:=by simp;omega
      have HC:=qH hcmp;clear hcmp;go_wp2
      (refine Zg (by kernel_rfl) (by kernel_rfl) ?_;(iterate 15 (apply qw3;(case hw=>rfl);(case hval=>(intro w1 hw1 hcx;simp only [Oper.quietAt];go_simp;first | done | (first | (go_at_call 64;exact Low.calls hw1 (Z0r _ _ _ q)) | (go_at_call 113;exact Low.calls hw1 (Z41 _ _ _ _ _))) | rfl | exact⟨rfl,rfl⟩));simp only [qJ,zq4,zr4,zs4]));refine wpQuiet_nil ?_;intro Z hw2)
      have t:=hw2.out.size;rw [World.size_alloc] at t;go_wp2;go_roundw
      case rel =>
       refine⟨k+1,by omega,by simp,fun j hj=>?_,Boxed.below (bS'.out.alloc _) hw2.out (by rw [World.size_alloc];omega),Boxed.below (M.out.alloc _) hw2.out (by rw [World.size_alloc];omega),(N.alloc (by omega) _).trans (hw2.out.mono (by rw [World.size_alloc];omega))⟩
       by_cases e:j=k
       ·subst e;exact⟨q,fun _=>HC.out⟩
       ·exact g.out j (by omega)
      case measure=>simp [intOf];omega
     ·have dc:decide (0<=cmpV (nth l 0).x (nth l 0).y (nth l k).x (nth l k).y)=true:=by simp;omega
      have z:Zb l=false:=by
       simp only [Zb,decide_eq_false_iff_not];rintro ⟨_,_,h3,_⟩;exact hcmp ((h3 k F).2 (by omega))
      have HR:=qH z;clear z hcmp;go_wp2
      (refine Zg (by kernel_rfl) (by kernel_rfl) ?_;(iterate 15 (apply qw3;(case hw=>rfl);(case hval=>(intro w1 hw1 hcx;simp only [Oper.quietAt];go_simp;first | done | (first | (go_at_call 64;exact Low.calls hw1 (Z0r _ _ _ q)) | (go_at_call 113;exact Low.calls hw1 (Z41 _ _ _ _ _))) | rfl | exact⟨rfl,rfl⟩));simp only [qJ,zq4,zr4,zs4]));refine wpQuiet_nil ?_;intro Z hw2)
      have t:=hw2.out.size;rw [World.size_alloc] at t;have B:Boxed Z (w.heap.size+1) 4 (qB false):=Boxed.below (M.out.alloc _) hw2.out (by rw [World.size_alloc];omega)
      have q0:=B.cell;have q1:=B.frozen;go_wp2;exact⟨qB false,by simp [results,Tryz.f63,go_sem,World.cell?_setCell_same' Z ⟨w.heap.size+1,0,none⟩ (qB false) (by rw [q0];rfl)],Zu HR.out.symm,((N.alloc (by omega) _).trans (hw2.out.mono (by rw [World.size_alloc];omega))).setCell (by simp) _⟩
  ·obtain rfl:k=l.length:=by omega
   have c0:=bS.cell;have r0:=V.cell;have r1:=V.frozen;have hz:=N.size;by_cases h3:l.length<3
   ·have d3:decide ((l.length:Int)<3)=true:=by simp;omega
    have z:Zb l=true:=by
     simp only [Zb,decide_eq_true_eq];exact⟨h1,h2,A,fun h=>by omega⟩
    have HR:=qH z;clear z A;go_wp2;exact⟨qB true,by simp [results,Tryz.f63,go_sem,World.cell?_setCell_same' wr ⟨w.heap.size+1,0,none⟩ (qB true) (by rw [r0];rfl)],Zu HR.out.symm,N.setCell (by simp) _⟩
   ·have d3 : decide ((l.length : Int) < 3) = false := by simp; omega
    have g:=qH A;clear A;go_wp2_with (go_at_call 67;refine (Z5C _ _ _ _).mono ?_;rintro e w' ⟨rfl,rfl⟩);have G:(wr.alloc (qC #[qS (some ⟨b,o,none⟩) l.length (l.length+d)] 23)).heap.size=wr.heap.size+1:=by simp
    have R:Below w.heap.size w (wr.alloc (qC #[qS (some ⟨b,o,none⟩) l.length (l.length+d)] 23)):=N.alloc hz _;have bN:=Boxed.new wr 23 (qS (some ⟨b,o,none⟩) l.length (l.length+d));have bS0:=bS.alloc (qC #[qS (some ⟨b,o,none⟩) l.length (l.length+d)] 23);have bR0:=V.alloc (qC #[qS (some ⟨b,o,none⟩) l.length (l.length+d)] 23);obtain⟨W0,hW0⟩:∃ W0,(wr.alloc (qC #[qS (some ⟨b,o,none⟩) l.length (l.length+d)] 23))=W0:=⟨_,rfl⟩;rw [hW0] at G R bN bS0 bR0 ⊢;clear hW0 bS V c0 r0 r1;have hI:Z7 (wr.heap.size+1) W0 (qS (some ⟨b,o,none⟩) l.length (l.length+d)) l :=
     Z7.mono (Z7.below R ⟨hl,_,d,rfl,Or.inr ⟨b,o,rfl,hb,H.out⟩⟩) (by omega)
    have q:∀ i,Z3 (sideP l i).1=true/\Z3 (sideP l i).2=true:=fun i=>⟨Z0i (fun k hk=>(g.out k hk).1) _,Z0i (fun k hk=>(g.out k hk).1) _⟩
    refine (wpIn_wide (n:=9)).1 ?_;refine wpIn_rangeFunc_ownH rfl (by omega) (gf:=117) (lb:=#[qP (some ⟨wr.heap.size,0,none⟩)]) rfl trivial (enters_of Tryz.func117 (by kernel_rfl) rfl)
     (Z3l (fun s:PlS=>encS s.1) (fun i=>⟨sideP l i,q i⟩) 8 (by omega) wr.heap.size (wr.heap.size+1) _ l _ (by omega) (by rw [G];omega) bN.cell hI (fun _ _=>rfl)) belowK_t (belowK_b (by rw [G];omega)) (qK _ _) (fun _=>rfl)
     (fun J W=>(Boxed W w.heap.size 23 (qS (some ⟨b,o,none⟩) l.length (l.length+d))/\Boxed W (w.heap.size+1) 4 (qB false))/\(Below w.heap.size W0 W/\∀ s ∈ J,sideOk l s.1))
     (fun c J W=>(Boxed W (w.heap.size+1) 4 (qB false)/\(c=.ret/\∃ s ∈ J,¬ sideOk l s.1))/\Below w.heap.size W0 W)
     (OwnFrom.and (OwnFrom.and (Own.from (boxed_own _ _ (fun _=>_)) _) (Own.from (boxed_own _ _ (fun _=>_)) _)) (OwnFrom.and (ownFrom_below (by rw [G];omega) (by rw [G];omega)) (ownFrom_pure _ _)))
     (fun c=>OwnFrom.and (OwnFrom.and (Own.from (boxed_own _ _ (fun _=>_)) _) (ownFrom_pure _ _)) (ownFrom_below (by rw [G];omega) (by rw [G];omega)))
     ⟨⟨bS0,bR0⟩,qK _ _,by simp⟩
     (fun x a' W=>∃ B1 B2,(Has W B1 #[O qL x.1.1.x,O qL x.1.1.y] 36/\Has W B2 #[O qL x.1.2.x,O qL x.1.2.y] 36)/\a'={ tmps:=#[qS (some ⟨b,o,none⟩) l.length (l.length+d),qP (some ⟨w.heap.size,0,none⟩),qP (some ⟨w.heap.size+1,0,none⟩),u3,u4,qP (some ⟨B1,0,none⟩),qP (some ⟨B2,0,none⟩),qD,qD,qS (some ⟨b,o,none⟩) l.length (l.length+d),O qL (l.length:Int),qB false,qB false,qS (some ⟨b,o,none⟩) l.length (l.length+d),O qL (l.length:Int),qB false,qB false,qS (some ⟨b,o,none⟩) l.length (l.length+d),O qL (l.length:Int),O qL (l.length:Int),qB false,u21,u22,u23,u24,u25,u26,u27,u28,u29,u30,u31,u32,u33,u34,u35,u36,u37,u38,u39,qS (some ⟨b,o,none⟩) l.length (l.length+d),O qL (l.length:Int),qB false,qS (some ⟨b,o,none⟩) l.length (l.length+d),.func (.func 117) #[] #[qP (some ⟨wr.heap.size,0,none⟩)],.agg #[O qL x.1.1.x,O qL x.1.1.y],.agg #[O qL x.1.2.x,O qL x.1.2.y],qD,qD,qD,qD,qD,qD,qD,qD,qD,qD,qD,qD,qD,qD,qD,qD,qD,qD,qD,qD,qD,qD],defers:=[] })
     (fun x a' _ X Y row hs hg z=>by obtain⟨B1,B2,⟨g1,g2⟩,g3⟩:=hs;exact⟨B1,B2,⟨Z0v g1 hg (fun r e=>(z r e).2),Z0v g2 hg (fun r e=>(z r e).2)⟩,g3⟩)
     ?assign ?body ?done ?stop
    case assign =>
     rintro ll J x W K ⟨⟨E,m⟩,f,C⟩ hK;unfold encS;gi_wp2;have hzW:=f.size;exact hK _ _ (((KeepsOthers.alloc _ _).trans (KeepsOthers.alloc _ _)).from _) (((qK _ W).alloc (by omega) _).alloc (by simp;omega) _)
      ⟨⟨(E.alloc _).alloc _,(m.alloc _).alloc _⟩,(f.alloc (by omega) _).alloc (by simp;omega) _,C⟩
      ⟨W.heap.size,W.heap.size+1,⟨Has.below (Has.new W _ _) ((qK (W.heap.size+1) _).alloc (by simp) _) (by omega),by have:=Has.new (W.alloc (qC #[O qL x.1.1.x,O qL x.1.1.y] 36)) #[O qL x.1.2.x,O qL x.1.2.y] 36;rwa [World.size_alloc] at this⟩,rfl⟩
    case body =>
     rintro ll J ⟨⟨⟨T,ay⟩,⟨U,u⟩⟩,hxx⟩ a' W hll ⟨r,z⟩ ⟨⟨E,m⟩,f,C⟩ ⟨B1,B2,⟨g1,g2⟩,rfl⟩ F
     dsimp only at g1 g2 ⊢;have pa:=Zt hxx.1;have pb:=Zt hxx.2;dsimp only at pa pb;obtain⟨S,hS⟩:∃ S:PlS,S=⟨(⟨T,ay⟩,⟨U,u⟩),hxx⟩:=⟨_,rfl⟩
     rw [<- hS];have HS:Hid (S.1=(⟨T,ay⟩,⟨U,u⟩)):=by show S.1=_;rw [hS]
     clear hS;have hzW:=f.size;have hBw:=R.trans f;have c0:=E.cell;have hll':=qH hll;have hr':=qH z;have hlt':=qH F;clear hll z F hxx;gi_wp2
     gi_loopw [49] (fun i wv=>∃ k:Nat,k<=l.length/\i=O qL k/\okTo l ⟨T,ay⟩ ⟨U,u⟩ k/\Below W.heap.size W wv) (fun i _=>l.length-(intOf i).toNat)
     case atStart=>exact⟨0,Nat.zero_le _,rfl,fun j h=>by omega,qK _ _⟩
     case round =>
      obtain⟨k,hk,rfl,hok,hv⟩:=hrel;by_cases hlk:k<l.length
      ·have hbv:=hBw.trans (hv.mono (by have:=hBw.size;omega))
       have c1:=(hbv.cell (p:=⟨b,o+k*2,none⟩) hb).trans (H.out k hlk).1;have c2:=(hbv.cell (p:=⟨b,o+k*2+1,none⟩) hb).trans (H.out k hlk).2;have pp:=Zt (g.out k hlk).1;obtain⟨px,py,hN⟩:∃ px py,nth l k=⟨px,py⟩:=⟨_,_,rfl⟩;rw [hN] at c1 c2 pp;dsimp only at c1 c2 pp;have HN:=qH hN;have I:=qH hok;have hp1':=qH C;have G1:=g1.below hv g1.lt;have G2:=g2.below hv g2.lt;have bRv:=Boxed.below m hv m.lt;have hzv:=hv.size;clear hN hok C;have hv2:Below wr.heap.size wr (wr.alloc (qC #[O qL px,O qL py] 36)):=(qK _ wr).alloc (qN _) _;have a1:=(hv2.cell (p:=⟨B1,0,none⟩) G1.lt).trans (G1.cell (i:=0) rfl);have a2:=(hv2.cell (p:=⟨B1,1,none⟩) G1.lt).trans (G1.cell (i:=1) rfl);have a3:=(hv2.cell (p:=⟨B2,0,none⟩) G2.lt).trans (G2.cell (i:=0) rfl);have a4:=(hv2.cell (p:=⟨B2,1,none⟩) G2.lt).trans (G2.cell (i:=1) rfl);have HG:=qH (And.intro G1 G2);have HR1:=qH (And.intro E m);have HRv:=qH bRv;clear G1 G2 E m bRv;rcases Zbw px py T ay U u with h | h
       ·rcases h with⟨rfl,rfl⟩ | ⟨rfl,hn,rfl,rfl⟩ | ⟨hn,rfl,rfl⟩
        all_goals
         gi_wp2;refine⟨trivial,?_⟩;gi_wp2;go_roundw
         case rel=>exact⟨k+1,by omega,by simp,Z9N I.out (by first | exact Or.inl HN.out | exact Or.inr HN.out),hv.alloc (by omega) _⟩
         case measure=>simp [intOf];omega
       ·have hne:nth l k≠⟨T,ay⟩/\nth l k≠⟨U,u⟩:=by
         rw [HN.out];constructor
         ·exact Pt.ne_of (by dsimp only;omega)
         ·exact Pt.ne_of (by dsimp only;omega)
        have hT:Z5 ⟨T,ay⟩ ⟨U,u⟩ (nth l k)=turnV T ay U u px py:=by rw [HN.out];rfl
        have HNE:=qH hne;have HT:=qH hT;clear hne hT;by_cases ht:turnV T ay U u px py<=0
        ·have dt:decide (turnV T ay U u px py<=0)=true:=by simpa using ht
         have Ht:=qH ht;clear ht;rcases h with⟨rfl,hn,rfl,hm⟩ | ⟨rfl,hn,hm⟩ | ⟨hn,rfl,hm⟩ | ⟨hn,hm⟩
         all_goals
          gi_wp2_with (refine⟨trivial,?_⟩;gi_at_call 66;refine (CallsIn.inRound ll (callsIn_wide.2 (Z1E _ _ _ _ _ _ _ (by omega) (by omega) (by omega) (by omega) (by omega) (by omega) (by omega) (by omega) (by omega) (by omega) (by omega) (by omega)))).mono ?_;rintro e Z ⟨rfl,L⟩;have B:=Boxed.below (HRv.out.alloc (qC #[O qL px,O qL py] 36)) L (by rw [World.size_alloc];have:=HRv.out.lt;omega);have q0:=B.cell;have q1:=B.frozen)
          have t:=L.size;rw [World.size_alloc] at t;have hW2:Below W.heap.size W Z:=(hv.alloc (by omega) _).trans (L.mono (by rw [World.size_alloc];omega))
          exact⟨(ZE hW2).trans ((KeepsOthers.setCell _ _ _).from _),⟨B.set _,rfl,S,by simp,fun h=>by
           rw [HS.out] at h;have h4:=h k hlk HNE.out.1 HNE.out.2;rw [HT.out] at h4;have:=Ht.out;omega⟩,(f.trans (hW2.mono (by omega))).setCell (by simp) _⟩
        ·have dt:decide (turnV T ay U u px py<=0)=false:=by simpa using ht
         have Ht:=qH ht;clear ht;rcases h with⟨rfl,hn,rfl,hm⟩ | ⟨rfl,hn,hm⟩ | ⟨hn,rfl,hm⟩ | ⟨hn,hm⟩
         all_goals
          gi_wp2_with (refine⟨trivial,?_⟩;gi_at_call 66;refine (CallsIn.inRound ll (callsIn_wide.2 (Z1E _ _ _ _ _ _ _ (by omega) (by omega) (by omega) (by omega) (by omega) (by omega) (by omega) (by omega) (by omega) (by omega) (by omega) (by omega)))).mono ?_;rintro e Z ⟨rfl,L⟩)
          have t:=L.size;rw [World.size_alloc] at t;go_roundw
          case rel=>exact⟨k+1,by omega,by simp,Z9O I.out (by rw [HT.out];have:=Ht.out;omega),(hv.alloc (by omega) _).trans (L.mono (by rw [World.size_alloc];omega))⟩
          case measure=>simp [intOf];omega
      ·have P:=qH hv
       have I:Hid (sideOk l S.1):=by show sideOk l S.1;rw [HS.out];intro j hj;exact hok j (by omega)
       have hp1':=qH C;clear hok C;obtain rfl:k=l.length:=by omega
       gi_wp2;exact⟨ZE P.out,P.out.mono (by omega),⟨Boxed.below E P.out E.lt,Boxed.below m P.out m.lt⟩,f.trans (P.out.mono (by omega)),fun s hs=>by
        rcases List.mem_append.1 hs with hs | hs
        ·exact hp1'.out s hs
        ·obtain rfl:s=S:=by simpa using hs
         exact I.out⟩
    case done =>
     rintro D ys W hD rfl ⟨⟨E,m⟩,f,C⟩ hK;have z:Zb l=true:=by
      simp only [Zb,decide_eq_true_eq];exact⟨h1,h2,g.out,fun _ i hi=>C ⟨sideP l i,q i⟩ (Z1I.2 ⟨i,hi,rfl⟩)⟩
     have HR:=qH z;have hzW:=f.size;clear z C;have q0:=m.cell;have q1:=m.frozen;have hK':=(KeepsOthers.setCell W ⟨w.heap.size+1,0,none⟩ (qB true)).same D _ hK rfl;have Q:=cell_kept (World.cell?_setCell_same' W ⟨w.heap.size+1,0,none⟩ (qB true) (by rw [q0];rfl)) (grownBy_putObj' _ D (.deferred none)) (fun r e=>by cases e;exact⟨_,hK',rfl⟩)
     have HK:=qH hK';have HC:=qH Q;clear hK' Q;go_wp2;refine⟨by simp,.inl ⟨_,_,rfl,run_takeDeferred HK.out,?_⟩⟩
     refine⟨qB true,by simp [results,Tryz.f63,go_sem,HC.out],Zu HR.out.symm,?_⟩
     exact ((R.trans f).setCell (p:=⟨w.heap.size+1,0,none⟩) (by simp) _).trans (belowK_b (w:=w) (qN _) _ D _ _ (by omega) HK.out rfl rfl)
    case stop =>
     rintro D c J W hD ⟨k2,hk2,rfl⟩ ⟨⟨m,rfl,s,hs,hns⟩,f⟩ hK;have z:Zb l=false:=by
      simp only [Zb,decide_eq_false_iff_not];rintro ⟨_,_,_,h4⟩;obtain⟨i,hi,rfl⟩:=Z1I.1 hs;exact hns (h4 (by omega) i (by omega))
     have HR:=qH z;have hzW:=f.size;clear z hns hs;have Q:=cell_kept m.cell (grownBy_putObj' _ D (.deferred none)) (fun r e=>by cases e;exact⟨_,hK,rfl⟩)
     have HK:=qH hK;have HC:=qH Q;clear hK Q;refine wpIn_wide.2 ?_;go_wp2;refine⟨by simp,.inl ⟨_,_,rfl,run_takeDeferred HK.out,?_⟩⟩
     refine⟨qB false,by simp [results,Tryz.f63,go_sem,HC.out],Zu HR.out.symm,?_⟩
     exact (R.trans f).trans (belowK_b (w:=w) (qN _) _ D _ _ (by omega) HK.out rfl rfl)
theorem Zs (v:Value) (l:List Pt) (w:World) (hp:Z7 w.heap.size w v l) :
  Calls Tryz.prog 63 #[v] w fun e w'=>e=qR (qB (Zb l))/\Below w.heap.size w w':=by
 by_cases h:1<=l.length/\l.length<=64
 ·exact Z5h v l w hp h.1 h.2
 ·exact Z4d v l w hp (by omega)
end
section
attribute [local irreducible] wpQuiet
open Go.RowKit
theorem Zh {W:World} {B:Nat} {m:Msn} {vw vh vr:Value} {T:TypeId} (H:Has W B (Zc m vw vh vr) T):W.cell? ⟨B,0,none⟩=some vw/\W.cell? ⟨B,1,none⟩=some vh/\W.cell? ⟨B,2,none⟩=some (O qL m.start)/\W.cell? ⟨B,3,none⟩=some vr/\W.cell? ⟨B,4,none⟩=some (O qL m.speed)/\W.cell? ⟨B,5,none⟩=some (O qL m.part)/\W.cell? ⟨B,6,none⟩=some (O qL m.flow)/\W.cell? ⟨B,7,none⟩=some (O qL m.idle)/\W.cell? ⟨B,8,none⟩=some (O qL m.drive)/\W.cell? ⟨B,9,none⟩=some (O qL m.battery)/\W.cell? ⟨B,10,none⟩=some (O qL m.deadline) :=
 ⟨H.cell (i:=0) rfl,H.cell (i:=1) rfl,H.cell (i:=2) rfl,H.cell (i:=3) rfl,H.cell (i:=4) rfl,H.cell (i:=5) rfl,H.cell (i:=6) rfl,H.cell (i:=7) rfl,H.cell (i:=8) rfl,H.cell (i:=9) rfl,H.cell (i:=10) rfl⟩
theorem Z57 {W:World} {B:Nat} {m:Msn} {vw vh vr:Value} {T:TypeId} (H:Has W B (Zc m vw vh vr) T):(∀ w1,Low W w1->w1.cell? ⟨B,0,none⟩=some vw)/\(∀ w1,Low W w1->w1.cell? ⟨B,1,none⟩=some vh)/\(∀ w1,Low W w1->w1.cell? ⟨B,2,none⟩=some (O qL m.start))/\(∀ w1,Low W w1->w1.cell? ⟨B,3,none⟩=some vr)/\(∀ w1,Low W w1->w1.cell? ⟨B,4,none⟩=some (O qL m.speed))/\(∀ w1,Low W w1->w1.cell? ⟨B,5,none⟩=some (O qL m.part))/\(∀ w1,Low W w1->w1.cell? ⟨B,6,none⟩=some (O qL m.flow))/\(∀ w1,Low W w1->w1.cell? ⟨B,7,none⟩=some (O qL m.idle))/\(∀ w1,Low W w1->w1.cell? ⟨B,8,none⟩=some (O qL m.drive))/\(∀ w1,Low W w1->w1.cell? ⟨B,9,none⟩=some (O qL m.battery))/\(∀ w1,Low W w1->w1.cell? ⟨B,10,none⟩=some (O qL m.deadline)) :=
 ⟨Low.fact (H.cell (i:=0) rfl),Low.fact (H.cell (i:=1) rfl),Low.fact (H.cell (i:=2) rfl),Low.fact (H.cell (i:=3) rfl),Low.fact (H.cell (i:=4) rfl),Low.fact (H.cell (i:=5) rfl),Low.fact (H.cell (i:=6) rfl),Low.fact (H.cell (i:=7) rfl),Low.fact (H.cell (i:=8) rfl),Low.fact (H.cell (i:=9) rfl),Low.fact (H.cell (i:=10) rfl)⟩
theorem Z0d (a b:Int) (w:World) (ha:0<=a) (ha':a<=1000000000000) (hb:1<=b) (hb':b<=1000000000000) :
  Calls Tryz.prog 110 #[O qL a,O qL b] w fun e w'=>e=qR (O qL (cdiv a b))/\Below w.heap.size w w':=by
 have e:ceilV a b=cdiv a b:=by
  have:badQ a b=false:=by simp [badQ,Z7j (n:=a) (by omega) ha',Z7j (n:=b) (by omega) hb'];omega
  simp [ceilV,this]
 rw [<- e];clear e;go_enter Tryz.func110,Tryz.ntmps110;go_wp2_with (go_at_call 156;refine (Zca _ _ _).mono ?_;rintro e f ⟨rfl,d⟩;have c:=d.size;try simp at c)
 go_ret;exact⟨rfl,zB2⟩
theorem Z8o (s:Int) (w:World) (h1:0<=s) (h2:s<=1000000000000000000) :
  Calls Tryz.prog 121 #[O qL s] w fun e w'=>e=qR (O qL (rootUp s))/\w=w':=by
 have b:=Z29 (m:=s.toNat) (n:=1000000000) (by omega)
 have hs:=(Z07 s.toNat).1;have a:qW qL ((isqrt s.toNat:Int)*isqrt s.toNat)=(isqrt s.toNat:Int)*isqrt s.toNat:=IntWalk.i64_in _ (by
  have:(isqrt s.toNat:Int)*isqrt s.toNat=((isqrt s.toNat*isqrt s.toNat:Nat):Int):=by simp
  omega)
 clear hs;unfold rootUp;by_cases hlt:(isqrt s.toNat:Int)*isqrt s.toNat<s
 ·rw [if_pos hlt]
  go_enter Tryz.func121,Tryz.ntmps121;go_wp2_with (go_at_call 160;refine (Z5K _ _ h1 h2).mono ?_;rintro e w' ⟨rfl,rfl⟩);go_ret;exact⟨rfl,rfl⟩
 ·rw [if_neg hlt]
  have d:decide ((isqrt s.toNat:Int)*isqrt s.toNat<s)=false:=by simpa using hlt
  clear hlt;go_enter Tryz.func121,Tryz.ntmps121;go_wp2_with (go_at_call 160;refine (Z5K _ _ h1 h2).mono ?_;rintro e w' ⟨rfl,rfl⟩);go_ret;exact⟨rfl,rfl⟩
theorem Z4s (ax ay bx by':Int) (w:World) (a1:-300000<=ax) (a2:ax<=300000) (a3:-300000<=ay) (a4:ay<=300000) (b1:-300000<=bx) (b2:bx<=300000) (b3:-300000<=by') (b4:by'<=300000) :
  Calls Tryz.prog 73 #[.agg #[O qL ax,O qL ay],.agg #[O qL bx,O qL by']] w fun e w'=>e=qR (O qL (distV ax ay bx by'))/\Below w.heap.size w w':=by
 have f:=sq_bd (a:=ax-bx) (m:=600000) (by omega) (by omega)
 have c:=sq_bd (a:=ay-by') (m:=600000) (by omega) (by omega)
 have g:qW qL ((ax-bx)*(ax-bx))=(ax-bx)*(ax-bx):=zW2;have i:qW qL ((ay-by')*(ay-by'))=(ay-by')*(ay-by'):=zW2
 have h:qW qL ((ax-bx)*(ax-bx)+(ay-by')*(ay-by'))=(ax-bx)*(ax-bx)+(ay-by')*(ay-by'):=zW2
 have d:0<=(ax-bx)*(ax-bx)+(ay-by')*(ay-by'):=by omega
 have b:(ax-bx)*(ax-bx)+(ay-by')*(ay-by')<=1000000000000000000:=by omega
 clear f c;unfold distV;go_enter Tryz.func73,Tryz.ntmps73;go_wp2_with (go_at_call 121;refine (Z8o _ _ d b).mono ?_;rintro e w' ⟨rfl,rfl⟩);go_ret;exact⟨rfl,zB2⟩
theorem Z8p (m:Msn) (vw vh vr:Value) (n:Int) (w:World) (h1:0<=n) (h2:n<=900000) (h3:1<=m.speed) (h4:m.speed<=20000) :
  Calls Tryz.prog 120 #[.agg (Zc m vw vh vr),O qL n] w fun e w'=>e=qR (O qL (lastsV m.speed n))/\Below w.heap.size w w':=by
 have e:lastsV m.speed n=cdiv (n*100) m.speed:=by rw [lastsV,Int.mul_comm]
 have p:qW qL (n*100)=n*100:=zW2;rw [e];clear e;unfold Zc;go_enter Tryz.func120,Tryz.ntmps120;go_wp2_with (go_at_call 119;refine (Z6G _ _ _ (by omega) (by omega) (by omega) (by omega) (by omega)).mono ?_;rintro e w' ⟨rfl,rfl⟩)
 go_ret;exact⟨rfl,zB2⟩
theorem Z3v (m:Msn) (vw vh vr:Value) (n:Int) (w:World) (h1:0<=n) (h2:n<=900000) (h3:1<=m.speed) (h4:m.speed<=20000) (p1:0<=m.part) (p2:m.part<=500) (f1:0<=m.flow) (f2:m.flow<=5000) :
  Calls Tryz.prog 72 #[.agg (Zc m vw vh vr),O qL n] w fun e w'=>e=qR (O qL (growthV m.speed m.part m.flow n))/\Below w.heap.size w w':=by
 obtain⟨i,A,h,k,j,z⟩:=Z14 h1 h2 h3 p1 p2 f1 f2;have p:qW qL (n*m.part)=n*m.part:=zW2;have q:qW qL (lastsV m.speed n*m.flow)=lastsV m.speed n*m.flow:=zW2;have d:=Z0u (a:=n*m.part) (b:=1000) i (by omega)
 have c:=Z0u (a:=lastsV m.speed n*m.flow) (b:=100) h (by omega)
 have r:qW qL (cdiv (n*m.part) 1000+cdiv (lastsV m.speed n*m.flow) 100)=cdiv (n*m.part) 1000+cdiv (lastsV m.speed n*m.flow) 100:=zW2;clear d c;unfold growthV;obtain⟨l,d,c,x,y,s,t,v,o,u,f⟩:=Z57 (Has.new w (Zc m vw vh vr) 26);have g:∀ w1,Calls Tryz.prog 120 #[.agg (Zc m vw vh vr),O qL n] w1 fun e w'=>e=qR (O qL (lastsV m.speed n))/\Below w1.heap.size w1 w':=fun w1=>Z8p m vw vh vr n w1 h1 h2 h3 h4
 unfold Zc at *;go_enter Tryz.func72,Tryz.ntmps72;go_wp2_with (go_at_call 119;refine (Z6G _ _ _ (by omega) (by omega) (by omega) (by omega) (by omega)).mono ?_;rintro e w' ⟨rfl,rfl⟩)
 (refine Zg (by kernel_rfl) (by kernel_rfl) ?_;(iterate 10 (apply qw3;(case hw=>rfl);(case hval=>(intro w1 hw1 hcx;simp only [Oper.quietAt];go_simp;first | done | (first | (go_at_call 120;exact Low.calls hw1 (g _)) | (go_at_call 119;exact Low.calls_same hw1 (Z6G _ _ _ (by omega) (by omega) (by omega) (by omega) (by omega)))) | rfl | exact⟨rfl,rfl⟩));simp only [qJ,zq4,zr4,zs4]));refine wpQuiet_nil ?_;intro w2 hw2)
 go_wp2;go_ret;exact⟨rfl,zB2⟩
end
section
attribute [local irreducible] wpQuiet
open Go.RowKit Go.Shelf
theorem Z0K (ax ay bx by':Int):cmpV ax ay bx by'<0↔ax<bx\/ax=bx/\ay<by':=by
 unfold cmpV orI cmpI
 repeat' split
 all_goals omega
def lessB (ax ay bx by':Int):Bool:=decide (cmpV ax ay bx by'<0)
theorem Z5M (ax ay bx by':Int) (w:World) :
  Calls Tryz.prog 70 #[.agg #[O qL ax,O qL ay],.agg #[O qL bx,O qL by']] w fun e w'=>e=qR (qB (lessB ax ay bx by'))/\Below w.heap.size w w':=by
 rcases Int.lt_trichotomy ax bx with h | rfl | h
 ·have e:lessB ax ay bx by'=true:=by simp only [lessB,decide_eq_true_eq,Z0K];omega
  rw [e];clear e;go_enter Tryz.func70,Tryz.ntmps70;go_wp2;go_ret;exact⟨rfl,zB2⟩
 ·by_cases h2:ay<by'
  ·have e:lessB ax ay ax by'=true:=by simp only [lessB,decide_eq_true_eq,Z0K];exact Or.inr ⟨trivial,h2⟩
   rw [e];clear e;go_enter Tryz.func70,Tryz.ntmps70;go_wp2;go_ret;exact⟨rfl,zB2⟩
  ·have e:lessB ax ay ax by'=false:=by simp only [lessB,decide_eq_false_iff_not,Z0K];rintro (h | ⟨_,h⟩) <;> omega
   have d:decide (ay<by')=false:=by simpa using h2
   rw [e];clear e;go_enter Tryz.func70,Tryz.ntmps70;go_wp2;go_ret;exact⟨rfl,zB2⟩
 ·have e:lessB ax ay bx by'=false:=by simp only [lessB,decide_eq_false_iff_not,Z0K];omega
  have d:decide (ax<bx)=false:=by simp;omega
  have a:(ax == bx)=false:=by simp;omega
  rw [e];clear e;go_enter Tryz.func70,Tryz.ntmps70;go_wp2;go_ret;exact⟨rfl,zB2⟩
theorem Z6g (ax ay bx by' cx cy:Int) (w:World) (a1:-1000000<=ax) (a2:ax<=1000000) (a3:-1000000<=ay) (a4:ay<=1000000)
  (b1:-1000000<=bx) (b2:bx<=1000000) (b3:-1000000<=by') (b4:by'<=1000000) (c1:-1000000<=cx) (c2:cx<=1000000) (c3:-1000000<=cy) (c4:cy<=1000000) :
  Calls Tryz.prog 71 #[.agg #[O qL ax,O qL ay],.agg #[O qL bx,O qL by'],.agg #[O qL cx,O qL cy]] w fun e w'=>e=qR (O qL (turnV ax ay bx by' cx cy))/\Below w.heap.size w w':=by
 have p:=ZH (a:=bx-ax) (b:=cy-ay) (m:=2000000) (n:=2000000) (by omega) (by omega) (by omega) (by omega)
 have q:=ZH (a:=by'-ay) (b:=cx-ax) (m:=2000000) (n:=2000000) (by omega) (by omega) (by omega) (by omega)
 have c:qW qL ((bx-ax)*(cy-ay))=(bx-ax)*(cy-ay):=zW2;have f:qW qL ((by'-ay)*(cx-ax))=(by'-ay)*(cx-ax):=zW2
 have d:qW qL ((bx-ax)*(cy-ay)-(by'-ay)*(cx-ax))=(bx-ax)*(cy-ay)-(by'-ay)*(cx-ax):=zW2
 clear p q;unfold turnV;go_enter Tryz.func71,Tryz.ntmps71;go_wp2;go_ret;exact⟨rfl,zB2⟩
def RefValid (l:List Pt):Prop:=1<=l.length/\l.length<=64/\(∀ k,k<l.length->Z3 (nth l k)=true)/\(∀ k,1<=k->k<l.length->cmpP (nth l 0) (nth l k)<0) /\
 (2<l.length->∀ i,i<l.length->∀ k,k<l.length->k≠i->k≠(i+1) % l.length->0<Z5 (nth l i) (nth l ((i+1) % l.length)) (nth l k))
open Classical in
noncomputable def refValid (l:List Pt):Bool:=decide (RefValid l)
def lessTo (l:List Pt) (k:Nat):Prop:=∀ j,1<=j->j<k->cmpP (nth l 0) (nth l j)<0
def leftTo (l:List Pt) (i k:Nat):Prop:=∀ j,j<k->j≠i->j≠(i+1) % l.length->0<Z5 (nth l i) (nth l ((i+1) % l.length)) (nth l j)
theorem Z6F (v:Value) (l:List Pt) (w:World) (hp:Z7 w.heap.size w v l) (hs:l.length<1\/64<l.length) :
  Calls Tryz.prog 30 #[v] w fun e w'=>e=qR (qB (refValid l))/\Below w.heap.size w w':=by
 have c:refValid l=false:=by simp only [refValid,decide_eq_false_iff_not];rintro ⟨j,h,_⟩;omega
 rw [c];clear c;obtain⟨i,a,f,rfl,g⟩:=hp;clear g;rcases hs with hs | hs
 ·have d:decide ((l.length:Int)<1)=true:=by simp;omega
  have b:=qH hs;clear hs;go_enter Tryz.func30,Tryz.ntmps30;go_wp2;go_ret;exact⟨rfl,zB2⟩
 ·have d:decide ((l.length:Int)<1)=false:=by simp;omega
  have d:decide (64<(l.length:Int))=true:=by simp;omega
  have b:=qH hs;clear hs;go_enter Tryz.func30,Tryz.ntmps30;go_wp2;go_ret;exact⟨rfl,zB2⟩
set_option maxRecDepth 100000 in
theorem Z8n (v : Value) (l : List Pt) (w : World) (hp : Z7 w.heap.size w v l) (h1 : 1 <= l.length) (h2 : l.length <= 64) :
  Calls Tryz.prog 30 #[v] w fun e w'=>e=qR (qB (refValid l))/\Below w.heap.size w w':=by
 have HP:=qH (fun q hlow=>Z8w v l q ((hp.below hlow).mono hlow.size):∀ q,Below w.heap.size w q->_)
 obtain⟨hl,a,cap,rfl,Q⟩:=hp;obtain⟨b,o,rfl,z,Q⟩:∃ b o,a=some ⟨b,o,none⟩/\b<w.heap.size/\∀ j,j<l.length->w.cell? ⟨b,o+j*2,none⟩=some (O qL (nth l j).x)/\w.cell? ⟨b,o+j*2+1,none⟩=some (O qL (nth l j).y):=by
  rcases Q with rfl | h
  ·simp at h1
  ·exact h
 have d1:decide ((l.length:Int)<1)=false:=by simp;omega
 have d2:decide (64<(l.length:Int))=false:=by simp;omega
 have g:=qH Q;have I:0<l.length:=by omega
 have hne:¬ l=[]:=by intro h;rw [h] at I;simp at I
 clear Q;cases hap:allPl l
 ·have u:refValid l=false:=by
   simp only [refValid,decide_eq_false_iff_not];rintro ⟨_,_,K,_⟩;simp only [allPl,decide_eq_false_iff_not] at hap;exact hap K
  have D:=qH u;clear u;go_enter Tryz.func30,Tryz.ntmps30;go_wp2_with (go_at_call 69;refine (HP.out _ (qK _ _)).mono ?_;rintro e q ⟨rfl,C⟩;have J:=C.size;try simp at J)
  go_ret;exact⟨Zu D.out.symm,zB2⟩
 ·have L : ∀ k, k < l.length -> Z3 (nth l k) = true := by simpa only [allPl, decide_eq_true_eq] using hap
  have A:=qH L;clear L;go_enter Tryz.func30,Tryz.ntmps30;go_wp2_with (go_at_call 69;refine (HP.out _ (qK _ _)).mono ?_;rintro e q ⟨rfl,C⟩;have J:=C.size;try simp at J)
  go_loopw [4] (fun i wr=>∃ k:Nat,1<=k/\k<=l.length/\i=O qL k/\lessTo l k/\Below w.heap.size w wr) (fun i _=>l.length-(intOf i).toNat)
  case atStart=>exact⟨1,by omega,by omega,rfl,fun j h h'=>by omega,C⟩
  case round =>
   obtain⟨k,T,S,rfl,E,H⟩:=hrel;have hz:=H.size;by_cases hlt:k<l.length
   ·have X:=Low.fact ((H.cell (p:=⟨b,o+k*2,none⟩) z).trans (g.out k hlt).1)
    have c2:=Low.fact ((H.cell (p:=⟨b,o+k*2+1,none⟩) z).trans (g.out k hlt).2);have W:=Low.fact ((H.cell (p:=⟨b,o+0*2,none⟩) z).trans (g.out 0 (by omega)).1)
    have V:=Low.fact ((H.cell (p:=⟨b,o+0*2+1,none⟩) z).trans (g.out 0 (by omega)).2)
    simp only [Nat.zero_mul,Nat.add_zero] at W V;have r:=qH E;clear E;cases hls2:lessB (nth l 0).x (nth l 0).y (nth l k).x (nth l k).y
    ·have u:refValid l=false:=by
      simp only [refValid,decide_eq_false_iff_not];rintro ⟨_,_,_,h4,_⟩;have:=h4 k T hlt;simp only [lessB,decide_eq_false_iff_not] at hls2;exact hls2 this
     have D:=qH u;clear u;go_wp2
     (refine Zg (by kernel_rfl) (by kernel_rfl) ?_;(iterate 9 (apply qw3;(case hw=>rfl);(case hval=>(intro q c hcx;simp only [Oper.quietAt];go_simp;first | done | (first | (go_at_call 70;exact Low.calls c (Z5M _ _ _ _ _))) | rfl | exact⟨rfl,rfl⟩));simp only [qJ,zq4,zr4,zs4]));refine wpQuiet_nil ?_;intro w2 d)
     go_wp2;go_ret;exact⟨Zu D.out.symm,H.trans (d.out.mono (by omega))⟩
    ·have N:Hid (cmpP (nth l 0) (nth l k)<0):=by simp only [lessB,decide_eq_true_eq] at hls2;exact hls2
     go_wp2
     (refine Zg (by kernel_rfl) (by kernel_rfl) ?_;(iterate 9 (apply qw3;(case hw=>rfl);(case hval=>(intro q c hcx;simp only [Oper.quietAt];go_simp;first | done | (first | (go_at_call 70;exact Low.calls c (Z5M _ _ _ _ _))) | rfl | exact⟨rfl,rfl⟩));simp only [qJ,zq4,zr4,zs4]));refine wpQuiet_nil ?_;intro w2 d)
     go_wp2;go_roundw
     case rel =>
      refine⟨k+1,by omega,by omega,by simp,fun j hj1 hj=>?_,H.trans (d.out.mono (by omega))⟩
      by_cases e:j=k
      ·subst e;exact N.out
      ·exact r.out j hj1 (by omega)
     case measure=>simp [intOf];omega
   ·obtain rfl:k=l.length:=by omega
    have r:=qH E;clear E;go_wp2
    go_loopw [5] (fun i wq=>∃ i0:Nat,i0<=l.length/\i=O qL i0/\(2<l.length->∀ j,j<i0->leftTo l j l.length)/\Below w.heap.size w wq) (fun i _=>l.length-(intOf i).toNat)
    case atStart=>exact⟨0,Nat.zero_le _,rfl,fun _ j h=>by omega,H⟩
    case round =>
     obtain⟨i,hi,rfl,M,B⟩:=hrel;have F:=qH M;clear M;by_cases hend:i=l.length\/l.length<=2
     ·have u:refValid l=true:=by
       simp only [refValid,decide_eq_true_eq];exact⟨h1,h2,A.out,fun k a b=>r.out k a b,fun K i' hi' k S=>F.out K i' (by omega) k S⟩
      have D:=qH u;clear u;rcases hend with rfl | K
      ·go_wp2
       go_ret;exact⟨Zu D.out.symm,B⟩
      ·by_cases s:i<l.length
       ·have Y:decide (2<(l.length:Int))=false:=by simp;omega
        have d4:decide (2<l.length)=false:=by simp;omega
        go_wp2;go_ret;exact⟨Zu D.out.symm,B⟩
       ·go_wp2
        go_ret;exact⟨Zu D.out.symm,B⟩
     ·have s:i<l.length:=by omega
      have K:2<l.length:=by omega
      have Y:decide (2<(l.length:Int))=true:=by simp;omega
      obtain⟨m,R⟩:∃ m,(i+1) % l.length=m:=⟨_,rfl⟩;have t:m<l.length:=by rw [<- R];exact Nat.mod_lt _ I
      have c:qW qL ((i:Int)+1)=(i:Int)+1:=zW2;have d:((i:Int)+1).tmod (l.length:Int)=(m:Int):=by
       have:((i:Int)+1).tmod (l.length:Int)=(((i+1) % l.length:Nat):Int):=by
        rw [Int.tmod_eq_emod_of_nonneg (by omega)];rfl
       rw [this,R]
      have P:=qH R;have pi:=Zt (A.out i s);have pm:=Zt (A.out m t);clear R hend;obtain⟨U,rfl⟩:∃ U:World,U=wr:=⟨_,rfl⟩;go_wp2
      go_loopw [6] (fun kk wv=>∃ k:Nat,k<=l.length/\kk=O qL k/\leftTo l i k/\Below w.heap.size w wv) (fun kk _=>l.length-(intOf kk).toNat)
      case atStart=>exact⟨0,Nat.zero_le _,rfl,fun j h=>by omega,B⟩
      case round =>
       obtain⟨k,S,rfl,G,f⟩:=hrel;have n:=qH G;have Z:=f.size;clear G;by_cases hkn:k<l.length
       ·have X := Low.fact ((f.cell (p := ⟨b, o + k * 2, none⟩) z).trans (g.out k hkn).1)
        have c2:=Low.fact ((f.cell (p:=⟨b,o+k*2+1,none⟩) z).trans (g.out k hkn).2);have W:=Low.fact ((f.cell (p:=⟨b,o+i*2,none⟩) z).trans (g.out i s).1);have V:=Low.fact ((f.cell (p:=⟨b,o+i*2+1,none⟩) z).trans (g.out i s).2);have c5:=Low.fact ((f.cell (p:=⟨b,o+m*2,none⟩) z).trans (g.out m t).1);have c6:=Low.fact ((f.cell (p:=⟨b,o+m*2+1,none⟩) z).trans (g.out m t).2);have pk:=Zt (A.out k hkn);by_cases e1:k=i
        ·subst e1
         go_wp2
         (refine Zg (by kernel_rfl) (by kernel_rfl) ?_;(iterate 4 (apply qw3;(case hw=>rfl);(case hval=>(intro q c hcx;simp only [Oper.quietAt];go_simp;first | done | rfl | exact⟨rfl,rfl⟩));simp only [qJ,zq4,zr4,zs4]));(iterate 6 (apply Zr;(case hw=>rfl);simp only [qJ,zq4,zr4,zs4]));(iterate 2 (apply qw3;(case hw=>rfl);(case hval=>(intro q c hcx;simp only [Oper.quietAt];go_simp;first | done | rfl | exact⟨rfl,rfl⟩));simp only [qJ,zq4,zr4,zs4]));(iterate 17 (apply Zr;(case hw=>rfl);simp only [qJ,zq4,zr4,zs4]));(iterate 1 (apply qw3;(case hw=>rfl);(case hval=>(intro q c hcx;simp only [Oper.quietAt];go_simp;first | done | rfl | exact⟨rfl,rfl⟩));simp only [qJ,zq4,zr4,zs4]));refine wpQuiet_nil ?_;intro w2 d)
         go_wp2;go_roundw
         case rel =>
          refine⟨k+1,by omega,by simp,fun j hj=>?_,f.trans (d.out.mono (by omega))⟩
          by_cases e:j=k
          ·subst e;intro h;exact absurd rfl h
          ·exact n.out j (by omega)
         case measure=>simp [intOf];omega
        ·have q1:((k:Int) != (i:Int))=true:=by rw [bne_iff_ne];omega
         have q2:(k != i)=true:=by rw [bne_iff_ne];omega
         by_cases e2:k=m
         ·subst e2
          go_wp2
          (refine Zg (by kernel_rfl) (by kernel_rfl) ?_;(iterate 12 (apply qw3;(case hw=>rfl);(case hval=>(intro q c hcx;simp only [Oper.quietAt];go_simp;first | done | rfl | exact⟨rfl,rfl⟩));simp only [qJ,zq4,zr4,zs4]));(iterate 17 (apply Zr;(case hw=>rfl);simp only [qJ,zq4,zr4,zs4]));(iterate 1 (apply qw3;(case hw=>rfl);(case hval=>(intro q c hcx;simp only [Oper.quietAt];go_simp;first | done | rfl | exact⟨rfl,rfl⟩));simp only [qJ,zq4,zr4,zs4]));refine wpQuiet_nil ?_;intro w2 d)
          go_wp2;go_roundw
          case rel =>
           refine⟨k+1,by omega,by simp,fun j hj=>?_,f.trans (d.out.mono (by omega))⟩
           by_cases e:j=k
           ·subst e;intro _ h;exact absurd P.out.symm h
           ·exact n.out j (by omega)
          case measure=>simp [intOf];omega
         ·have q3:((k:Int) != (m:Int))=true:=by rw [bne_iff_ne];omega
          have q4:(k != m)=true:=by rw [bne_iff_ne];omega
          by_cases ht:turnV (nth l i).x (nth l i).y (nth l m).x (nth l m).y (nth l k).x (nth l k).y<=0
          ·have dt:decide (turnV (nth l i).x (nth l i).y (nth l m).x (nth l m).y (nth l k).x (nth l k).y<=0)=true:=by simpa using ht
           have u:refValid l=false:=by
            simp only [refValid,decide_eq_false_iff_not];rintro ⟨_,_,_,_,h5⟩;have:=h5 K i s k hkn e1 (by rw [P.out];exact e2)
            rw [P.out] at this;simp only [Z5] at this;omega
           have D:=qH u;clear u ht;go_wp2
           (refine Zg (by kernel_rfl) (by kernel_rfl) ?_;(iterate 30 (apply qw3;(case hw=>rfl);(case hval=>(intro q c hcx;simp only [Oper.quietAt];go_simp;first | done | (first | (go_at_call 71;exact Low.calls c (Z6g _ _ _ _ _ _ _ (by omega) (by omega) (by omega) (by omega) (by omega) (by omega) (by omega) (by omega) (by omega) (by omega) (by omega) (by omega)))) | rfl | exact⟨rfl,rfl⟩));simp only [qJ,zq4,zr4,zs4]));refine wpQuiet_nil ?_;intro w2 d)
           go_wp2;go_ret;exact⟨Zu D.out.symm,f.trans (d.out.mono (by omega))⟩
          ·have dt:decide (turnV (nth l i).x (nth l i).y (nth l m).x (nth l m).y (nth l k).x (nth l k).y<=0)=false:=by simpa using ht
           have Ht:=qH ht;clear ht;go_wp2
           (refine Zg (by kernel_rfl) (by kernel_rfl) ?_;(iterate 30 (apply qw3;(case hw=>rfl);(case hval=>(intro q c hcx;simp only [Oper.quietAt];go_simp;first | done | (first | (go_at_call 71;exact Low.calls c (Z6g _ _ _ _ _ _ _ (by omega) (by omega) (by omega) (by omega) (by omega) (by omega) (by omega) (by omega) (by omega) (by omega) (by omega) (by omega)))) | rfl | exact⟨rfl,rfl⟩));simp only [qJ,zq4,zr4,zs4]));refine wpQuiet_nil ?_;intro w2 d)
           go_wp2;go_roundw
           case rel =>
            refine⟨k+1,by omega,by simp,fun j hj=>?_,f.trans (d.out.mono (by omega))⟩
            by_cases e:j=k
            ·subst e;intro _ _;rw [P.out];have:=Ht.out;simp only [Z5];omega
            ·exact n.out j (by omega)
           case measure=>simp [intOf];omega
       ·obtain rfl:k=l.length:=by omega
        go_wp2;go_roundw
        case rel =>
         refine⟨i+1,by omega,by simp,fun h j hj=>?_,f⟩
         by_cases e:j=i
         ·subst e;exact n.out
         ·exact F.out h j (by omega)
        case measure=>simp [intOf];omega
theorem Z2v (v:Value) (l:List Pt) (w:World) (hp:Z7 w.heap.size w v l) :
  Calls Tryz.prog 30 #[v] w fun e w'=>e=qR (qB (refValid l))/\Below w.heap.size w w':=by
 by_cases h:1<=l.length/\l.length<=64
 ·exact Z8n v l w hp h.1 h.2
 ·exact Z6F v l w hp (by omega)
end
theorem Z4i (a c:Pt):Z5 a a c=0:=by unfold Z5 turnV;simp
theorem Z8c (a b d:Pt):Z5 a d b=-Z5 a b d:=by
 unfold Z5 turnV;rw [Int.mul_comm (d.x-a.x),Int.mul_comm (d.y-a.y)];omega
theorem ZaR (a:Pt):cmpP a a=0:=by simp [cmpP,cmpV,orI,cmpI]
theorem Z3Q {l : List Pt} (hl : ∀ k, 1 <= k -> k < l.length -> cmpP (nth l 0) (nth l k) < 0)
  (hg:∀ i,i<l.length->∀ k,k<l.length->nth l k≠nth l i->nth l k≠nth l ((i+1) % l.length)->0<Z5 (nth l i) (nth l ((i+1) % l.length)) (nth l k)) :
  ∀ (t j k:Nat),l.length-k=t->j<k->k<l.length->nth l j≠nth l k:=by
 have d:∀ k,1<=k->k<l.length->nth l 0≠nth l k:=fun k h1 h2 e=>by
  have:=hl k h1 h2;rw [<- e,ZaR] at this;omega
 intro t
 induction t using Nat.strongRecOn with
 | _ t ih =>
  intro j k ht hjk hk e;have n:1<=j:=by
   rcases Nat.eq_zero_or_pos j with h | h
   ·subst h;exact absurd e (d k hjk hk)
   ·exact h
  have a:(j+1) % l.length=j+1:=Nat.mod_eq_of_lt (by omega)
  have m:nth l 0≠nth l j:=d j n (by omega)
  have b:nth l 0≠nth l k:=d k (by omega) hk
  have c:nth l (j+1)≠nth l ((k+1) % l.length):=by
   by_cases hk1:k+1=l.length
   ·rw [hk1,Nat.mod_self]
    exact fun h=>d (j+1) (by omega) (by omega) h.symm
   ·rw [Nat.mod_eq_of_lt (by omega)]
    exact ih (l.length-(k+1)) (by omega) (j+1) (k+1) rfl (by omega) (by omega)
  have g:nth l j≠nth l (j+1):=fun h=>by
   have:=hg j (by omega) 0 (by omega) m (by rw [a,<- h];exact m)
   rw [a,<- h,Z4i] at this;omega
  have f:nth l k≠nth l ((k+1) % l.length):=fun h=>by
   have:=hg k hk 0 (by omega) b (by rw [<- h];exact b)
   rw [<- h,Z4i] at this;omega
  have o:(k+1) % l.length<l.length:=Nat.mod_lt _ (by omega)
  have p:=hg j (by omega) ((k+1) % l.length) o (by rw [e];exact Ne.symm f) (by rw [a];exact Ne.symm c)
  have q:=hg k hk (j+1) (by omega) (by rw [<- e];exact Ne.symm g) c
  rw [a] at p;rw [<- e,Z8c] at q;omega
theorem Z8J (l:List Pt):GoValid l↔RefValid l:=by
 constructor
 ·rintro ⟨f,d,c,g⟩
  have n:∀ k,1<=k->k<l.length->cmpP (nth l 0) (nth l k)<0:=fun k a b=>(c k b).2 (by omega)
  refine⟨f,d,fun k hk=>(c k hk).1,n,fun hn i hi k hk hki hkm=>?_⟩
  have o:=g (by omega)
  have j:=Z3Q n o;have m:∀ a b,a<l.length->b<l.length->a≠b->nth l a≠nth l b:=fun a b ha hb hab=>by
   rcases Nat.lt_or_gt_of_ne hab with h | h
   ·exact j _ a b rfl h hb
   ·exact fun e=>j _ b a rfl h ha e.symm
  exact o i hi k hk (m k i hk hi hki) (m k _ hk (Nat.mod_lt _ (by omega)) hkm)
 ·rintro ⟨f,d,c,g,p⟩
  refine⟨f,d,fun k hk=>⟨c k hk,fun h=>g k h hk⟩,fun hn i hi k hk a b=>?_⟩
  exact p (by omega) i hi k hk (fun e=>a (by rw [e];rfl)) (fun e=>b (by rw [e];rfl))
theorem Z2g (l:List Pt):Zb l=refValid l:=by
 rw [Bool.eq_iff_iff];simp only [Zb,refValid,decide_eq_true_eq];exact Z8J l
section
attribute [local go_sem] Oper.semAt_some
open Go.RowKit Go.Shelf
set_option maxRecDepth 100000 in
theorem Z8O {α : Type} (encA : α -> Array Value) (f : Nat -> α) (n : Nat) (hn : 1 <= n) (p : Nat -> Prop) (W : World) (l Bs b o cap : Nat) (ps : List Pt) (hlen : ps.length <= 70368744177663) (hb : p b) (hBs : p Bs) (hpp : ∀ b, p b -> b < W.heap.size) (hf : ∀ i, i < ps.length -> encA (f i) = encS (sideP ps i)) (J Jx : List α -> World -> Prop)
  (hJ:AbidesFrom W.heap.size J)
  (hY:∀ pre x W1,J pre W1->pre.length<ps.length->YieldAt Fence.wide (n-1) Tryz.prog l (encA x) W1 fun e W' =>
   (e=qR (qB true)/\J (pre++[x]) W'/\KeepsP p W1 W')\/(e=qR (qB false)/\Jx (pre++[x]) W'))
  (hB:W.cell? ⟨Bs,0,none⟩=some (qS (some ⟨b,o,none⟩) ps.length cap))
  (hc:∀ j,j<ps.length->W.cell? ⟨b,o+j*2,none⟩=some (O qL (nth ps j).x)/\W.cell? ⟨b,o+j*2+1,none⟩=some (O qL (nth ps j).y)) (h0:J [] W) :
  CallsIn Fence.wide n Tryz.prog 192 #[.func (.yield l) #[] #[],qP (some ⟨Bs,0,none⟩)] W fun e W'=>(∃ v,e=qR v) /\
   ((∃ ys,ys=upto f ps.length/\J ys W')\/(∃ pre,(∃ k,k<=ps.length/\pre=upto f k)/\Jx pre W')):=by
 refine callsIn_of_wp Tryz.func192 rfl trivial ?_ rfl;simp only [Tryz.ntmps192,List.size_toArray,List.length_cons,List.length_nil,Nat.reduceAdd,Nat.reduceSub,Array.replicate_succ,Array.replicate_zero,List.push_toArray,List.append_toArray,List.nil_append,List.cons_append];gi_wp2
 gi_loopw [7] (fun i wr=>∃ k:Nat,k<=ps.length/\i=O qL k/\J (upto f k) wr/\KeepsP p W wr)
  (fun i _=>ps.length-(intOf i).toNat)
 case atStart=>exact⟨0,Nat.zero_le _,rfl,h0,KeepsP.refl _ _⟩
 case round =>
  obtain⟨k,Z,rfl,t,a⟩:=hrel;by_cases hlt:k<ps.length
  ·have s:0<ps.length:=by omega
   obtain⟨m,w⟩:∃ m,(k+1) % ps.length=m:=⟨_,rfl⟩;have g:m<ps.length:=by rw [<- w];exact Nat.mod_lt _ s
   have C:sideP ps k=(nth ps k,nth ps m):=by rw [sideP,w]
   have N:W.heap.size<=wr.heap.size:=a.1;have U:=qO W _ hB;have G:wr.cell? ⟨Bs,0,none⟩=some (qS (some ⟨b,o,none⟩) ps.length cap):=(a.cell (i:=0) hBs).trans hB;have E:=(a.cell (i:=o+k*2) hb).trans (hc k hlt).1;have X:=(a.cell (i:=o+k*2+1) hb).trans (hc k hlt).2;have I:=(a.cell (i:=o+m*2) hb).trans (hc m g).1;have S:=(a.cell (i:=o+m*2+1) hb).trans (hc m g).2;have q:J (upto f k) (wr.alloc (qC #[O qL (nth ps k).x,O qL (nth ps k).y] 36)).drew :=
    hJ _ _ _ none (hJ _ _ _ none t (World.grownBy_alloc _ _ none) (fun r e=>by cases e)) (Z4B _ none) (fun r e=>by cases e)
   obtain⟨fn,F,z,H,D,P⟩:=hY _ (f k) _ q (by rw [Zq];exact hlt)
   rw [hf k hlt,C] at D;dsimp only [encS] at D;have Q:qW qL ((k:Int)+1)=(k:Int)+1:=zW2;have M:((k:Int)+1).tmod (ps.length:Int)=(m:Int):=by
    have:((k:Int)+1).tmod (ps.length:Int)=(((k+1) % ps.length:Nat):Int):=by
     rw [Int.tmod_eq_emod_of_nonneg (by omega)];rfl
    rw [this,w]
   have d:=qO wr _ E;have c:Below wr.heap.size wr (wr.alloc (qC #[O qL (nth ps k).x,O qL (nth ps k).y] 36)):=(qK _ wr).alloc (qN _) _;have f0:=(c.cell (p:=⟨Bs,0,none⟩) (qO wr _ G)).trans G;have f1:=(c.cell (p:=⟨b,o+k*2,none⟩) d).trans E;have f2:=(c.cell (p:=⟨b,o+k*2+1,none⟩) d).trans X;have f3:=(c.cell (p:=⟨b,o+m*2,none⟩) d).trans I;have f4:=(c.cell (p:=⟨b,o+m*2+1,none⟩) d).trans S;have Y:¬ ps=[]:=by intro h;rw [h] at s;simp at s
   have R:=qH hc;have L:=qH w;have V:=qH C;have T:=qH q;clear hc w C hB q;gi_wp2;refine Z0n (Zk _) 10 (by kernel_rfl) (by kernel_rfl) (by kernel_rfl) ?_
   simp only [List.take_succ_cons,List.take_zero,List.drop_succ_cons,List.drop_zero]
   iterate 10 (refine wpStill_step (fun K hK=>?_);go_simp;refine hK _ ?_;clear hK K)
   refine wpStill_nil ?_;gi_wp2;refine P.mono ?_;rintro e W3 (⟨rfl,B,A⟩ | ⟨rfl,u⟩)
   ·gi_wp2
    go_roundw
    case rel=>exact⟨k+1,by omega,by simp,by rw [ZB];exact B,a.trans ((KeepsP.of_below (((qK wr.heap.size wr).alloc (qN _) _).drew) (fun b hb=>Nat.lt_of_lt_of_le (hpp b hb) N)).trans A)⟩
    case measure=>simp [intOf];omega
   ·gi_wp2
    refine bodyPost_ret (results_none rfl _ _ _) rfl ?_;exact⟨⟨_,rfl⟩,.inr ⟨_,⟨k+1,by omega,(ZB _ _).symm⟩,u⟩⟩
  ·obtain rfl:k=ps.length:=by omega
   gi_wp2;go_end0;exact⟨⟨_,rfl⟩,.inl ⟨_,rfl,t⟩⟩
set_option maxRecDepth 100000 in
theorem Z1x {α:Type} (n:Nat) (l Bs cap:Nat) (a:Option Addr) (J:List α->World->Prop) (W:World) (hB:W.cell? ⟨Bs,0,none⟩=some (qS a 0 cap)) (h0:J [] W) :
  CallsIn Fence.wide n Tryz.prog 192 #[.func (.yield l) #[] #[],qP (some ⟨Bs,0,none⟩)] W fun e W'=>(∃ v,e=qR v)/\J [] W':=by
 refine callsIn_of_wp Tryz.func192 rfl trivial ?_ rfl;simp only [Tryz.ntmps192,List.size_toArray,List.length_cons,List.length_nil,Nat.reduceAdd,Nat.reduceSub,Array.replicate_succ,Array.replicate_zero,List.push_toArray,List.append_toArray,List.nil_append,List.cons_append];gi_wp2
 gi_loopw [7] (fun i wr=>i=O qL 0/\J [] wr) (fun _ _=>0)
 case atStart=>exact⟨rfl,h0⟩
 case round =>
  obtain⟨rfl,b⟩:=hrel;gi_wp2;go_end0;exact⟨⟨_,rfl⟩,b⟩
theorem Z4E (a:Option Addr) (len cap:Nat) (w:World) :
  Calls Tryz.prog 185 #[qS a len cap] w fun e w'=>e=qR (.func (.func 192) #[] #[qP (some ⟨w.heap.size,0,none⟩)])/\w.alloc (qC #[qS a len cap] 23)=w':=by
 go_enter Tryz.func185,Tryz.ntmps185;go_wp2;go_ret;exact⟨rfl,rfl⟩
theorem Z2W {α:Type} (encA:α->Array Value) (f:Nat->α) (n:Nat) (hn:1<=n) (p:Nat->Prop) (Bs n0:Nat) (sv:Value) (ps:List Pt) (w:World) (hBs:p Bs) (hp0:∀ b,b<n0->p b) (hpp:∀ b,p b->b<w.heap.size)
  (hc:w.cell? ⟨Bs,0,none⟩=some sv) (hI:Z7 n0 w sv ps) (hf:∀ i,i<ps.length->encA (f i)=encS (sideP ps i)) :
  SeqStopsK Fence.wide n Tryz.prog 192 #[qP (some ⟨Bs,0,none⟩)] encA (KeepsP p) (fun ys=>ys=upto f ps.length)
   (fun pre=>∃ k,k<=ps.length/\pre=upto f k) ps.length w:=fun l J Jx W hW hJ _ hY h0=>by
 have hc':=(hW.cell (p:=⟨Bs,0,none⟩) (hpp Bs hBs)).trans hc;have hsz:=hW.size;have hn0:n0<=w.heap.size\/ps=[]:=by
  rcases hI.2 with⟨a,d,_,h | ⟨b,o,_,g,_⟩⟩
  ·exact .inr h
  ·refine .inl ?_
   rcases Nat.lt_or_ge w.heap.size n0 with h | h
   ·exact absurd (hpp _ (hp0 _ h)) (by omega)
   ·exact h
 rcases hn0 with hn0 | rfl
 ·obtain⟨j,a,d,rfl,c⟩:=hI.below (hW.mono hn0)
  rcases c with rfl | ⟨b,o,rfl,g,c⟩
  ·exact (Z1x n l Bs _ a J W hc' h0).mono fun e W' ⟨he,hj⟩=>⟨he,.inl ⟨_,rfl,hj⟩⟩
  ·exact Z8O encA f n hn p W l Bs b o (ps.length+d) ps j (hp0 b g) hBs (fun b g=>Nat.lt_of_lt_of_le (hpp b g) hsz) hf J Jx hJ hY hc' c h0
 ·obtain⟨j,a,d,rfl,c⟩:=hI
  exact (Z1x n l Bs _ a J W hc' h0).mono fun e W' ⟨he,hj⟩=>⟨he,.inl ⟨_,rfl,hj⟩⟩
end
section
attribute [local irreducible] wpQuiet
open Go.RowKit
theorem Z6y (a b:Int) (h1:-4000000000000000000<=a) (h2:a<=4000000000000000000):-4000000000000000000<=a.tdiv b/\a.tdiv b<=4000000000000000000:=by
 have h:=Int.natAbs_tdiv a b;have c:a.natAbs.div b.natAbs<=a.natAbs:=Nat.div_le_self a.natAbs b.natAbs;rw [<- h] at c;omega
theorem Zav (a b:Int) (h1:-4000000000000000000<=a) (h2:a<=4000000000000000000) (hb:b≠0):-4000000000000000001<=a.fdiv b/\a.fdiv b<=4000000000000000000:=by
 rcases Z15 a b hb with h | h
 ·have:=Z6y a b h1 h2;omega
 ·have:=Z6y a b h1 h2;omega
theorem Z2l (ax ay bx by' cx cy:Int) (w:World) (a1:-1000000<=ax) (a2:ax<=1000000) (a3:-1000000<=ay) (a4:ay<=1000000)
  (b1:-1000000<=bx) (b2:bx<=1000000) (b3:-1000000<=by') (b4:by'<=1000000) (c1:-1000000<=cx) (c2:cx<=1000000) (c3:-1000000<=cy) (c4:cy<=1000000) :
  Calls Tryz.prog 186 #[.agg #[O qL ax,O qL ay],.agg #[O qL bx,O qL by'],.agg #[O qL cx,O qL cy]] w fun e w'=>e=qR (O qL (turnV ax ay bx by' cx cy))/\Below w.heap.size w w':=by
 have p:=ZH (a:=bx-ax) (b:=cy-ay) (m:=2000000) (n:=2000000) (by omega) (by omega) (by omega) (by omega)
 have q:=ZH (a:=by'-ay) (b:=cx-ax) (m:=2000000) (n:=2000000) (by omega) (by omega) (by omega) (by omega)
 have c:qW qL ((bx-ax)*(cy-ay))=(bx-ax)*(cy-ay):=zW2;have f:qW qL ((by'-ay)*(cx-ax))=(by'-ay)*(cx-ax):=zW2
 have d:qW qL ((bx-ax)*(cy-ay)-(by'-ay)*(cx-ax))=(bx-ax)*(cy-ay)-(by'-ay)*(cx-ax):=zW2
 clear p q;unfold turnV;go_enter Tryz.func186,Tryz.ntmps186;go_wp2;go_ret;exact⟨rfl,zB2⟩
def crossB (s t:Int):Bool:=decide (s<0/\0<t\/0<s/\t<0)
theorem Z1e (s t : Int) (w : World) :
  Calls Tryz.prog 187 #[O qL s,O qL t] w fun e w'=>e=qR (qB (crossB s t))/\w=w':=by
 by_cases h1:s<0
 ·have b:decide (s<0)=true:=decide_eq_true h1
  have a:decide (s>0)=false:=by rw [decide_eq_false_iff_not];omega
  by_cases h2:0<t
  ·have c:decide (t>0)=true:=decide_eq_true h2
   have e:crossB s t=true:=decide_eq_true (.inl ⟨h1,h2⟩);rw [e];clear e;go_enter Tryz.func187,Tryz.ntmps187;go_wp2;go_ret;exact⟨rfl,rfl⟩
  ·have c:decide (t>0)=false:=by rw [decide_eq_false_iff_not];omega
   have e:crossB s t=false:=decide_eq_false (by omega)
   rw [e];clear e;go_enter Tryz.func187,Tryz.ntmps187;go_wp2;go_ret;exact⟨rfl,rfl⟩
 ·have b:decide (s<0)=false:=decide_eq_false h1
  by_cases h3:0<s
  ·have a:decide (s>0)=true:=decide_eq_true h3
   by_cases h4:t<0
   ·have d:decide (t<0)=true:=decide_eq_true h4
    have e:crossB s t=true:=decide_eq_true (.inr ⟨h3,h4⟩);rw [e];clear e;go_enter Tryz.func187,Tryz.ntmps187;go_wp2;go_ret;exact⟨rfl,rfl⟩
   ·have d:decide (t<0)=false:=decide_eq_false h4
    have e:crossB s t=false:=decide_eq_false (by omega)
    rw [e];clear e;go_enter Tryz.func187,Tryz.ntmps187;go_wp2;go_ret;exact⟨rfl,rfl⟩
  ·have a:decide (s>0)=false:=decide_eq_false h3
   have e:crossB s t=false:=decide_eq_false (by omega)
   rw [e];clear e;go_enter Tryz.func187,Tryz.ntmps187;go_wp2;go_ret;exact⟨rfl,rfl⟩
theorem Z8M (a b q r q' : Int) (w : World) (hq : qW qL (a.tdiv b) = q) (hr : a.tmod b = r) (h5 : ¬ b = 0) (q1 : -5000000000000000000 <= q) (q2 : q <= 5000000000000000000)
  (hc:r=0/\q=q'\/¬ r=0/\((a<0↔b<0)/\q=q'\/¬ (a<0↔b<0)/\q-1=q')) :
  Calls Tryz.prog 194 #[O qL a,O qL b] w fun e w'=>e=qR (O qL q')/\w=w':=by
 have k:qW qL (q-1)=q-1:=zW2;have j:(b == 0)=false:=by simpa using h5
 rcases hc with⟨h,c⟩ | ⟨h,hc⟩
 ·subst c
  have g:(r != 0)=false:=by simp [h]
  clear h;go_enter Tryz.func194,Tryz.ntmps194;go_wp2;go_ret;exact⟨rfl,rfl⟩
 ·have g:(r != 0)=true:=by simpa [bne_iff_ne] using h
  by_cases ha:a<0
  ·have i:decide (a<0)=true:=decide_eq_true ha
   by_cases hb:b<0
   ·have f:decide (b<0)=true:=decide_eq_true hb
    rcases hc with⟨_,c⟩ | ⟨d,_⟩
    ·subst c
     go_enter Tryz.func194,Tryz.ntmps194;go_wp2;go_ret;exact⟨rfl,rfl⟩
    ·exact absurd (by simp [ha,hb]) d
   ·have f:decide (b<0)=false:=decide_eq_false hb
    rcases hc with⟨d,_⟩ | ⟨_,c⟩
    ·exact absurd (d.1 ha) hb
    ·subst c
     go_enter Tryz.func194,Tryz.ntmps194;go_wp2;go_ret;exact⟨rfl,rfl⟩
  ·have i:decide (a<0)=false:=decide_eq_false ha
   by_cases hb:b<0
   ·have f:decide (b<0)=true:=decide_eq_true hb
    rcases hc with⟨d,_⟩ | ⟨_,c⟩
    ·exact absurd (d.2 hb) ha
    ·subst c
     go_enter Tryz.func194,Tryz.ntmps194;go_wp2;go_ret;exact⟨rfl,rfl⟩
   ·have f:decide (b<0)=false:=decide_eq_false hb
    rcases hc with⟨_,c⟩ | ⟨d,_⟩
    ·subst c
     go_enter Tryz.func194,Tryz.ntmps194;go_wp2;go_ret;exact⟨rfl,rfl⟩
    ·exact absurd (by simp [ha,hb]) d
theorem Z4L (a b:Int) (w:World) (h1:-4000000000000000000<=a) (h2:a<=4000000000000000000) (h3:-8000000000000<=b) (h4:b<=8000000000000) (h5:¬ b=0) :
  Calls Tryz.prog 194 #[O qL a,O qL b] w fun e w'=>e=qR (O qL (a.fdiv b))/\w=w':=by
 have d:=Z6y a b h1 h2;have g:¬ a.tmod b=0->((a.tmod b<0/\a<0)\/(0<a.tmod b/\0<a)):=by
  intro h;rcases Int.lt_trichotomy a 0 with f | f | f
  ·have:=Int.tmod_nonneg (a:=-a) b (by omega)
   rw [Int.neg_tmod] at this;omega
  ·subst f;simp at h
  ·have:=Int.tmod_nonneg (a:=a) b (by omega)
   omega
 refine Z8M a b _ _ _ w (zW2) rfl h5 (by omega) (by omega) ?_
 rcases Z15 a b h5 with h | h
 ·by_cases c:a.tmod b=0
  ·exact Or.inl ⟨c,h.2.1⟩
  ·refine Or.inr ⟨c,Or.inl ⟨?_,h.2.1⟩⟩
   have:=g c;omega
 ·have c:¬ a.tmod b=0:=by omega
  refine Or.inr ⟨c,Or.inr ⟨?_,h.2.1⟩⟩;have:=g c;omega
def loTo (f:Pt->Int) (l:List Pt):Nat->Int
 | 0=>f (nth l 0)
 | k+1=>if f (nth l k)<loTo f l k then f (nth l k) else loTo f l k
def hiTo (f:Pt->Int) (l:List Pt):Nat->Int
 | 0=>f (nth l 0)
 | k+1=>if hiTo f l k<f (nth l k) then f (nth l k) else hiTo f l k
def bxF1 (p:Pt):Int:=p.x
def bxF2 (p:Pt):Int:=p.y
theorem Z85 (x y:Int) (w:World) :
  Calls Tryz.prog 115 #[.agg #[O qL x,O qL y]] w fun e w'=>e=qR (O qL (bxF1 ⟨x,y⟩))/\Below w.heap.size w w':=by
 unfold bxF1;go_enter Tryz.func115,Tryz.ntmps115;go_wp2;go_ret;exact⟨rfl,zB2⟩
theorem ends_1 (v:Value) (l:List Pt) (w:World) (hp:Z7 w.heap.size w v l) (h1:0<l.length) :
  Calls Tryz.prog 114 #[v,.func (.func 115) #[] #[]] w fun e w'=>e=qR (.tuple #[O qL (loTo bxF1 l l.length),O qL (hiTo bxF1 l l.length)])/\Below w.heap.size w w':=by
 obtain⟨U,a,N,rfl,g⟩:=hp;obtain⟨b,o,rfl,D,g⟩:∃ b o,a=some ⟨b,o,none⟩/\b<w.heap.size/\∀ j,j<l.length->w.cell? ⟨b,o+j*2,none⟩=some (O qL (nth l j).x)/\w.cell? ⟨b,o+j*2+1,none⟩=some (O qL (nth l j).y):=by
  rcases g with h | h
  ·rw [h] at h1;simp at h1
  ·exact h
 obtain⟨n,f⟩:=g 0 h1;rw [Nat.zero_mul,Nat.add_zero] at n f;have u:=Low.fact n;have t:=Low.fact f;have K:=qH g;have d:=Z85 (nth l 0).x (nth l 0).y;have m:bxF1 ⟨(nth l 0).x,(nth l 0).y⟩=loTo bxF1 l 0:=rfl;rw [m] at d;have s:=qH d;have V:(0:Int)<l.length:=by omega
 have R:(0:Int)<=0:=by omega
 clear g d m n f;generalize (nth l 0).x=p0 at *;generalize (nth l 0).y=p1 at *;go_enter Tryz.func114,Tryz.ntmps114;go_wp2
 (refine Zg (by kernel_rfl) (by kernel_rfl) ?_;(iterate 12 (apply qw3;(case hw=>rfl);(case hval=>(intro w1 hw1 hcx;simp only [Oper.quietAt];go_simp;first | done | (first | (go_at_call 115;exact Low.calls hw1 (s.out _))) | rfl | exact⟨rfl,rfl⟩));simp only [qJ,zq4,zr4,zs4]));refine wpQuiet_nil ?_;intro w2 hw2)
 have B:=hw2.out;have S:=qH (show loTo bxF1 l 0=hiTo bxF1 l 0 from rfl)
 have I:=qH B;clear hw2 u t B;generalize w2=w1 at *;have P:=I.out.size;go_wp2
 go_loopw [6,7,22] (fun x y i wr=>∃ k:Nat,k<=l.length/\i=O qL (k:Int)/\x=O qL (loTo bxF1 l k)/\y=O qL (hiTo bxF1 l k)/\Below w.heap.size w wr) (fun _ _ i _=>l.length-(intOf i).toNat)
 case atStart=>exact⟨0,by omega,rfl,rfl,rfl,I.out⟩
 case round =>
  obtain⟨k,Q,rfl,rfl,rfl,c⟩:=hrel;have A:=c.size;by_cases hlt:k<l.length
  ·obtain⟨E,G⟩:=K.out k hlt
   have n:=(c.cell (p:=⟨b,o+k*2,none⟩) D).trans E;have f:=(c.cell (p:=⟨b,o+k*2+1,none⟩) D).trans G;have hs:Hid (loTo bxF1 l (k+1)=(if bxF1 ⟨(nth l k).x,(nth l k).y⟩<loTo bxF1 l k then bxF1 ⟨(nth l k).x,(nth l k).y⟩ else loTo bxF1 l k)/\hiTo bxF1 l (k+1)=(if hiTo bxF1 l k<bxF1 ⟨(nth l k).x,(nth l k).y⟩ then bxF1 ⟨(nth l k).x,(nth l k).y⟩ else hiTo bxF1 l k)):=⟨rfl,rfl⟩
   have d:=qH (Z85 (nth l k).x (nth l k).y);have M:decide ((k:Int)<(l.length:Int))=true:=by simp;omega
   have W:(k:Int)<l.length:=by omega
   have T:(0:Int)<=k:=by omega
   have z:=qH c;generalize bxF1 ⟨(nth l k).x,(nth l k).y⟩=f0 at *;generalize (nth l k).x=px at *;generalize (nth l k).y=py at *;generalize loTo bxF1 l k=lo at *;generalize hiTo bxF1 l k=hi at *;clear E G c;go_wp2;have r:=Has.new wr #[O qL px,O qL py] 36;have q:=z.out.alloc A (qC #[O qL px,O qL py] 36);have F:(wr.alloc (qC #[O qL px,O qL py] 36)).cell? ⟨wr.heap.size,0,none⟩=some (O qL px):=r.cell (i:=0) rfl;have H:(wr.alloc (qC #[O qL px,O qL py] 36)).cell? ⟨wr.heap.size,1,none⟩=some (O qL py):=r.cell (i:=1) rfl;have L:=r.lt;have u:=Low.fact F;have t:=Low.fact H;have C:=qH q;clear r q F H n f;generalize wr.alloc (qC #[O qL px,O qL py] 36)=w3 at *
   (refine Zg (by kernel_rfl) (by kernel_rfl) ?_;(iterate 12 (apply qw3;(case hw=>rfl);(case hval=>(intro w1 hw1 hcx;simp only [Oper.quietAt];go_simp;first | done | (first | (go_at_call 115;exact Low.calls hw1 (d.out _))) | rfl | exact⟨rfl,rfl⟩));simp only [qJ,zq4,zr4,zs4]));refine wpQuiet_nil ?_;intro w2 hw2)
   have J:=qH (C.out.trans (hw2.out.mono C.out.size));clear hw2 u t;go_wp2;go_roundw
   case rel=>exact⟨k+1,by omega,by go_num,by rw [hs.out.1],by rw [hs.out.2],J.out⟩
   case measure=>simp [intOf];omega
  ·obtain rfl:k=l.length:=by omega
   have M:decide ((l.length:Int)<(l.length:Int))=false:=by simp
   go_wp2;go_ret2;exact⟨rfl,c⟩
theorem Z84 (x y:Int) (w:World) :
  Calls Tryz.prog 116 #[.agg #[O qL x,O qL y]] w fun e w'=>e=qR (O qL (bxF2 ⟨x,y⟩))/\Below w.heap.size w w':=by
 unfold bxF2;go_enter Tryz.func116,Tryz.ntmps116;go_wp2;go_ret;exact⟨rfl,zB2⟩
theorem ends_2 (v:Value) (l:List Pt) (w:World) (hp:Z7 w.heap.size w v l) (h1:0<l.length) :
  Calls Tryz.prog 114 #[v,.func (.func 116) #[] #[]] w fun e w'=>e=qR (.tuple #[O qL (loTo bxF2 l l.length),O qL (hiTo bxF2 l l.length)])/\Below w.heap.size w w':=by
 obtain⟨U,a,N,rfl,g⟩:=hp;obtain⟨b,o,rfl,D,g⟩:∃ b o,a=some ⟨b,o,none⟩/\b<w.heap.size/\∀ j,j<l.length->w.cell? ⟨b,o+j*2,none⟩=some (O qL (nth l j).x)/\w.cell? ⟨b,o+j*2+1,none⟩=some (O qL (nth l j).y):=by
  rcases g with h | h
  ·rw [h] at h1;simp at h1
  ·exact h
 obtain⟨n,f⟩:=g 0 h1;rw [Nat.zero_mul,Nat.add_zero] at n f;have u:=Low.fact n;have t:=Low.fact f;have K:=qH g;have d:=Z84 (nth l 0).x (nth l 0).y;have m:bxF2 ⟨(nth l 0).x,(nth l 0).y⟩=loTo bxF2 l 0:=rfl;rw [m] at d;have s:=qH d;have V:(0:Int)<l.length:=by omega
 have R:(0:Int)<=0:=by omega
 clear g d m n f;generalize (nth l 0).x=p0 at *;generalize (nth l 0).y=p1 at *;go_enter Tryz.func114,Tryz.ntmps114;go_wp2
 (refine Zg (by kernel_rfl) (by kernel_rfl) ?_;(iterate 12 (apply qw3;(case hw=>rfl);(case hval=>(intro w1 hw1 hcx;simp only [Oper.quietAt];go_simp;first | done | (first | (go_at_call 116;exact Low.calls hw1 (s.out _))) | rfl | exact⟨rfl,rfl⟩));simp only [qJ,zq4,zr4,zs4]));refine wpQuiet_nil ?_;intro w2 hw2)
 have B:=hw2.out;have S:=qH (show loTo bxF2 l 0=hiTo bxF2 l 0 from rfl)
 have I:=qH B;clear hw2 u t B;generalize w2=w1 at *;have P:=I.out.size;go_wp2
 go_loopw [6,7,22] (fun x y i wr=>∃ k:Nat,k<=l.length/\i=O qL (k:Int)/\x=O qL (loTo bxF2 l k)/\y=O qL (hiTo bxF2 l k)/\Below w.heap.size w wr) (fun _ _ i _=>l.length-(intOf i).toNat)
 case atStart=>exact⟨0,by omega,rfl,rfl,rfl,I.out⟩
 case round =>
  obtain⟨k,Q,rfl,rfl,rfl,c⟩:=hrel;have A:=c.size;by_cases hlt:k<l.length
  ·obtain⟨E,G⟩:=K.out k hlt
   have n:=(c.cell (p:=⟨b,o+k*2,none⟩) D).trans E;have f:=(c.cell (p:=⟨b,o+k*2+1,none⟩) D).trans G;have hs:Hid (loTo bxF2 l (k+1)=(if bxF2 ⟨(nth l k).x,(nth l k).y⟩<loTo bxF2 l k then bxF2 ⟨(nth l k).x,(nth l k).y⟩ else loTo bxF2 l k)/\hiTo bxF2 l (k+1)=(if hiTo bxF2 l k<bxF2 ⟨(nth l k).x,(nth l k).y⟩ then bxF2 ⟨(nth l k).x,(nth l k).y⟩ else hiTo bxF2 l k)):=⟨rfl,rfl⟩
   have d:=qH (Z84 (nth l k).x (nth l k).y);have M:decide ((k:Int)<(l.length:Int))=true:=by simp;omega
   have W:(k:Int)<l.length:=by omega
   have T:(0:Int)<=k:=by omega
   have z:=qH c;generalize bxF2 ⟨(nth l k).x,(nth l k).y⟩=f0 at *;generalize (nth l k).x=px at *;generalize (nth l k).y=py at *;generalize loTo bxF2 l k=lo at *;generalize hiTo bxF2 l k=hi at *;clear E G c;go_wp2;have r:=Has.new wr #[O qL px,O qL py] 36;have q:=z.out.alloc A (qC #[O qL px,O qL py] 36);have F:(wr.alloc (qC #[O qL px,O qL py] 36)).cell? ⟨wr.heap.size,0,none⟩=some (O qL px):=r.cell (i:=0) rfl;have H:(wr.alloc (qC #[O qL px,O qL py] 36)).cell? ⟨wr.heap.size,1,none⟩=some (O qL py):=r.cell (i:=1) rfl;have L:=r.lt;have u:=Low.fact F;have t:=Low.fact H;have C:=qH q;clear r q F H n f;generalize wr.alloc (qC #[O qL px,O qL py] 36)=w3 at *
   (refine Zg (by kernel_rfl) (by kernel_rfl) ?_;(iterate 12 (apply qw3;(case hw=>rfl);(case hval=>(intro w1 hw1 hcx;simp only [Oper.quietAt];go_simp;first | done | (first | (go_at_call 116;exact Low.calls hw1 (d.out _))) | rfl | exact⟨rfl,rfl⟩));simp only [qJ,zq4,zr4,zs4]));refine wpQuiet_nil ?_;intro w2 hw2)
   have J:=qH (C.out.trans (hw2.out.mono C.out.size));clear hw2 u t;go_wp2;go_roundw
   case rel=>exact⟨k+1,by omega,by go_num,by rw [hs.out.1],by rw [hs.out.2],J.out⟩
   case measure=>simp [intOf];omega
  ·obtain rfl:k=l.length:=by omega
   have M:decide ((l.length:Int)<(l.length:Int))=false:=by simp
   go_wp2;go_ret2;exact⟨rfl,c⟩
end
section
open Go.RowKit
section
variable {w X:World} {c1 c2 c3 c4 c5:Array Value} {t1 t2 t3 t4 t5:TypeId}
theorem box1 (h:w.alloc (qC c1 t1)=X):Has X w.heap.size c1 t1/\Below w.heap.size w X/\X.heap.size=w.heap.size+1:=by
 subst h;exact⟨Has.new _ _ _,(qK _ _).alloc (qN _) _,by simp⟩
theorem box2 (h:(w.alloc (qC c1 t1)).alloc (qC c2 t2)=X):Has X w.heap.size c1 t1/\Has X (w.heap.size+1) c2 t2/\Below w.heap.size w X/\X.heap.size=w.heap.size+2:=by
 obtain⟨a,b,z⟩:=box1 (w:=w) (c1:=c1) (t1:=t1) rfl;obtain⟨e,c,d⟩:=box1 h;rw [z] at e c d;exact⟨a.below c (by omega),e,b.trans (c.mono (by omega)),d⟩
theorem box3 (h:((w.alloc (qC c1 t1)).alloc (qC c2 t2)).alloc (qC c3 t3)=X):Has X w.heap.size c1 t1/\Has X (w.heap.size+1) c2 t2/\Has X (w.heap.size+1+1) c3 t3/\Below w.heap.size w X/\X.heap.size=w.heap.size+3:=by
 obtain⟨a,f,b,z⟩:=box2 (w:=w) (c1:=c1) (t1:=t1) (c2:=c2) (t2:=t2) rfl;obtain⟨e,c,d⟩:=box1 h;rw [z] at e c d;exact⟨a.below c (by omega),f.below c (by omega),e,b.trans (c.mono (by omega)),d⟩
theorem box4 (h:(((w.alloc (qC c1 t1)).alloc (qC c2 t2)).alloc (qC c3 t3)).alloc (qC c4 t4)=X):Has X w.heap.size c1 t1/\Has X (w.heap.size+1) c2 t2/\Has X (w.heap.size+1+1) c3 t3/\Has X (w.heap.size+1+1+1) c4 t4/\Below w.heap.size w X/\X.heap.size=w.heap.size+4:=by
 obtain⟨a,g,f,b,z⟩:=box3 (w:=w) (c1:=c1) (t1:=t1) (c2:=c2) (t2:=t2) (c3:=c3) (t3:=t3) rfl;obtain⟨e,c,d⟩:=box1 h;rw [z] at e c d;exact⟨a.below c (by omega),g.below c (by omega),f.below c (by omega),e,b.trans (c.mono (by omega)),d⟩
end
end
end Go.Proofs.YthipcinibldgnaaGreat
