/- The iterator over the sides of a polygon (package hull): its contract. | Choices of a list's elements, the best ones of them. No program here. | hu .. -/
import Derived.RangeFuncNested
import Derived.RangeFuncBound
import Derived.RangeFuncCalls
import Derived.RangeFuncLeaves
import Derived.Shelf.Abstract
import Derived.Shelf.RegionOpen
import Derived.OwnWalkIn
import Derived.TacticsInMore
import Derived.LoopNIn
import Derived.LoopIn
import Derived.Test.YthipcinibldgnaaGreatBin02
import Derived.Test.YthipcinibldgnaaGreatBin03
import Derived.Test.YthipcinibldgnaaGreatBin00
open Go.Value renaming int->O,pointer->qP,slice->qS,bool->qB
open Go.Ending renaming returned->qR
open Go.Obj renaming cells->qC
open Go.IntKind renaming wrap->qW,i64->qL
open Go.Lib renaming hid->qH
open Go.RowKit.Below renaming refl->qK
open Go.World renaming block_lt_of_cell?->qO
open Nat renaming le_refl->qN
open Go.Act renaming put->qJ
open Go renaming undef->qD
set_option maxHeartbeats 4000000
namespace Go.Proofs.YthipcinibldgnaaGreat
section
open Go.RowKit
theorem zq4 {α:Type} (l:List α) (i:Nat) (a:α):l.toArray.setIfInBounds i a=(l.set i a).toArray:=List.setIfInBounds_toArray ..
theorem zr4 {α:Type} (b a:α) (l:List α):(b::l).set 0 a=a::l:=rfl
theorem zs4 {α:Type} (b a:α) (l:List α) (n:Nat):(b::l).set (n+1) a=b::l.set n a:=rfl
end
section
attribute [local go_sem] Oper.semAt_some
open Go.RowKit Go.Shelf
def upto {α:Type} (f:Nat->α) (k:Nat):List α:=(List.range k).map f
theorem ZA {α:Type} (f:Nat->α) (k:Nat):upto f (k+1)=upto f k++[f k]:=by simp [upto,List.range_succ]
theorem Zq {α:Type} (f:Nat->α) (k:Nat):(upto f k).length=k:=by simp [upto]
def sideP (l:List Pt) (i:Nat):Pt × Pt:=(nth l i,nth l ((i+1) % l.length))
def encS (x:Pt × Pt):Array Value:=#[.agg #[O qL x.1.x,O qL x.1.y],.agg #[O qL x.2.x,O qL x.2.y]]
set_option maxRecDepth 100000 in
theorem Z92 {α : Type} (encA : α -> Array Value) (f : Nat -> α) (n : Nat) (hn : 1 <= n) (W : World) (l Bs n0 n0' b o cap : Nat) (ps : List Pt) (hlen : ps.length <= 70368744177663) (hb : b < n0) (hBs : Bs < n0') (hn0' : n0' <= W.heap.size) (hf : ∀ i, i < ps.length -> encA (f i) = encS (sideP ps i)) (J Jx : List α -> World -> Prop)
  (hJ:AbidesFrom W.heap.size J)
  (hY:∀ pre x W1,J pre W1->pre.length<ps.length->YieldAt Fence.wide (n-1) Tryz.prog l (encA x) W1 fun e W' =>
   (e=qR (qB true)/\J (pre++[x]) W'/\Below n0' W1 W')\/(e=qR (qB false)/\Jx (pre++[x]) W')) (h00:n0<=n0')
  (hB:W.cell? ⟨Bs,0,none⟩=some (qS (some ⟨b,o,none⟩) ps.length cap))
  (hc:∀ j,j<ps.length->W.cell? ⟨b,o+j*2,none⟩=some (O qL (nth ps j).x)/\W.cell? ⟨b,o+j*2+1,none⟩=some (O qL (nth ps j).y)) (h0:J [] W) :
  CallsIn Fence.wide n Tryz.prog 117 #[.func (.yield l) #[] #[],qP (some ⟨Bs,0,none⟩)] W fun e W'=>(∃ v,e=qR v) /\
   ((∃ ys,ys=upto f ps.length/\J ys W')\/(∃ pre,(∃ k,k<=ps.length/\pre=upto f k)/\Jx pre W')):=by
 refine callsIn_of_wp Tryz.func117 rfl trivial ?_ rfl;simp only [Tryz.ntmps117,List.size_toArray,List.length_cons,List.length_nil,Nat.reduceAdd,Nat.reduceSub,Array.replicate_succ,Array.replicate_zero,List.push_toArray,List.append_toArray,List.nil_append,List.cons_append];gi_wp2
 gi_loopw [7] (fun i wr=>∃ k:Nat,k<=ps.length/\i=O qL k/\J (upto f k) wr/\Below n0' W wr)
  (fun i _=>ps.length-(intOf i).toNat)
 case atStart=>exact⟨0,Nat.zero_le _,rfl,h0,qK _ _⟩
 case round =>
  obtain⟨k,hk,rfl,hJs,hnx⟩:=hrel;by_cases hlt:k<ps.length
  ·have hn0:0<ps.length:=by omega
   obtain⟨m,hm⟩:∃ m,(k+1) % ps.length=m:=⟨_,rfl⟩;have hmlt:m<ps.length:=by rw [<- hm];exact Nat.mod_lt _ hn0
   have hx:sideP ps k=(nth ps k,nth ps m):=by rw [sideP,hm]
   have b1:W.heap.size<=wr.heap.size:=hnx.size;have hBl:=qO W _ hB;have e0:wr.cell? ⟨Bs,0,none⟩=some (qS (some ⟨b,o,none⟩) ps.length cap):=(hnx.cell (p:=⟨Bs,0,none⟩) hBs).trans hB;have e1:=(hnx.cell (p:=⟨b,o+k*2,none⟩) (by show b<n0';omega)).trans (hc k hlt).1
   have e2:=(hnx.cell (p:=⟨b,o+k*2+1,none⟩) (by show b<n0';omega)).trans (hc k hlt).2
   have e3:=(hnx.cell (p:=⟨b,o+m*2,none⟩) (by show b<n0';omega)).trans (hc m hmlt).1
   have e4:=(hnx.cell (p:=⟨b,o+m*2+1,none⟩) (by show b<n0';omega)).trans (hc m hmlt).2
   have hJ1:J (upto f k) (wr.alloc (qC #[O qL (nth ps k).x,O qL (nth ps k).y] 36)).drew :=
    hJ _ _ _ none (hJ _ _ _ none hJs (World.grownBy_alloc _ _ none) (fun r e=>by cases e)) (Z4l _ none) (fun r e=>by cases e)
   obtain⟨fn,tmps,assign,body,hy,hR⟩:=hY _ (f k) _ hJ1 (by rw [Zq];exact hlt)
   rw [hf k hlt,hx] at hy;dsimp only [encS] at hy;have hw1:qW qL ((k:Int)+1)=(k:Int)+1:=zW2;have hw2:((k:Int)+1).tmod (ps.length:Int)=(m:Int):=by
    have:((k:Int)+1).tmod (ps.length:Int)=(((k+1) % ps.length:Nat):Int):=by
     rw [Int.tmod_eq_emod_of_nonneg (by omega)];rfl
    rw [this,hm]
   have hbl:=qO wr _ e1;have hB2:Below wr.heap.size wr (wr.alloc (qC #[O qL (nth ps k).x,O qL (nth ps k).y] 36)):=(qK _ wr).alloc (qN _) _;have f0:=(hB2.cell (p:=⟨Bs,0,none⟩) (qO wr _ e0)).trans e0;have f1:=(hB2.cell (p:=⟨b,o+k*2,none⟩) hbl).trans e1;have f2:=(hB2.cell (p:=⟨b,o+k*2+1,none⟩) hbl).trans e2;have f3:=(hB2.cell (p:=⟨b,o+m*2,none⟩) hbl).trans e3;have f4:=(hB2.cell (p:=⟨b,o+m*2+1,none⟩) hbl).trans e4;have hne:¬ ps=[]:=by intro h;rw [h] at hn0;simp at hn0
   have hc':=qH hc;have hm':=qH hm;have hx':=qH hx;have hJ':=qH hJ1;clear hc hm hx hB hJ1;gi_wp2;refine Z0h (Zk _) 10 (by kernel_rfl) (by kernel_rfl) (by kernel_rfl) ?_
   simp only [List.take_succ_cons,List.take_zero,List.drop_succ_cons,List.drop_zero]
   iterate 10 (refine wpStill_step (fun K hK=>?_);go_simp;refine hK _ ?_;clear hK K)
   refine wpStill_nil ?_;gi_wp2;refine hR.mono ?_;rintro e W3 (⟨rfl,hJ3,hk3⟩ | ⟨rfl,hJx3⟩)
   ·gi_wp2
    go_roundw
    case rel=>exact⟨k+1,by omega,by simp,by rw [ZA];exact hJ3,hnx.trans ((((qK n0' wr).alloc (by omega) _).drew).trans hk3)⟩
    case measure=>simp [intOf];omega
   ·gi_wp2
    refine bodyPost_ret (results_none rfl _ _ _) rfl ?_;exact⟨⟨_,rfl⟩,.inr ⟨_,⟨k+1,by omega,(ZA _ _).symm⟩,hJx3⟩⟩
  ·obtain rfl:k=ps.length:=by omega
   gi_wp2;go_end0;exact⟨⟨_,rfl⟩,.inl ⟨_,rfl,hJs⟩⟩
set_option maxRecDepth 100000 in
theorem Z3R {α:Type} (n:Nat) (l Bs cap:Nat) (a:Option Addr) (J:List α->World->Prop) (W:World) (hB:W.cell? ⟨Bs,0,none⟩=some (qS a 0 cap)) (h0:J [] W) :
  CallsIn Fence.wide n Tryz.prog 117 #[.func (.yield l) #[] #[],qP (some ⟨Bs,0,none⟩)] W fun e W'=>(∃ v,e=qR v)/\J [] W':=by
 refine callsIn_of_wp Tryz.func117 rfl trivial ?_ rfl;simp only [Tryz.ntmps117,List.size_toArray,List.length_cons,List.length_nil,Nat.reduceAdd,Nat.reduceSub,Array.replicate_succ,Array.replicate_zero,List.push_toArray,List.append_toArray,List.nil_append,List.cons_append];gi_wp2
 gi_loopw [7] (fun i wr=>i=O qL 0/\J [] wr) (fun _ _=>0)
 case atStart=>exact⟨rfl,h0⟩
 case round =>
  obtain⟨rfl,hJs⟩:=hrel;gi_wp2;go_end0;exact⟨⟨_,rfl⟩,hJs⟩
theorem Z5i (a:Option Addr) (len cap:Nat) (w:World) :
  Calls Tryz.prog 67 #[qS a len cap] w fun e w'=>e=qR (.func (.func 117) #[] #[qP (some ⟨w.heap.size,0,none⟩)])/\w.alloc (qC #[qS a len cap] 23)=w':=by
 go_enter Tryz.func67,Tryz.ntmps67;go_wp2;go_ret;exact⟨rfl,rfl⟩
theorem Z38 {α:Type} (encA:α->Array Value) (f:Nat->α) (n:Nat) (hn:1<=n) (Bs n0:Nat) (sv:Value) (ps:List Pt) (w:World) (hBs:Bs<n0) (hn0:n0<=w.heap.size)
  (hc:w.cell? ⟨Bs,0,none⟩=some sv) (hI:Z7 n0 w sv ps) (hf:∀ i,i<ps.length->encA (f i)=encS (sideP ps i)) :
  SeqStopsK Fence.wide n Tryz.prog 117 #[qP (some ⟨Bs,0,none⟩)] encA (Below n0) (fun ys=>ys=upto f ps.length)
   (fun pre=>∃ k,k<=ps.length/\pre=upto f k) ps.length w:=fun l J Jx W hW hJ _ hY h0=>by
 have hc':=(hW.cell (p:=⟨Bs,0,none⟩) (by show Bs<_;omega)).trans hc
 have hsz:=hW.size;obtain⟨hl,a,cap,rfl,hcs⟩:=hI.below (hW.mono hn0);rcases hcs with rfl | ⟨b,o,rfl,hb,hcs⟩
 ·exact (Z3R n l Bs _ a J W hc' h0).mono fun e W' ⟨he,hj⟩=>⟨he,.inl ⟨_,rfl,hj⟩⟩
 ·exact Z92 encA f n hn W l Bs n0 n0 b o (ps.length+cap) ps hl hb hBs (by omega) hf J Jx hJ hY (qN _) hc' hcs h0
end
def combos:List Int->Nat->List (List Int)
 | _,0=>[[]]
 | [],_+1=>[]
 | x::xs,k+1=>(combos xs k).map (x::·)++combos xs (k+1)
def allTo (l:List Int) (n:Nat):List (List Int):=(List.range n).flatMap (combos l)
theorem Z1G (l:List Int) (n:Nat):allTo l (n+1)=allTo l n++combos l n:=by simp [allTo,List.range_succ]
theorem ZV {s : List Int} : ∀ {l : List Int} {k : Nat}, s ∈ combos l k ↔ s.Sublist l /\ s.length = k
 | l, 0 => by
  simp only [combos,List.mem_singleton,List.length_eq_zero_iff];exact⟨fun h=>⟨by rw [h];exact List.nil_sublist _,h⟩,fun h=>h.2⟩
 | [], k + 1 => by
  simp only [combos,List.not_mem_nil,false_iff];rintro ⟨h1,h2⟩;rw [List.sublist_nil.1 h1] at h2;simp at h2
 | x :: xs, k + 1 => by
  simp only [combos,List.mem_append,List.mem_map];constructor
  ·rintro (⟨t,ht,rfl⟩ | h)
   ·obtain⟨h1,h2⟩:=ZV.1 ht
    exact⟨h1.cons_cons x,by simp [h2]⟩
   ·obtain⟨h1,h2⟩:=ZV.1 h
    exact⟨h1.cons x,h2⟩
  ·rintro ⟨h1,h2⟩
   rcases List.sublist_cons_iff.1 h1 with h | ⟨t,rfl,h⟩
   ·exact .inr (ZV.2 ⟨h,h2⟩)
   ·exact .inl ⟨t,ZV.2 ⟨h,by simpa using h2⟩,rfl⟩
theorem Z63:∀ {l:List Int} {k:Nat},l.length<k->combos l k=[]
 | l, k, h => by
  rw [List.eq_nil_iff_forall_not_mem];intro s hs;obtain⟨h1,h2⟩:=ZV.1 hs;have:=h1.length_le;omega
theorem Z22 {l s:List Int} {n:Nat}:s ∈ allTo l n↔s.Sublist l/\s.length<n:=by
 simp only [allTo,List.mem_flatMap,List.mem_range,ZV];exact⟨fun ⟨k,h1,h2,h3⟩=>⟨h2,by omega⟩,fun ⟨h1,h2⟩=>⟨_,h2,h1,rfl⟩⟩
def lexB:List Int->List Int->Bool
 | [],_=>false
 | _::_,[]=>false
 | x::xs,y::ys=>if x=y then lexB xs ys else decide (x<y)
def betterB (a b:List Int):Bool:=if a.length=b.length then lexB a b else decide (a.length<b.length)
theorem Z15 : ∀ {l : List Int} {k : Nat}, l.Pairwise (· < ·) -> (combos l k).Pairwise fun a b => lexB a b = true
 | _,0,_=>by simp [combos]
 | [],_+1,_=>by simp [combos]
 | x :: xs, k + 1, h => by
  rw [List.pairwise_cons] at h;simp only [combos];rw [List.pairwise_append];refine⟨?_,Z15 h.2,?_⟩
  ·rw [List.pairwise_map]
   exact (Z15 h.2).imp fun h=>by simpa [lexB] using h
  ·intro a ha b hb
   obtain⟨t,ht,rfl⟩:=List.mem_map.1 ha;obtain⟨h1,h2⟩:=ZV.1 hb;cases b with
   | nil=>simp at h2
   | cons y ys =>
    have:=h.1 y (h1.subset (by simp))
    simp only [lexB];rw [if_neg (by omega)];exact decide_eq_true this
theorem Z2M {l:List Int} (h:l.Pairwise (·<·)):∀ n,(allTo l n).Pairwise fun a b=>betterB a b=true
 | 0=>by simp [allTo]
 | n + 1 => by
  rw [Z1G,List.pairwise_append];refine⟨Z2M h n,?_,?_⟩
  ·refine (Z15 h).imp_of_mem fun {a b} ha hb hab=>?_
   unfold betterB;rw [if_pos (by rw [(ZV.1 ha).2,(ZV.1 hb).2])];exact hab
  ·intro a ha b hb
   have h1:=(Z22.1 ha).2;have h2:=(ZV.1 hb).2;unfold betterB;rw [if_neg (by omega)];exact decide_eq_true (by omega)
section
variable (lead:List Int->Int)
def farS (s:Int × List Int) (x:List Int):Int × List Int:=if s.1<lead x then (lead x,x) else s
def farL (L:List (List Int)):Int × List Int:=L.foldl (farS lead) (-1,[])
def IsBest (L:List (List Int)) (r:Int × List Int):Prop:=r.2 ∈ L/\r.1=lead r.2/\∀ x ∈ L,lead x<r.1\/(lead x=r.1/\(x=r.2\/betterB r.2 x=true))
theorem Z7x (h0 : ∀ x, 0 <= lead x) : ∀ (L : List (List Int)) (P : List (List Int)) (r : Int × List Int), (P ++ L).Pairwise (fun a b => betterB a b = true) -> (P = [] /\ r = (-1, []) \/ IsBest lead P r) -> L ≠ [] \/ P ≠ [] -> IsBest lead (P ++ L) (L.foldl (farS lead) r)
 | [], P, r, _, h, hn => by
  rcases h with⟨h,_⟩ | h
  ·subst h;simp at hn
  ·simpa using h
 | x :: L, P, r, hs, h, _ => by
  have:=Z7x h0 L (P++[x]) (farS lead r x) (by simpa using hs) (.inr ?_) (.inr (by simp))
  ·simpa using this
  ·unfold farS
   rcases h with⟨rfl,rfl⟩ | ⟨a,b,c⟩
   ·have:=h0 x
    rw [if_pos (by simp only;omega)]
    refine⟨by simp,rfl,fun y hy=>?_⟩
    obtain rfl:y=x:=by simpa using hy
    exact .inr ⟨rfl,.inl rfl⟩
   ·have hpx:=(List.pairwise_append.1 hs).2.2 r.2 a x (by simp)
    by_cases hc:r.1<lead x
    ·rw [if_pos hc]
     refine⟨by simp,rfl,fun y hy=>?_⟩
     rcases List.mem_append.1 hy with hy | hy
     ·have d:=c y hy
      left;simp only;omega
     ·obtain rfl:y=x:=by simpa using hy
      exact .inr ⟨rfl,.inl rfl⟩
    ·rw [if_neg hc]
     refine⟨List.mem_append.2 (.inl a),b,fun y hy=>?_⟩
     rcases List.mem_append.1 hy with hy | hy
     ·exact c y hy
     ·obtain rfl:y=x:=by simpa using hy
      rcases Int.lt_or_eq_of_le (Int.not_lt.1 hc) with e | e
      ·exact .inl e
      ·exact .inr ⟨e,.inr hpx⟩
theorem Za3 {top:Int} (ht:∀ x,lead x<=top) {s:Int × List Int} (hs:s.1=top) (L:List (List Int)):L.foldl (farS lead) s=s:=by
 induction L with
 | nil=>rfl
 | cons x L ih =>
  have:farS lead s x=s:=by unfold farS;rw [if_neg];have:=ht x;omega
  rw [List.foldl_cons,this];exact ih
end
def chosenL:List Int->Nat->List Int
 | [],_=>[]
 | x::xs,b=>if b % 2=1 then x::chosenL xs (b / 2) else chosenL xs (b / 2)
theorem Z1E:∀ (l:List Int) (b:Nat),(chosenL l b).Sublist l
 | [],_=>by simp [chosenL]
 | x :: xs, b => by
  unfold chosenL
  split
  ·exact (Z1E xs (b / 2)).cons_cons x
  ·exact (Z1E xs (b / 2)).cons x
section
attribute [local go_sem] Oper.semAt_some
attribute [local irreducible] wpQuiet
open Go.RowKit Go.Shelf
def headOk (l:List Pt) (k:Nat):Prop:=Z3 (nth l k)=true/\(0<k->cmpP (nth l 0) (nth l k)<0)
def GoValid (l:List Pt):Prop:=1<=l.length/\l.length<=64/\(∀ k,k<l.length->headOk l k) /\
 (3<=l.length->∀ i,i<l.length->∀ k,k<l.length->nth l k≠(sideP l i).1->nth l k≠(sideP l i).2->0<Z5 (sideP l i).1 (sideP l i).2 (nth l k))
open Classical in
noncomputable def Zb (l:List Pt):Bool:=decide (GoValid l)
set_option maxRecDepth 100000 in
theorem Z3X (v:Value) (l:List Pt) (w:World) (hp:Z7 w.heap.size w v l) (hs:l.length<1\/64<l.length) :
  Calls Tryz.prog 63 #[v] w fun e w'=>e=qR (qB (Zb l))/\Below w.heap.size w w':=by
 have hr:Zb l=false:=by simp only [Zb,decide_eq_false_iff_not];rintro ⟨h1,h2,_⟩;omega
 rw [hr];clear hr;obtain⟨hl,a,cap,rfl,hc⟩:=hp;clear hc;refine (callsIn_wide (n:=9)).1 ?_;refine callsIn_of_wp_marks Tryz.func63 rfl trivial ?_ rfl;simp only [Tryz.ntmps63,List.size_toArray,List.length_cons,List.length_nil,Nat.reduceAdd,Nat.reduceSub,Array.replicate_succ,Array.replicate_zero,List.push_toArray,List.append_toArray,List.nil_append,List.cons_append];refine wpIn_wide.2 ?_;rcases hs with hs | hs
 ·have d:decide ((l.length:Int)<1)=true:=by simp;omega
  have hs':=qH hs;clear hs;go_wp2;exact⟨qB false,by simp [results,Tryz.f63,go_sem],rfl,zB2⟩
 ·have d:decide ((l.length:Int)<1)=false:=by simp;omega
  have d:decide (64<(l.length:Int))=true:=by simp;omega
  have hs':=qH hs;clear hs;go_wp2;exact⟨qB false,by simp [results,Tryz.f63,go_sem],rfl,zB2⟩
theorem Boxed.below {W W':World} {B n:Nat} {t:TypeId} {v:Value} (h:Boxed W B t v) (hb:Below n W W') (hlt:B<n):Boxed W' B t v:=(hb.block B hlt).trans h
def Has (W:World) (B:Nat) (cs:Array Value) (t:TypeId):Prop:=W.heap[B]?=some (qC cs t (0,0))
theorem Has.lt {W:World} {B:Nat} {cs:Array Value} {t:TypeId} (h:Has W B cs t):B<W.heap.size:=(Array.getElem?_eq_some_iff.1 h).1
theorem Z0o {W W':World} {row:Option Nat} {B:Nat} {cs:Array Value} {t:TypeId} (h:Has W B cs t) (hg:W.grownBy W' row) (hrow:∀ r,row=some r->∃ o:Obj,W.heap[r]?=some o/\o.isCells=false):Has W' B cs t :=
 (hg.block B h.lt (fun e=>by obtain⟨o,ho,hc⟩:=hrow B e.symm;rw [show W.heap[B]?=_ from h] at ho;cases ho;cases hc)).trans h
theorem Has.below {W W':World} {B n:Nat} {cs:Array Value} {t:TypeId} (h:Has W B cs t) (hb:Below n W W') (hlt:B<n):Has W' B cs t:=(hb.block B hlt).trans h
theorem Has.new (W:World) (cs:Array Value) (t:TypeId):Has (W.alloc (qC cs t)) W.heap.size cs t:=World.alloc_heap_new W _
theorem Has.cell {W:World} {B:Nat} {cs:Array Value} {t:TypeId} (h:Has W B cs t) {i:Nat} {v:Value} (hi:cs[i]?=some v):W.cell? ⟨B,i,none⟩=some v:=by
 simp [World.cell?,show W.heap[B]?=_ from h,hi]
def sideOk (l:List Pt) (s:Pt × Pt):Prop:=∀ k,k<l.length->nth l k≠s.1->nth l k≠s.2->0<Z5 s.1 s.2 (nth l k)
def okTo (l:List Pt) (a b:Pt) (k:Nat):Prop:=∀ j,j<k->nth l j≠a->nth l j≠b->0<Z5 a b (nth l j)
theorem Z9i {l:List Pt} {a b:Pt} {k:Nat} (h:okTo l a b k) (hk:nth l k=a\/nth l k=b):okTo l a b (k+1):=fun j hj h1 h2=>by
 by_cases e:j=k
 ·subst e;rcases hk with hk | hk
  ·exact absurd hk h1
  ·exact absurd hk h2
 ·exact h j (by omega) h1 h2
theorem Z9j {l:List Pt} {a b:Pt} {k:Nat} (h:okTo l a b k) (hk:0<Z5 a b (nth l k)):okTo l a b (k+1):=fun j hj h1 h2=>by
 by_cases e:j=k
 ·subst e;exact hk
 ·exact h j (by omega) h1 h2
theorem ZaU (px py ax ay bx by':Int):((px=ax/\py=ay)\/(px=ax/\¬ py=ay/\ax=bx/\py=by')\/(¬ px=ax/\px=bx/\py=by')) \/
  ((px=ax/\¬ py=ay/\ax=bx/\¬ py=by')\/(px=ax/\¬ py=ay/\¬ ax=bx)\/(¬ px=ax/\px=bx/\¬ py=by')\/(¬ px=ax/\¬ px=bx)):=by omega
theorem Pt.ne_of {a b:Pt} (h:¬ (a.x=b.x/\a.y=b.y)):a≠b:=fun e=>h (by rw [e];exact⟨rfl,rfl⟩)
theorem ZD {B:Nat} {W W':World} (h:Below W.heap.size W W'):KeepsFrom B W W' :=
 ⟨h.size,fun k _ _ hk _=>(h.block k (Array.getElem?_eq_some_iff.1 hk).1).trans hk⟩
theorem Z2T {α:Type} {f:Nat->α} {n:Nat} {x:α}:x ∈ upto f n↔∃ i,i<n/\f i=x:=by simp [upto]
abbrev PlS:={ s:Pt × Pt // Z3 s.1=true/\Z3 s.2=true }
theorem Z0c {l:List Pt} (h:∀ k,k<l.length->Z3 (nth l k)=true) (k:Nat):Z3 (nth l k)=true:=by
 by_cases hk:k<l.length
 ·exact h k hk
 ·have:nth l k=⟨0,0⟩:=by unfold nth;simp [List.getD_eq_getElem?_getD,List.getElem?_eq_none (by omega:l.length<=k)]
  rw [this];rfl
set_option maxRecDepth 100000 in
theorem Z4W (v : Value) (l : List Pt) (w : World) (hp : Z7 w.heap.size w v l) (h1 : 1 <= l.length) (h2 : l.length <= 64) :
  Calls Tryz.prog 63 #[v] w fun e w'=>e=qR (qB (Zb l))/\Below w.heap.size w w':=by
 obtain⟨hl,a,cap,rfl,hc⟩:=hp;obtain⟨b,o,rfl,hb,hc⟩:∃ b o,a=some ⟨b,o,none⟩/\b<w.heap.size/\∀ j,j<l.length->w.cell? ⟨b,o+j*2,none⟩=some (O qL (nth l j).x)/\w.cell? ⟨b,o+j*2+1,none⟩=some (O qL (nth l j).y):=by
  rcases hc with rfl | h
  ·simp at h1
  ·exact h
 refine (callsIn_wide (n:=9)).1 ?_;refine callsIn_of_wp_marks Tryz.func63 rfl trivial ?_ rfl;simp only [Tryz.ntmps63,List.size_toArray,List.length_cons,List.length_nil,Nat.reduceAdd,Nat.reduceSub,Array.replicate_succ,Array.replicate_zero,List.push_toArray,List.append_toArray,List.nil_append,List.cons_append];refine wpIn_wide.2 ?_;have d1:decide ((l.length:Int)<1)=false:=by simp;omega
 have d2:decide (64<(l.length:Int))=false:=by simp;omega
 have hc':=qH hc;clear hc;go_wp2
 go_loopw [19] (fun i wr=>∃ k:Nat,k<=l.length/\i=O qL k/\(∀ j,j<k->headOk l j) /\
  Boxed wr w.heap.size 23 (qS (some ⟨b,o,none⟩) l.length (l.length+cap))/\Boxed wr (w.heap.size+1) 4 (qB false)/\Below w.heap.size w wr) (fun i _=>l.length-(intOf i).toNat)
 case atStart =>
  have bS:=Boxed.new w 23 (qS (some ⟨b,o,none⟩) l.length (l.length+cap));have bR:=Boxed.new (w.alloc (qC #[qS (some ⟨b,o,none⟩) l.length (l.length+cap)] 23)) 4 (qB false);rw [World.size_alloc] at bR;exact⟨0,Nat.zero_le _,rfl,fun j h=>by omega,bS.alloc _,bR,zB2⟩
 case round =>
  obtain⟨k,hk,rfl,hall,bS,bR,hB⟩:=hrel;by_cases hlt:k<l.length
  ·have hz := hB.size
   have hsr:=bR.lt;have c0:=bS.cell;have c1:=(hB.cell (p:=⟨b,o+k*2,none⟩) hb).trans (hc'.out k hlt).1;have c2:=(hB.cell (p:=⟨b,o+k*2+1,none⟩) hb).trans (hc'.out k hlt).2;have c3:=(hB.cell (p:=⟨b,o+0*2,none⟩) hb).trans (hc'.out 0 (by omega)).1
   have c4:=(hB.cell (p:=⟨b,o+0*2+1,none⟩) hb).trans (hc'.out 0 (by omega)).2
   simp only [Nat.zero_mul,Nat.add_zero] at c3 c4;have hB2:Below wr.heap.size wr (wr.alloc (qC #[O qL (nth l k).x,O qL (nth l k).y] 36)):=(qK _ wr).alloc (qN _) _;have hall':=qH hall;have bS':=qH bS;have bR':=qH bR;clear hall bS bR;have r0:=bR'.out.cell;have r1:=bR'.out.frozen;cases hpl:placeB (nth l k).x (nth l k).y
   ·have hr:Zb l=false:=by
     simp only [Zb,decide_eq_false_iff_not];rintro ⟨_,_,h3,_⟩;have:=(h3 k hlt).1;rw [Z3,hpl] at this;cases this
    have HR:=qH hr;clear hr;go_wp2
    (refine Zh (by kernel_rfl) (by kernel_rfl) ?_;(iterate 4 (apply Zf;(case hw=>rfl);(case hval=>(intro w1 hw1;have hcx:=Low.cells hw1;simp only [Oper.quietAt];go_simp;first | done | (first | (go_at_call 64;exact Low.calls hw1 (Z2p _ _ _ hpl))) | rfl | exact⟨rfl,rfl⟩));simp only [qJ,zq4,zr4,zs4]));(iterate 10 (apply Zu;(case hw=>rfl);simp only [qJ,zq4,zr4,zs4]));(iterate 1 (apply Zf;(case hw=>rfl);(case hval=>(intro w1 hw1;have hcx:=Low.cells hw1;simp only [Oper.quietAt];go_simp;first | done | (first | (go_at_call 64;exact Low.calls hw1 (Z2p _ _ _ hpl))) | rfl | exact⟨rfl,rfl⟩));simp only [qJ,zq4,zr4,zs4]));refine wpQuiet_nil ?_;intro w2 hw2)
    have hz2:=hw2.out.size;rw [World.size_alloc] at hz2;have bR2:Boxed w2 (w.heap.size+1) 4 (qB false):=Boxed.below (bR'.out.alloc _) hw2.out (by rw [World.size_alloc];omega)
    have q0:=bR2.cell;have q1:=bR2.frozen;go_wp2;exact⟨qB false,by simp [results,Tryz.f63,go_sem,World.cell?_setCell_same' w2 ⟨w.heap.size+1,0,none⟩ (qB false) (by rw [q0];rfl)],Zs HR.out.symm,((hB.alloc (by omega) _).trans (hw2.out.mono (by rw [World.size_alloc];omega))).setCell (by simp) _⟩
   ·by_cases hk0:k=0
    ·subst hk0
     have dk:decide ((0:Int)<((0:Nat):Int))=false:=by simp
     go_wp2
     (refine Zh (by kernel_rfl) (by kernel_rfl) ?_;(iterate 7 (apply Zf;(case hw=>rfl);(case hval=>(intro w1 hw1;have hcx:=Low.cells hw1;simp only [Oper.quietAt];go_simp;first | done | (first | (go_at_call 64;exact Low.calls hw1 (Z0l _ _ _ hpl))) | rfl | exact⟨rfl,rfl⟩));simp only [qJ,zq4,zr4,zs4]));(iterate 6 (apply Zu;(case hw=>rfl);simp only [qJ,zq4,zr4,zs4]));(iterate 2 (apply Zf;(case hw=>rfl);(case hval=>(intro w1 hw1;have hcx:=Low.cells hw1;simp only [Oper.quietAt];go_simp;first | done | (first | (go_at_call 64;exact Low.calls hw1 (Z0l _ _ _ hpl))) | rfl | exact⟨rfl,rfl⟩));simp only [qJ,zq4,zr4,zs4]));refine wpQuiet_nil ?_;intro w2 hw2)
     have hz2:=hw2.out.size;rw [World.size_alloc] at hz2;go_wp2;go_roundw
     case rel =>
      refine⟨1,by omega,rfl,fun j hj=>?_,Boxed.below (bS'.out.alloc _) hw2.out (by rw [World.size_alloc];omega),Boxed.below (bR'.out.alloc _) hw2.out (by rw [World.size_alloc];omega),(hB.alloc (by omega) _).trans (hw2.out.mono (by rw [World.size_alloc];omega))⟩
      obtain rfl:j=0:=by omega
      exact⟨hpl,fun h=>by omega⟩
     case measure=>simp [intOf];omega
    ·have hk1:(0:Int)<(k:Int):=by omega
     have dk:decide (0<k)=true:=by simp;omega
     have hkn:0<k:=by omega
     have hl0:0<l.length:=by omega
     have hbl:=qO wr _ c1;have f0:=(hB2.cell (p:=⟨w.heap.size,0,none⟩) (qO wr _ c0)).trans c0;have f3:=(hB2.cell (p:=⟨b,o,none⟩) hbl).trans c3;have f4:=(hB2.cell (p:=⟨b,o+1,none⟩) hbl).trans c4;have g0:=Low.fact f0;have g3:=Low.fact f3;have g4:=Low.fact f4;by_cases hcmp:cmpV (nth l 0).x (nth l 0).y (nth l k).x (nth l k).y<0
     ·have dc:decide (0<=cmpV (nth l 0).x (nth l 0).y (nth l k).x (nth l k).y)=false:=by simp;omega
      have HC:=qH hcmp;clear hcmp;go_wp2
      (refine Zh (by kernel_rfl) (by kernel_rfl) ?_;(iterate 15 (apply Zf;(case hw=>rfl);(case hval=>(intro w1 hw1;have hcx:=Low.cells hw1;simp only [Oper.quietAt];go_simp;first | done | (first | (go_at_call 64;exact Low.calls hw1 (Z0l _ _ _ hpl)) | (go_at_call 113;exact Low.calls hw1 (Z3J _ _ _ _ _))) | rfl | exact⟨rfl,rfl⟩));simp only [qJ,zq4,zr4,zs4]));refine wpQuiet_nil ?_;intro w2 hw2)
      have hz2:=hw2.out.size;rw [World.size_alloc] at hz2;go_wp2;go_roundw
      case rel =>
       refine⟨k+1,by omega,by simp,fun j hj=>?_,Boxed.below (bS'.out.alloc _) hw2.out (by rw [World.size_alloc];omega),Boxed.below (bR'.out.alloc _) hw2.out (by rw [World.size_alloc];omega),(hB.alloc (by omega) _).trans (hw2.out.mono (by rw [World.size_alloc];omega))⟩
       by_cases e:j=k
       ·subst e;exact⟨hpl,fun _=>HC.out⟩
       ·exact hall'.out j (by omega)
      case measure=>simp [intOf];omega
     ·have dc:decide (0<=cmpV (nth l 0).x (nth l 0).y (nth l k).x (nth l k).y)=true:=by simp;omega
      have hr:Zb l=false:=by
       simp only [Zb,decide_eq_false_iff_not];rintro ⟨_,_,h3,_⟩;exact hcmp ((h3 k hlt).2 (by omega))
      have HR:=qH hr;clear hr hcmp;go_wp2
      (refine Zh (by kernel_rfl) (by kernel_rfl) ?_;(iterate 15 (apply Zf;(case hw=>rfl);(case hval=>(intro w1 hw1;have hcx:=Low.cells hw1;simp only [Oper.quietAt];go_simp;first | done | (first | (go_at_call 64;exact Low.calls hw1 (Z0l _ _ _ hpl)) | (go_at_call 113;exact Low.calls hw1 (Z3J _ _ _ _ _))) | rfl | exact⟨rfl,rfl⟩));simp only [qJ,zq4,zr4,zs4]));refine wpQuiet_nil ?_;intro w2 hw2)
      have hz2:=hw2.out.size;rw [World.size_alloc] at hz2;have bR2:Boxed w2 (w.heap.size+1) 4 (qB false):=Boxed.below (bR'.out.alloc _) hw2.out (by rw [World.size_alloc];omega)
      have q0:=bR2.cell;have q1:=bR2.frozen;go_wp2;exact⟨qB false,by simp [results,Tryz.f63,go_sem,World.cell?_setCell_same' w2 ⟨w.heap.size+1,0,none⟩ (qB false) (by rw [q0];rfl)],Zs HR.out.symm,((hB.alloc (by omega) _).trans (hw2.out.mono (by rw [World.size_alloc];omega))).setCell (by simp) _⟩
  ·obtain rfl:k=l.length:=by omega
   have c0:=bS.cell;have r0:=bR.cell;have r1:=bR.frozen;have hz:=hB.size;by_cases h3:l.length<3
   ·have d3:decide ((l.length:Int)<3)=true:=by simp;omega
    have hr:Zb l=true:=by
     simp only [Zb,decide_eq_true_eq];exact⟨h1,h2,hall,fun h=>by omega⟩
    have HR:=qH hr;clear hr hall;go_wp2;exact⟨qB true,by simp [results,Tryz.f63,go_sem,World.cell?_setCell_same' wr ⟨w.heap.size+1,0,none⟩ (qB true) (by rw [r0];rfl)],Zs HR.out.symm,hB.setCell (by simp) _⟩
   ·have d3 : decide ((l.length : Int) < 3) = false := by simp; omega
    have hall':=qH hall;clear hall;go_wp2_with (go_at_call 67;refine (Z5i _ _ _ _).mono ?_;rintro e w' ⟨rfl,rfl⟩);have hz':(wr.alloc (qC #[qS (some ⟨b,o,none⟩) l.length (l.length+cap)] 23)).heap.size=wr.heap.size+1:=by simp
    have hBa:Below w.heap.size w (wr.alloc (qC #[qS (some ⟨b,o,none⟩) l.length (l.length+cap)] 23)):=hB.alloc hz _;have bN:=Boxed.new wr 23 (qS (some ⟨b,o,none⟩) l.length (l.length+cap));have bS0:=bS.alloc (qC #[qS (some ⟨b,o,none⟩) l.length (l.length+cap)] 23);have bR0:=bR.alloc (qC #[qS (some ⟨b,o,none⟩) l.length (l.length+cap)] 23);obtain⟨W0,hW0⟩:∃ W0,(wr.alloc (qC #[qS (some ⟨b,o,none⟩) l.length (l.length+cap)] 23))=W0:=⟨_,rfl⟩;rw [hW0] at hz' hBa bN bS0 bR0 ⊢;clear hW0 bS bR c0 r0 r1;have hI:Z7 (wr.heap.size+1) W0 (qS (some ⟨b,o,none⟩) l.length (l.length+cap)) l :=
     Z7.mono (Z7.below hBa ⟨hl,_,cap,rfl,Or.inr ⟨b,o,rfl,hb,hc'.out⟩⟩) (by omega)
    have hpl:∀ i,Z3 (sideP l i).1=true/\Z3 (sideP l i).2=true:=fun i=>⟨Z0c (fun k hk=>(hall'.out k hk).1) _,Z0c (fun k hk=>(hall'.out k hk).1) _⟩
    refine (wpIn_wide (n:=9)).1 ?_;refine wpIn_rangeFunc_ownH rfl (by omega) (gf:=117) (lb:=#[qP (some ⟨wr.heap.size,0,none⟩)]) rfl trivial (enters_of Tryz.func117 (by kernel_rfl) rfl)
     (Z38 (fun s:PlS=>encS s.1) (fun i=>⟨sideP l i,hpl i⟩) 8 (by omega) wr.heap.size (wr.heap.size+1) _ l _ (by omega) (by rw [hz'];omega) bN.cell hI (fun _ _=>rfl)) belowK_t (belowK_b (by rw [hz'];omega)) (qK _ _) (fun _=>rfl)
     (fun pre W=>(Boxed W w.heap.size 23 (qS (some ⟨b,o,none⟩) l.length (l.length+cap))/\Boxed W (w.heap.size+1) 4 (qB false))/\(Below w.heap.size W0 W/\∀ s ∈ pre,sideOk l s.1))
     (fun c pre W=>(Boxed W (w.heap.size+1) 4 (qB false)/\(c=.ret/\∃ s ∈ pre,¬ sideOk l s.1))/\Below w.heap.size W0 W)
     (OwnFrom.and (OwnFrom.and (Own.from (boxed_own _ _ (fun _=>_)) _) (Own.from (boxed_own _ _ (fun _=>_)) _)) (OwnFrom.and (ownFrom_below (by rw [hz'];omega) (by rw [hz'];omega)) (ownFrom_pure _ _)))
     (fun c=>OwnFrom.and (OwnFrom.and (Own.from (boxed_own _ _ (fun _=>_)) _) (ownFrom_pure _ _)) (ownFrom_below (by rw [hz'];omega) (by rw [hz'];omega)))
     ⟨⟨bS0,bR0⟩,qK _ _,by simp⟩
     (fun x a' W=>∃ B1 B2,(Has W B1 #[O qL x.1.1.x,O qL x.1.1.y] 36/\Has W B2 #[O qL x.1.2.x,O qL x.1.2.y] 36)/\a'={ tmps:=#[qS (some ⟨b,o,none⟩) l.length (l.length+cap),qP (some ⟨w.heap.size,0,none⟩),qP (some ⟨w.heap.size+1,0,none⟩),u3,u4,qP (some ⟨B1,0,none⟩),qP (some ⟨B2,0,none⟩),qD,qD,qS (some ⟨b,o,none⟩) l.length (l.length+cap),O qL (l.length:Int),qB false,qB false,qS (some ⟨b,o,none⟩) l.length (l.length+cap),O qL (l.length:Int),qB false,qB false,qS (some ⟨b,o,none⟩) l.length (l.length+cap),O qL (l.length:Int),O qL (l.length:Int),qB false,u21,u22,u23,u24,u25,u26,u27,u28,u29,u30,u31,u32,u33,u34,u35,u36,u37,u38,u39,qS (some ⟨b,o,none⟩) l.length (l.length+cap),O qL (l.length:Int),qB false,qS (some ⟨b,o,none⟩) l.length (l.length+cap),.func (.func 117) #[] #[qP (some ⟨wr.heap.size,0,none⟩)],.agg #[O qL x.1.1.x,O qL x.1.1.y],.agg #[O qL x.1.2.x,O qL x.1.2.y],qD,qD,qD,qD,qD,qD,qD,qD,qD,qD,qD,qD,qD,qD,qD,qD,qD,qD,qD,qD,qD,qD],defers:=[] })
     (fun x a' _ X Y row hs hg hr=>by obtain⟨B1,B2,⟨g1,g2⟩,g3⟩:=hs;exact⟨B1,B2,⟨Z0o g1 hg (fun r e=>(hr r e).2),Z0o g2 hg (fun r e=>(hr r e).2)⟩,g3⟩)
     ?assign ?body ?done ?stop
    case assign =>
     rintro ll pre x W K ⟨⟨bS1,bR1⟩,hB1,hp1⟩ hK;unfold encS;gi_wp2;have hzW:=hB1.size;exact hK _ _ (((KeepsOthers.alloc _ _).trans (KeepsOthers.alloc _ _)).from _) (((qK _ W).alloc (by omega) _).alloc (by simp;omega) _)
      ⟨⟨(bS1.alloc _).alloc _,(bR1.alloc _).alloc _⟩,(hB1.alloc (by omega) _).alloc (by simp;omega) _,hp1⟩
      ⟨W.heap.size,W.heap.size+1,⟨Has.below (Has.new W _ _) ((qK (W.heap.size+1) _).alloc (by simp) _) (by omega),by have:=Has.new (W.alloc (qC #[O qL x.1.1.x,O qL x.1.1.y] 36)) #[O qL x.1.2.x,O qL x.1.2.y] 36;rwa [World.size_alloc] at this⟩,rfl⟩
    case body =>
     rintro ll pre ⟨⟨⟨ax,ay⟩,⟨bx,by'⟩⟩,hxx⟩ a' W hll ⟨r,hr⟩ ⟨⟨bS1,bR1⟩,hB1,hp1⟩ ⟨B1,B2,⟨g1,g2⟩,rfl⟩ hlt
     dsimp only at g1 g2 ⊢;have pa:=Zt hxx.1;have pb:=Zt hxx.2;dsimp only at pa pb;obtain⟨S,hS⟩:∃ S:PlS,S=⟨(⟨ax,ay⟩,⟨bx,by'⟩),hxx⟩:=⟨_,rfl⟩
     rw [<- hS];have HS:Hid (S.1=(⟨ax,ay⟩,⟨bx,by'⟩)):=by show S.1=_;rw [hS]
     clear hS;have hzW:=hB1.size;have hBw:=hBa.trans hB1;have c0:=bS1.cell;have hll':=qH hll;have hr':=qH hr;have hlt':=qH hlt;clear hll hr hlt hxx;gi_wp2
     gi_loopw [49] (fun i wv=>∃ k:Nat,k<=l.length/\i=O qL k/\okTo l ⟨ax,ay⟩ ⟨bx,by'⟩ k/\Below W.heap.size W wv) (fun i _=>l.length-(intOf i).toNat)
     case atStart=>exact⟨0,Nat.zero_le _,rfl,fun j h=>by omega,qK _ _⟩
     case round =>
      obtain⟨k,hk,rfl,hok,hv⟩:=hrel;by_cases hlk:k<l.length
      ·have hbv:=hBw.trans (hv.mono (by have:=hBw.size;omega))
       have c1:=(hbv.cell (p:=⟨b,o+k*2,none⟩) hb).trans (hc'.out k hlk).1;have c2:=(hbv.cell (p:=⟨b,o+k*2+1,none⟩) hb).trans (hc'.out k hlk).2;have pp:=Zt (hall'.out k hlk).1;obtain⟨px,py,hN⟩:∃ px py,nth l k=⟨px,py⟩:=⟨_,_,rfl⟩;rw [hN] at c1 c2 pp;dsimp only at c1 c2 pp;have HN:=qH hN;have hok':=qH hok;have hp1':=qH hp1;have G1:=g1.below hv g1.lt;have G2:=g2.below hv g2.lt;have bRv:=Boxed.below bR1 hv bR1.lt;have hzv:=hv.size;clear hN hok hp1;have hv2:Below wr.heap.size wr (wr.alloc (qC #[O qL px,O qL py] 36)):=(qK _ wr).alloc (qN _) _;have a1:=(hv2.cell (p:=⟨B1,0,none⟩) G1.lt).trans (G1.cell (i:=0) rfl);have a2:=(hv2.cell (p:=⟨B1,1,none⟩) G1.lt).trans (G1.cell (i:=1) rfl);have a3:=(hv2.cell (p:=⟨B2,0,none⟩) G2.lt).trans (G2.cell (i:=0) rfl);have a4:=(hv2.cell (p:=⟨B2,1,none⟩) G2.lt).trans (G2.cell (i:=1) rfl);have HG:=qH (And.intro G1 G2);have HR1:=qH (And.intro bS1 bR1);have HRv:=qH bRv;clear G1 G2 bS1 bR1 bRv;rcases ZaU px py ax ay bx by' with h | h
       ·rcases h with⟨rfl,rfl⟩ | ⟨rfl,hn,rfl,rfl⟩ | ⟨hn,rfl,rfl⟩
        all_goals
         gi_wp2;refine⟨trivial,?_⟩;gi_wp2;go_roundw
         case rel=>exact⟨k+1,by omega,by simp,Z9i hok'.out (by first | exact Or.inl HN.out | exact Or.inr HN.out),hv.alloc (by omega) _⟩
         case measure=>simp [intOf];omega
       ·have hne:nth l k≠⟨ax,ay⟩/\nth l k≠⟨bx,by'⟩:=by
         rw [HN.out];constructor
         ·exact Pt.ne_of (by dsimp only;omega)
         ·exact Pt.ne_of (by dsimp only;omega)
        have hT:Z5 ⟨ax,ay⟩ ⟨bx,by'⟩ (nth l k)=turnV ax ay bx by' px py:=by rw [HN.out];rfl
        have HNE:=qH hne;have HT:=qH hT;clear hne hT;by_cases ht:turnV ax ay bx by' px py<=0
        ·have dt:decide (turnV ax ay bx by' px py<=0)=true:=by simpa using ht
         have Ht:=qH ht;clear ht;rcases h with⟨rfl,hn,rfl,hm⟩ | ⟨rfl,hn,hm⟩ | ⟨hn,rfl,hm⟩ | ⟨hn,hm⟩
         all_goals
          gi_wp2_with (refine⟨trivial,?_⟩;gi_at_call 66;refine (CallsIn.inRound ll (callsIn_wide.2 (Z1r _ _ _ _ _ _ _ (by omega) (by omega) (by omega) (by omega) (by omega) (by omega) (by omega) (by omega) (by omega) (by omega) (by omega) (by omega)))).mono ?_;rintro e w2 ⟨rfl,hb2⟩;have bR2:=Boxed.below (HRv.out.alloc (qC #[O qL px,O qL py] 36)) hb2 (by rw [World.size_alloc];have:=HRv.out.lt;omega);have q0:=bR2.cell;have q1:=bR2.frozen)
          have hz2:=hb2.size;rw [World.size_alloc] at hz2;have hW2:Below W.heap.size W w2:=(hv.alloc (by omega) _).trans (hb2.mono (by rw [World.size_alloc];omega))
          exact⟨(ZD hW2).trans ((KeepsOthers.setCell _ _ _).from _),⟨bR2.set _,rfl,S,by simp,fun h=>by
           rw [HS.out] at h;have h4:=h k hlk HNE.out.1 HNE.out.2;rw [HT.out] at h4;have:=Ht.out;omega⟩,(hB1.trans (hW2.mono (by omega))).setCell (by simp) _⟩
        ·have dt:decide (turnV ax ay bx by' px py<=0)=false:=by simpa using ht
         have Ht:=qH ht;clear ht;rcases h with⟨rfl,hn,rfl,hm⟩ | ⟨rfl,hn,hm⟩ | ⟨hn,rfl,hm⟩ | ⟨hn,hm⟩
         all_goals
          gi_wp2_with (refine⟨trivial,?_⟩;gi_at_call 66;refine (CallsIn.inRound ll (callsIn_wide.2 (Z1r _ _ _ _ _ _ _ (by omega) (by omega) (by omega) (by omega) (by omega) (by omega) (by omega) (by omega) (by omega) (by omega) (by omega) (by omega)))).mono ?_;rintro e w2 ⟨rfl,hb2⟩)
          have hz2:=hb2.size;rw [World.size_alloc] at hz2;go_roundw
          case rel=>exact⟨k+1,by omega,by simp,Z9j hok'.out (by rw [HT.out];have:=Ht.out;omega),(hv.alloc (by omega) _).trans (hb2.mono (by rw [World.size_alloc];omega))⟩
          case measure=>simp [intOf];omega
      ·have hv':=qH hv
       have hok':Hid (sideOk l S.1):=by show sideOk l S.1;rw [HS.out];intro j hj;exact hok j (by omega)
       have hp1':=qH hp1;clear hok hp1;obtain rfl:k=l.length:=by omega
       gi_wp2;exact⟨ZD hv'.out,hv'.out.mono (by omega),⟨Boxed.below bS1 hv'.out bS1.lt,Boxed.below bR1 hv'.out bR1.lt⟩,hB1.trans (hv'.out.mono (by omega)),fun s hs=>by
        rcases List.mem_append.1 hs with hs | hs
        ·exact hp1'.out s hs
        ·obtain rfl:s=S:=by simpa using hs
         exact hok'.out⟩
    case done =>
     rintro D ys W hD rfl ⟨⟨bS1,bR1⟩,hB1,hp1⟩ hK;have hr:Zb l=true:=by
      simp only [Zb,decide_eq_true_eq];exact⟨h1,h2,hall'.out,fun _ i hi=>hp1 ⟨sideP l i,hpl i⟩ (Z2T.2 ⟨i,hi,rfl⟩)⟩
     have HR:=qH hr;have hzW:=hB1.size;clear hr hp1;have q0:=bR1.cell;have q1:=bR1.frozen;have hK':=(KeepsOthers.setCell W ⟨w.heap.size+1,0,none⟩ (qB true)).same D _ hK rfl;have hc5:=cell_kept (World.cell?_setCell_same' W ⟨w.heap.size+1,0,none⟩ (qB true) (by rw [q0];rfl)) (grownBy_putObj' _ D (.deferred none)) (fun r e=>by cases e;exact⟨_,hK',rfl⟩)
     have HK:=qH hK';have HC:=qH hc5;clear hK' hc5;go_wp2;refine⟨by simp,.inl ⟨_,_,rfl,run_takeDeferred HK.out,?_⟩⟩
     refine⟨qB true,by simp [results,Tryz.f63,go_sem,HC.out],Zs HR.out.symm,?_⟩
     exact ((hBa.trans hB1).setCell (p:=⟨w.heap.size+1,0,none⟩) (by simp) _).trans (belowK_b (w:=w) (qN _) _ D _ _ (by omega) HK.out rfl rfl)
    case stop =>
     rintro D c pre W hD ⟨k2,hk2,rfl⟩ ⟨⟨bR1,rfl,s,hs,hns⟩,hB1⟩ hK;have hr:Zb l=false:=by
      simp only [Zb,decide_eq_false_iff_not];rintro ⟨_,_,_,h4⟩;obtain⟨i,hi,rfl⟩:=Z2T.1 hs;exact hns (h4 (by omega) i (by omega))
     have HR:=qH hr;have hzW:=hB1.size;clear hr hns hs;have hc5:=cell_kept bR1.cell (grownBy_putObj' _ D (.deferred none)) (fun r e=>by cases e;exact⟨_,hK,rfl⟩)
     have HK:=qH hK;have HC:=qH hc5;clear hK hc5;refine wpIn_wide.2 ?_;go_wp2;refine⟨by simp,.inl ⟨_,_,rfl,run_takeDeferred HK.out,?_⟩⟩
     refine⟨qB false,by simp [results,Tryz.f63,go_sem,HC.out],Zs HR.out.symm,?_⟩
     exact (hBa.trans hB1).trans (belowK_b (w:=w) (qN _) _ D _ _ (by omega) HK.out rfl rfl)
theorem Zp (v:Value) (l:List Pt) (w:World) (hp:Z7 w.heap.size w v l) :
  Calls Tryz.prog 63 #[v] w fun e w'=>e=qR (qB (Zb l))/\Below w.heap.size w w':=by
 by_cases h:1<=l.length/\l.length<=64
 ·exact Z4W v l w hp h.1 h.2
 ·exact Z3X v l w hp (by omega)
end
section
attribute [local irreducible] wpQuiet
open Go.RowKit
theorem Zg {W:World} {B:Nat} {m:Msn} {vw vh vr:Value} {T:TypeId} (H:Has W B (Zc m vw vh vr) T):W.cell? ⟨B,0,none⟩=some vw/\W.cell? ⟨B,1,none⟩=some vh/\W.cell? ⟨B,2,none⟩=some (O qL m.start)/\W.cell? ⟨B,3,none⟩=some vr/\W.cell? ⟨B,4,none⟩=some (O qL m.speed)/\W.cell? ⟨B,5,none⟩=some (O qL m.part)/\W.cell? ⟨B,6,none⟩=some (O qL m.flow)/\W.cell? ⟨B,7,none⟩=some (O qL m.idle)/\W.cell? ⟨B,8,none⟩=some (O qL m.drive)/\W.cell? ⟨B,9,none⟩=some (O qL m.battery)/\W.cell? ⟨B,10,none⟩=some (O qL m.deadline) :=
 ⟨H.cell (i:=0) rfl,H.cell (i:=1) rfl,H.cell (i:=2) rfl,H.cell (i:=3) rfl,H.cell (i:=4) rfl,H.cell (i:=5) rfl,H.cell (i:=6) rfl,H.cell (i:=7) rfl,H.cell (i:=8) rfl,H.cell (i:=9) rfl,H.cell (i:=10) rfl⟩
theorem Z4Q {W:World} {B:Nat} {m:Msn} {vw vh vr:Value} {T:TypeId} (H:Has W B (Zc m vw vh vr) T):(∀ w1,Low W w1->w1.cell? ⟨B,0,none⟩=some vw)/\(∀ w1,Low W w1->w1.cell? ⟨B,1,none⟩=some vh)/\(∀ w1,Low W w1->w1.cell? ⟨B,2,none⟩=some (O qL m.start))/\(∀ w1,Low W w1->w1.cell? ⟨B,3,none⟩=some vr)/\(∀ w1,Low W w1->w1.cell? ⟨B,4,none⟩=some (O qL m.speed))/\(∀ w1,Low W w1->w1.cell? ⟨B,5,none⟩=some (O qL m.part))/\(∀ w1,Low W w1->w1.cell? ⟨B,6,none⟩=some (O qL m.flow))/\(∀ w1,Low W w1->w1.cell? ⟨B,7,none⟩=some (O qL m.idle))/\(∀ w1,Low W w1->w1.cell? ⟨B,8,none⟩=some (O qL m.drive))/\(∀ w1,Low W w1->w1.cell? ⟨B,9,none⟩=some (O qL m.battery))/\(∀ w1,Low W w1->w1.cell? ⟨B,10,none⟩=some (O qL m.deadline)) :=
 ⟨Low.fact (H.cell (i:=0) rfl),Low.fact (H.cell (i:=1) rfl),Low.fact (H.cell (i:=2) rfl),Low.fact (H.cell (i:=3) rfl),Low.fact (H.cell (i:=4) rfl),Low.fact (H.cell (i:=5) rfl),Low.fact (H.cell (i:=6) rfl),Low.fact (H.cell (i:=7) rfl),Low.fact (H.cell (i:=8) rfl),Low.fact (H.cell (i:=9) rfl),Low.fact (H.cell (i:=10) rfl)⟩
theorem Z08 (a b:Int) (w:World) (ha:0<=a) (ha':a<=1000000000000) (hb:1<=b) (hb':b<=1000000000000) :
  Calls Tryz.prog 110 #[O qL a,O qL b] w fun e w'=>e=qR (O qL (cdiv a b))/\Below w.heap.size w w':=by
 have e:ceilV a b=cdiv a b:=by
  have:badQ a b=false:=by simp [badQ,Z73 (n:=a) (by omega) ha',Z73 (n:=b) (by omega) hb'];omega
  simp [ceilV,this]
 rw [<- e];clear e;go_enter Tryz.func110,Tryz.ntmps110;go_wp2_with (go_at_call 156;refine (Zbz _ _ _).mono ?_;rintro e w1 ⟨rfl,hb1⟩;have hz1:=hb1.size;try simp at hz1)
 go_ret;exact⟨rfl,zB2⟩
theorem Z88 (s:Int) (w:World) (h1:0<=s) (h2:s<=1000000000000000000) :
  Calls Tryz.prog 121 #[O qL s] w fun e w'=>e=qR (O qL (rootUp s))/\w=w':=by
 have hi:=Z25 (m:=s.toNat) (n:=1000000000) (by omega)
 have hs:=(Z02 s.toNat).1;have hm:qW qL ((isqrt s.toNat:Int)*isqrt s.toNat)=(isqrt s.toNat:Int)*isqrt s.toNat:=IntWalk.i64_in _ (by
  have:(isqrt s.toNat:Int)*isqrt s.toNat=((isqrt s.toNat*isqrt s.toNat:Nat):Int):=by simp
  omega)
 clear hs;unfold rootUp;by_cases hlt:(isqrt s.toNat:Int)*isqrt s.toNat<s
 ·rw [if_pos hlt]
  go_enter Tryz.func121,Tryz.ntmps121;go_wp2_with (go_at_call 160;refine (Z5q _ _ h1 h2).mono ?_;rintro e w' ⟨rfl,rfl⟩);go_ret;exact⟨rfl,rfl⟩
 ·rw [if_neg hlt]
  have d:decide ((isqrt s.toNat:Int)*isqrt s.toNat<s)=false:=by simpa using hlt
  clear hlt;go_enter Tryz.func121,Tryz.ntmps121;go_wp2_with (go_at_call 160;refine (Z5q _ _ h1 h2).mono ?_;rintro e w' ⟨rfl,rfl⟩);go_ret;exact⟨rfl,rfl⟩
theorem Z4b (ax ay bx by':Int) (w:World) (a1:-300000<=ax) (a2:ax<=300000) (a3:-300000<=ay) (a4:ay<=300000) (b1:-300000<=bx) (b2:bx<=300000) (b3:-300000<=by') (b4:by'<=300000) :
  Calls Tryz.prog 73 #[.agg #[O qL ax,O qL ay],.agg #[O qL bx,O qL by']] w fun e w'=>e=qR (O qL (distV ax ay bx by'))/\Below w.heap.size w w':=by
 have h1:=sq_bd (a:=ax-bx) (m:=600000) (by omega) (by omega)
 have h2:=sq_bd (a:=ay-by') (m:=600000) (by omega) (by omega)
 have p':qW qL ((ax-bx)*(ax-bx))=(ax-bx)*(ax-bx):=zW2;have q':qW qL ((ay-by')*(ay-by'))=(ay-by')*(ay-by'):=zW2
 have r':qW qL ((ax-bx)*(ax-bx)+(ay-by')*(ay-by'))=(ax-bx)*(ax-bx)+(ay-by')*(ay-by'):=zW2
 have s1:0<=(ax-bx)*(ax-bx)+(ay-by')*(ay-by'):=by omega
 have s2:(ax-bx)*(ax-bx)+(ay-by')*(ay-by')<=1000000000000000000:=by omega
 clear h1 h2;unfold distV;go_enter Tryz.func73,Tryz.ntmps73;go_wp2_with (go_at_call 121;refine (Z88 _ _ s1 s2).mono ?_;rintro e w' ⟨rfl,rfl⟩);go_ret;exact⟨rfl,zB2⟩
theorem Z89 (m:Msn) (vw vh vr:Value) (n:Int) (w:World) (h1:0<=n) (h2:n<=900000) (h3:1<=m.speed) (h4:m.speed<=20000) :
  Calls Tryz.prog 120 #[.agg (Zc m vw vh vr),O qL n] w fun e w'=>e=qR (O qL (lastsV m.speed n))/\Below w.heap.size w w':=by
 have e:lastsV m.speed n=cdiv (n*100) m.speed:=by rw [lastsV,Int.mul_comm]
 have p:qW qL (n*100)=n*100:=zW2;rw [e];clear e;unfold Zc;go_enter Tryz.func120,Tryz.ntmps120;go_wp2_with (go_at_call 119;refine (Z6p _ _ _ (by omega) (by omega) (by omega) (by omega) (by omega)).mono ?_;rintro e w' ⟨rfl,rfl⟩)
 go_ret;exact⟨rfl,zB2⟩
theorem Z3f (m:Msn) (vw vh vr:Value) (n:Int) (w:World) (h1:0<=n) (h2:n<=900000) (h3:1<=m.speed) (h4:m.speed<=20000) (p1:0<=m.part) (p2:m.part<=500) (f1:0<=m.flow) (f2:m.flow<=5000) :
  Calls Tryz.prog 72 #[.agg (Zc m vw vh vr),O qL n] w fun e w'=>e=qR (O qL (growthV m.speed m.part m.flow n))/\Below w.heap.size w w':=by
 obtain⟨g1,g2,g3,g4,g5,g6⟩:=Z0U h1 h2 h3 p1 p2 f1 f2;have p:qW qL (n*m.part)=n*m.part:=zW2;have q:qW qL (lastsV m.speed n*m.flow)=lastsV m.speed n*m.flow:=zW2;have c1:=Z0n (a:=n*m.part) (b:=1000) g1 (by omega)
 have c2:=Z0n (a:=lastsV m.speed n*m.flow) (b:=100) g3 (by omega)
 have r:qW qL (cdiv (n*m.part) 1000+cdiv (lastsV m.speed n*m.flow) 100)=cdiv (n*m.part) 1000+cdiv (lastsV m.speed n*m.flow) 100:=zW2;clear c1 c2;unfold growthV;obtain⟨c0,c1,c2,c3,c4,c5,c6,c7,c8,c9,c10⟩:=Z4Q (Has.new w (Zc m vw vh vr) 26);have hl:∀ w1,Calls Tryz.prog 120 #[.agg (Zc m vw vh vr),O qL n] w1 fun e w'=>e=qR (O qL (lastsV m.speed n))/\Below w1.heap.size w1 w':=fun w1=>Z89 m vw vh vr n w1 h1 h2 h3 h4
 unfold Zc at *;go_enter Tryz.func72,Tryz.ntmps72;go_wp2_with (go_at_call 119;refine (Z6p _ _ _ (by omega) (by omega) (by omega) (by omega) (by omega)).mono ?_;rintro e w' ⟨rfl,rfl⟩)
 (refine Zh (by kernel_rfl) (by kernel_rfl) ?_;(iterate 10 (apply Zf;(case hw=>rfl);(case hval=>(intro w1 hw1;have hcx:=Low.cells hw1;simp only [Oper.quietAt];go_simp;first | done | (first | (go_at_call 120;exact Low.calls hw1 (hl _)) | (go_at_call 119;exact Low.calls_same hw1 (Z6p _ _ _ (by omega) (by omega) (by omega) (by omega) (by omega)))) | rfl | exact⟨rfl,rfl⟩));simp only [qJ,zq4,zr4,zs4]));refine wpQuiet_nil ?_;intro w2 hw2)
 go_wp2;go_ret;exact⟨rfl,zB2⟩
end
section
attribute [local irreducible] wpQuiet
open Go.RowKit Go.Shelf
theorem Z16 (ax ay bx by':Int):cmpV ax ay bx by'<0↔ax<bx\/ax=bx/\ay<by':=by
 unfold cmpV orI cmpI
 repeat' split
 all_goals omega
def lessB (ax ay bx by':Int):Bool:=decide (cmpV ax ay bx by'<0)
theorem Z5s (ax ay bx by':Int) (w:World) :
  Calls Tryz.prog 70 #[.agg #[O qL ax,O qL ay],.agg #[O qL bx,O qL by']] w fun e w'=>e=qR (qB (lessB ax ay bx by'))/\Below w.heap.size w w':=by
 rcases Int.lt_trichotomy ax bx with h | rfl | h
 ·have e:lessB ax ay bx by'=true:=by simp only [lessB,decide_eq_true_eq,Z16];omega
  rw [e];clear e;go_enter Tryz.func70,Tryz.ntmps70;go_wp2;go_ret;exact⟨rfl,zB2⟩
 ·by_cases h2:ay<by'
  ·have e:lessB ax ay ax by'=true:=by simp only [lessB,decide_eq_true_eq,Z16];exact Or.inr ⟨trivial,h2⟩
   rw [e];clear e;go_enter Tryz.func70,Tryz.ntmps70;go_wp2;go_ret;exact⟨rfl,zB2⟩
  ·have e:lessB ax ay ax by'=false:=by simp only [lessB,decide_eq_false_iff_not,Z16];rintro (h | ⟨_,h⟩) <;> omega
   have d:decide (ay<by')=false:=by simpa using h2
   rw [e];clear e;go_enter Tryz.func70,Tryz.ntmps70;go_wp2;go_ret;exact⟨rfl,zB2⟩
 ·have e:lessB ax ay bx by'=false:=by simp only [lessB,decide_eq_false_iff_not,Z16];omega
  have d:decide (ax<bx)=false:=by simp;omega
  have d2:(ax == bx)=false:=by simp;omega
  rw [e];clear e;go_enter Tryz.func70,Tryz.ntmps70;go_wp2;go_ret;exact⟨rfl,zB2⟩
theorem Z5Z (ax ay bx by' cx cy:Int) (w:World) (a1:-1000000<=ax) (a2:ax<=1000000) (a3:-1000000<=ay) (a4:ay<=1000000)
  (b1:-1000000<=bx) (b2:bx<=1000000) (b3:-1000000<=by') (b4:by'<=1000000) (c1:-1000000<=cx) (c2:cx<=1000000) (c3:-1000000<=cy) (c4:cy<=1000000) :
  Calls Tryz.prog 71 #[.agg #[O qL ax,O qL ay],.agg #[O qL bx,O qL by'],.agg #[O qL cx,O qL cy]] w fun e w'=>e=qR (O qL (turnV ax ay bx by' cx cy))/\Below w.heap.size w w':=by
 have p:=ZX (a:=bx-ax) (b:=cy-ay) (m:=2000000) (n:=2000000) (by omega) (by omega) (by omega) (by omega)
 have q:=ZX (a:=by'-ay) (b:=cx-ax) (m:=2000000) (n:=2000000) (by omega) (by omega) (by omega) (by omega)
 have p':qW qL ((bx-ax)*(cy-ay))=(bx-ax)*(cy-ay):=zW2;have q':qW qL ((by'-ay)*(cx-ax))=(by'-ay)*(cx-ax):=zW2
 have r':qW qL ((bx-ax)*(cy-ay)-(by'-ay)*(cx-ax))=(bx-ax)*(cy-ay)-(by'-ay)*(cx-ax):=zW2
 clear p q;unfold turnV;go_enter Tryz.func71,Tryz.ntmps71;go_wp2;go_ret;exact⟨rfl,zB2⟩
def RefValid (l:List Pt):Prop:=1<=l.length/\l.length<=64/\(∀ k,k<l.length->Z3 (nth l k)=true)/\(∀ k,1<=k->k<l.length->cmpP (nth l 0) (nth l k)<0) /\
 (2<l.length->∀ i,i<l.length->∀ k,k<l.length->k≠i->k≠(i+1) % l.length->0<Z5 (nth l i) (nth l ((i+1) % l.length)) (nth l k))
open Classical in
noncomputable def refValid (l:List Pt):Bool:=decide (RefValid l)
def lessTo (l:List Pt) (k:Nat):Prop:=∀ j,1<=j->j<k->cmpP (nth l 0) (nth l j)<0
def leftTo (l:List Pt) (i k:Nat):Prop:=∀ j,j<k->j≠i->j≠(i+1) % l.length->0<Z5 (nth l i) (nth l ((i+1) % l.length)) (nth l j)
theorem Z6o (v:Value) (l:List Pt) (w:World) (hp:Z7 w.heap.size w v l) (hs:l.length<1\/64<l.length) :
  Calls Tryz.prog 30 #[v] w fun e w'=>e=qR (qB (refValid l))/\Below w.heap.size w w':=by
 have hr:refValid l=false:=by simp only [refValid,decide_eq_false_iff_not];rintro ⟨h1,h2,_⟩;omega
 rw [hr];clear hr;obtain⟨hl,a,cap,rfl,hc⟩:=hp;clear hc;rcases hs with hs | hs
 ·have d:decide ((l.length:Int)<1)=true:=by simp;omega
  have hs':=qH hs;clear hs;go_enter Tryz.func30,Tryz.ntmps30;go_wp2;go_ret;exact⟨rfl,zB2⟩
 ·have d:decide ((l.length:Int)<1)=false:=by simp;omega
  have d:decide (64<(l.length:Int))=true:=by simp;omega
  have hs':=qH hs;clear hs;go_enter Tryz.func30,Tryz.ntmps30;go_wp2;go_ret;exact⟨rfl,zB2⟩
set_option maxRecDepth 100000 in
theorem Z87 (v : Value) (l : List Pt) (w : World) (hp : Z7 w.heap.size w v l) (h1 : 1 <= l.length) (h2 : l.length <= 64) :
  Calls Tryz.prog 30 #[v] w fun e w'=>e=qR (qB (refValid l))/\Below w.heap.size w w':=by
 have HP:=qH (fun w1 hlow=>Z8g v l w1 ((hp.below hlow).mono hlow.size):∀ w1,Below w.heap.size w w1->_)
 obtain⟨hl,a,cap,rfl,hc⟩:=hp;obtain⟨b,o,rfl,hb,hc⟩:∃ b o,a=some ⟨b,o,none⟩/\b<w.heap.size/\∀ j,j<l.length->w.cell? ⟨b,o+j*2,none⟩=some (O qL (nth l j).x)/\w.cell? ⟨b,o+j*2+1,none⟩=some (O qL (nth l j).y):=by
  rcases hc with rfl | h
  ·simp at h1
  ·exact h
 have d1:decide ((l.length:Int)<1)=false:=by simp;omega
 have d2:decide (64<(l.length:Int))=false:=by simp;omega
 have hc':=qH hc;have hn0:0<l.length:=by omega
 have hne:¬ l=[]:=by intro h;rw [h] at hn0;simp at hn0
 clear hc;cases hap:allPl l
 ·have hr:refValid l=false:=by
   simp only [refValid,decide_eq_false_iff_not];rintro ⟨_,_,h3,_⟩;simp only [allPl,decide_eq_false_iff_not] at hap;exact hap h3
  have HR:=qH hr;clear hr;go_enter Tryz.func30,Tryz.ntmps30;go_wp2_with (go_at_call 69;refine (HP.out _ (qK _ _)).mono ?_;rintro e w1 ⟨rfl,hb1⟩;have hz1:=hb1.size;try simp at hz1)
  go_ret;exact⟨Zs HR.out.symm,zB2⟩
 ·have hpl : ∀ k, k < l.length -> Z3 (nth l k) = true := by simpa only [allPl, decide_eq_true_eq] using hap
  have HPL:=qH hpl;clear hpl;go_enter Tryz.func30,Tryz.ntmps30;go_wp2_with (go_at_call 69;refine (HP.out _ (qK _ _)).mono ?_;rintro e w1 ⟨rfl,hb1⟩;have hz1:=hb1.size;try simp at hz1)
  go_loopw [4] (fun i wr=>∃ k:Nat,1<=k/\k<=l.length/\i=O qL k/\lessTo l k/\Below w.heap.size w wr) (fun i _=>l.length-(intOf i).toNat)
  case atStart=>exact⟨1,by omega,by omega,rfl,fun j h h'=>by omega,hb1⟩
  case round =>
   obtain⟨k,hk1,hk,rfl,hls,hB⟩:=hrel;have hz:=hB.size;by_cases hlt:k<l.length
   ·have c1:=Low.fact ((hB.cell (p:=⟨b,o+k*2,none⟩) hb).trans (hc'.out k hlt).1)
    have c2:=Low.fact ((hB.cell (p:=⟨b,o+k*2+1,none⟩) hb).trans (hc'.out k hlt).2);have c3:=Low.fact ((hB.cell (p:=⟨b,o+0*2,none⟩) hb).trans (hc'.out 0 (by omega)).1)
    have c4:=Low.fact ((hB.cell (p:=⟨b,o+0*2+1,none⟩) hb).trans (hc'.out 0 (by omega)).2)
    simp only [Nat.zero_mul,Nat.add_zero] at c3 c4;have hls':=qH hls;clear hls;cases hls2:lessB (nth l 0).x (nth l 0).y (nth l k).x (nth l k).y
    ·have hr:refValid l=false:=by
      simp only [refValid,decide_eq_false_iff_not];rintro ⟨_,_,_,h4,_⟩;have:=h4 k hk1 hlt;simp only [lessB,decide_eq_false_iff_not] at hls2;exact hls2 this
     have HR:=qH hr;clear hr;go_wp2
     (refine Zh (by kernel_rfl) (by kernel_rfl) ?_;(iterate 9 (apply Zf;(case hw=>rfl);(case hval=>(intro w1 hw1;have hcx:=Low.cells hw1;simp only [Oper.quietAt];go_simp;first | done | (first | (go_at_call 70;exact Low.calls hw1 (Z5s _ _ _ _ _))) | rfl | exact⟨rfl,rfl⟩));simp only [qJ,zq4,zr4,zs4]));refine wpQuiet_nil ?_;intro w2 hw2)
     go_wp2;go_ret;exact⟨Zs HR.out.symm,hB.trans (hw2.out.mono (by omega))⟩
    ·have hls3:Hid (cmpP (nth l 0) (nth l k)<0):=by simp only [lessB,decide_eq_true_eq] at hls2;exact hls2
     go_wp2
     (refine Zh (by kernel_rfl) (by kernel_rfl) ?_;(iterate 9 (apply Zf;(case hw=>rfl);(case hval=>(intro w1 hw1;have hcx:=Low.cells hw1;simp only [Oper.quietAt];go_simp;first | done | (first | (go_at_call 70;exact Low.calls hw1 (Z5s _ _ _ _ _))) | rfl | exact⟨rfl,rfl⟩));simp only [qJ,zq4,zr4,zs4]));refine wpQuiet_nil ?_;intro w2 hw2)
     go_wp2;go_roundw
     case rel =>
      refine⟨k+1,by omega,by omega,by simp,fun j hj1 hj=>?_,hB.trans (hw2.out.mono (by omega))⟩
      by_cases e:j=k
      ·subst e;exact hls3.out
      ·exact hls'.out j hj1 (by omega)
     case measure=>simp [intOf];omega
   ·obtain rfl:k=l.length:=by omega
    have hls':=qH hls;clear hls;go_wp2
    go_loopw [5] (fun i wq=>∃ i0:Nat,i0<=l.length/\i=O qL i0/\(2<l.length->∀ j,j<i0->leftTo l j l.length)/\Below w.heap.size w wq) (fun i _=>l.length-(intOf i).toNat)
    case atStart=>exact⟨0,Nat.zero_le _,rfl,fun _ j h=>by omega,hB⟩
    case round =>
     obtain⟨i,hi,rfl,hlf,hBq⟩:=hrel;have hlf':=qH hlf;clear hlf;by_cases hend:i=l.length\/l.length<=2
     ·have hr:refValid l=true:=by
       simp only [refValid,decide_eq_true_eq];exact⟨h1,h2,HPL.out,fun k a b=>hls'.out k a b,fun h3 i' hi' k hk=>hlf'.out h3 i' (by omega) k hk⟩
      have HR:=qH hr;clear hr;rcases hend with rfl | h3
      ·go_wp2
       go_ret;exact⟨Zs HR.out.symm,hBq⟩
      ·by_cases hin:i<l.length
       ·have d3:decide (2<(l.length:Int))=false:=by simp;omega
        have d4:decide (2<l.length)=false:=by simp;omega
        go_wp2;go_ret;exact⟨Zs HR.out.symm,hBq⟩
       ·go_wp2
        go_ret;exact⟨Zs HR.out.symm,hBq⟩
     ·have hin:i<l.length:=by omega
      have h3:2<l.length:=by omega
      have d3:decide (2<(l.length:Int))=true:=by simp;omega
      obtain⟨m,hm⟩:∃ m,(i+1) % l.length=m:=⟨_,rfl⟩;have hmlt:m<l.length:=by rw [<- hm];exact Nat.mod_lt _ hn0
      have hw1:qW qL ((i:Int)+1)=(i:Int)+1:=zW2;have hw2:((i:Int)+1).tmod (l.length:Int)=(m:Int):=by
       have:((i:Int)+1).tmod (l.length:Int)=(((i+1) % l.length:Nat):Int):=by
        rw [Int.tmod_eq_emod_of_nonneg (by omega)];rfl
       rw [this,hm]
      have HM:=qH hm;have pi:=Zt (HPL.out i hin);have pm:=Zt (HPL.out m hmlt);clear hm hend;obtain⟨wo,rfl⟩:∃ wo:World,wo=wr:=⟨_,rfl⟩;go_wp2
      go_loopw [6] (fun kk wv=>∃ k:Nat,k<=l.length/\kk=O qL k/\leftTo l i k/\Below w.heap.size w wv) (fun kk _=>l.length-(intOf kk).toNat)
      case atStart=>exact⟨0,Nat.zero_le _,rfl,fun j h=>by omega,hBq⟩
      case round =>
       obtain⟨k,hk,rfl,hlt0,hBv⟩:=hrel;have hlt':=qH hlt0;have hzv:=hBv.size;clear hlt0;by_cases hkn:k<l.length
       ·have c1 := Low.fact ((hBv.cell (p := ⟨b, o + k * 2, none⟩) hb).trans (hc'.out k hkn).1)
        have c2:=Low.fact ((hBv.cell (p:=⟨b,o+k*2+1,none⟩) hb).trans (hc'.out k hkn).2);have c3:=Low.fact ((hBv.cell (p:=⟨b,o+i*2,none⟩) hb).trans (hc'.out i hin).1);have c4:=Low.fact ((hBv.cell (p:=⟨b,o+i*2+1,none⟩) hb).trans (hc'.out i hin).2);have c5:=Low.fact ((hBv.cell (p:=⟨b,o+m*2,none⟩) hb).trans (hc'.out m hmlt).1);have c6:=Low.fact ((hBv.cell (p:=⟨b,o+m*2+1,none⟩) hb).trans (hc'.out m hmlt).2);have pk:=Zt (HPL.out k hkn);by_cases e1:k=i
        ·subst e1
         go_wp2
         (refine Zh (by kernel_rfl) (by kernel_rfl) ?_;(iterate 4 (apply Zf;(case hw=>rfl);(case hval=>(intro w1 hw1;have hcx:=Low.cells hw1;simp only [Oper.quietAt];go_simp;first | done | rfl | exact⟨rfl,rfl⟩));simp only [qJ,zq4,zr4,zs4]));(iterate 6 (apply Zu;(case hw=>rfl);simp only [qJ,zq4,zr4,zs4]));(iterate 2 (apply Zf;(case hw=>rfl);(case hval=>(intro w1 hw1;have hcx:=Low.cells hw1;simp only [Oper.quietAt];go_simp;first | done | rfl | exact⟨rfl,rfl⟩));simp only [qJ,zq4,zr4,zs4]));(iterate 17 (apply Zu;(case hw=>rfl);simp only [qJ,zq4,zr4,zs4]));(iterate 1 (apply Zf;(case hw=>rfl);(case hval=>(intro w1 hw1;have hcx:=Low.cells hw1;simp only [Oper.quietAt];go_simp;first | done | rfl | exact⟨rfl,rfl⟩));simp only [qJ,zq4,zr4,zs4]));refine wpQuiet_nil ?_;intro w2 hw2)
         go_wp2;go_roundw
         case rel =>
          refine⟨k+1,by omega,by simp,fun j hj=>?_,hBv.trans (hw2.out.mono (by omega))⟩
          by_cases e:j=k
          ·subst e;intro h;exact absurd rfl h
          ·exact hlt'.out j (by omega)
         case measure=>simp [intOf];omega
        ·have q1:((k:Int) != (i:Int))=true:=by rw [bne_iff_ne];omega
         have q2:(k != i)=true:=by rw [bne_iff_ne];omega
         by_cases e2:k=m
         ·subst e2
          go_wp2
          (refine Zh (by kernel_rfl) (by kernel_rfl) ?_;(iterate 12 (apply Zf;(case hw=>rfl);(case hval=>(intro w1 hw1;have hcx:=Low.cells hw1;simp only [Oper.quietAt];go_simp;first | done | rfl | exact⟨rfl,rfl⟩));simp only [qJ,zq4,zr4,zs4]));(iterate 17 (apply Zu;(case hw=>rfl);simp only [qJ,zq4,zr4,zs4]));(iterate 1 (apply Zf;(case hw=>rfl);(case hval=>(intro w1 hw1;have hcx:=Low.cells hw1;simp only [Oper.quietAt];go_simp;first | done | rfl | exact⟨rfl,rfl⟩));simp only [qJ,zq4,zr4,zs4]));refine wpQuiet_nil ?_;intro w2 hw2)
          go_wp2;go_roundw
          case rel =>
           refine⟨k+1,by omega,by simp,fun j hj=>?_,hBv.trans (hw2.out.mono (by omega))⟩
           by_cases e:j=k
           ·subst e;intro _ h;exact absurd HM.out.symm h
           ·exact hlt'.out j (by omega)
          case measure=>simp [intOf];omega
         ·have q3:((k:Int) != (m:Int))=true:=by rw [bne_iff_ne];omega
          have q4:(k != m)=true:=by rw [bne_iff_ne];omega
          by_cases ht:turnV (nth l i).x (nth l i).y (nth l m).x (nth l m).y (nth l k).x (nth l k).y<=0
          ·have dt:decide (turnV (nth l i).x (nth l i).y (nth l m).x (nth l m).y (nth l k).x (nth l k).y<=0)=true:=by simpa using ht
           have hr:refValid l=false:=by
            simp only [refValid,decide_eq_false_iff_not];rintro ⟨_,_,_,_,h5⟩;have:=h5 h3 i hin k hkn e1 (by rw [HM.out];exact e2)
            rw [HM.out] at this;simp only [Z5] at this;omega
           have HR:=qH hr;clear hr ht;go_wp2
           (refine Zh (by kernel_rfl) (by kernel_rfl) ?_;(iterate 30 (apply Zf;(case hw=>rfl);(case hval=>(intro w1 hw1;have hcx:=Low.cells hw1;simp only [Oper.quietAt];go_simp;first | done | (first | (go_at_call 71;exact Low.calls hw1 (Z5Z _ _ _ _ _ _ _ (by omega) (by omega) (by omega) (by omega) (by omega) (by omega) (by omega) (by omega) (by omega) (by omega) (by omega) (by omega)))) | rfl | exact⟨rfl,rfl⟩));simp only [qJ,zq4,zr4,zs4]));refine wpQuiet_nil ?_;intro w2 hw2)
           go_wp2;go_ret;exact⟨Zs HR.out.symm,hBv.trans (hw2.out.mono (by omega))⟩
          ·have dt:decide (turnV (nth l i).x (nth l i).y (nth l m).x (nth l m).y (nth l k).x (nth l k).y<=0)=false:=by simpa using ht
           have Ht:=qH ht;clear ht;go_wp2
           (refine Zh (by kernel_rfl) (by kernel_rfl) ?_;(iterate 30 (apply Zf;(case hw=>rfl);(case hval=>(intro w1 hw1;have hcx:=Low.cells hw1;simp only [Oper.quietAt];go_simp;first | done | (first | (go_at_call 71;exact Low.calls hw1 (Z5Z _ _ _ _ _ _ _ (by omega) (by omega) (by omega) (by omega) (by omega) (by omega) (by omega) (by omega) (by omega) (by omega) (by omega) (by omega)))) | rfl | exact⟨rfl,rfl⟩));simp only [qJ,zq4,zr4,zs4]));refine wpQuiet_nil ?_;intro w2 hw2)
           go_wp2;go_roundw
           case rel =>
            refine⟨k+1,by omega,by simp,fun j hj=>?_,hBv.trans (hw2.out.mono (by omega))⟩
            by_cases e:j=k
            ·subst e;intro _ _;rw [HM.out];have:=Ht.out;simp only [Z5];omega
            ·exact hlt'.out j (by omega)
           case measure=>simp [intOf];omega
       ·obtain rfl:k=l.length:=by omega
        go_wp2;go_roundw
        case rel =>
         refine⟨i+1,by omega,by simp,fun h j hj=>?_,hBv⟩
         by_cases e:j=i
         ·subst e;exact hlt'.out
         ·exact hlf'.out h j (by omega)
        case measure=>simp [intOf];omega
theorem Z2m (v:Value) (l:List Pt) (w:World) (hp:Z7 w.heap.size w v l) :
  Calls Tryz.prog 30 #[v] w fun e w'=>e=qR (qB (refValid l))/\Below w.heap.size w w':=by
 by_cases h:1<=l.length/\l.length<=64
 ·exact Z87 v l w hp h.1 h.2
 ·exact Z6o v l w hp (by omega)
end
theorem Z41 (a c:Pt):Z5 a a c=0:=by unfold Z5 turnV;simp
theorem Z7Y (a b d:Pt):Z5 a d b=-Z5 a b d:=by
 unfold Z5 turnV;rw [Int.mul_comm (d.x-a.x),Int.mul_comm (d.y-a.y)];omega
theorem Zao (a:Pt):cmpP a a=0:=by simp [cmpP,cmpV,orI,cmpI]
theorem Z6M {l : List Pt} (hl : ∀ k, 1 <= k -> k < l.length -> cmpP (nth l 0) (nth l k) < 0)
  (hg:∀ i,i<l.length->∀ k,k<l.length->nth l k≠nth l i->nth l k≠nth l ((i+1) % l.length)->0<Z5 (nth l i) (nth l ((i+1) % l.length)) (nth l k)) :
  ∀ (t j k:Nat),l.length-k=t->j<k->k<l.length->nth l j≠nth l k:=by
 have h0:∀ k,1<=k->k<l.length->nth l 0≠nth l k:=fun k h1 h2 e=>by
  have:=hl k h1 h2;rw [<- e,Zao] at this;omega
 intro t
 induction t using Nat.strongRecOn with
 | _ t ih =>
  intro j k ht hjk hk e;have hj:1<=j:=by
   rcases Nat.eq_zero_or_pos j with h | h
   ·subst h;exact absurd e (h0 k hjk hk)
   ·exact h
  have hj1:(j+1) % l.length=j+1:=Nat.mod_eq_of_lt (by omega)
  have n0:nth l 0≠nth l j:=h0 j hj (by omega)
  have n0k:nth l 0≠nth l k:=h0 k (by omega) hk
  have hne:nth l (j+1)≠nth l ((k+1) % l.length):=by
   by_cases hk1:k+1=l.length
   ·rw [hk1,Nat.mod_self]
    exact fun h=>h0 (j+1) (by omega) (by omega) h.symm
   ·rw [Nat.mod_eq_of_lt (by omega)]
    exact ih (l.length-(k+1)) (by omega) (j+1) (k+1) rfl (by omega) (by omega)
  have hAB:nth l j≠nth l (j+1):=fun h=>by
   have:=hg j (by omega) 0 (by omega) n0 (by rw [hj1,<- h];exact n0)
   rw [hj1,<- h,Z41] at this;omega
  have hAD:nth l k≠nth l ((k+1) % l.length):=fun h=>by
   have:=hg k hk 0 (by omega) n0k (by rw [<- h];exact n0k)
   rw [<- h,Z41] at this;omega
  have hm:(k+1) % l.length<l.length:=Nat.mod_lt _ (by omega)
  have t1:=hg j (by omega) ((k+1) % l.length) hm (by rw [e];exact Ne.symm hAD) (by rw [hj1];exact Ne.symm hne)
  have t2:=hg k hk (j+1) (by omega) (by rw [<- e];exact Ne.symm hAB) hne
  rw [hj1] at t1;rw [<- e,Z7Y] at t2;omega
theorem Z8t (l:List Pt):GoValid l↔RefValid l:=by
 constructor
 ·rintro ⟨h1,h2,h3,h4⟩
  have hl:∀ k,1<=k->k<l.length->cmpP (nth l 0) (nth l k)<0:=fun k a b=>(h3 k b).2 (by omega)
  refine⟨h1,h2,fun k hk=>(h3 k hk).1,hl,fun hn i hi k hk hki hkm=>?_⟩
  have hg:=h4 (by omega)
  have hd:=Z6M hl hg;have ne:∀ a b,a<l.length->b<l.length->a≠b->nth l a≠nth l b:=fun a b ha hb hab=>by
   rcases Nat.lt_or_gt_of_ne hab with h | h
   ·exact hd _ a b rfl h hb
   ·exact fun e=>hd _ b a rfl h ha e.symm
  exact hg i hi k hk (ne k i hk hi hki) (ne k _ hk (Nat.mod_lt _ (by omega)) hkm)
 ·rintro ⟨h1,h2,h3,h4,h5⟩
  refine⟨h1,h2,fun k hk=>⟨h3 k hk,fun h=>h4 k h hk⟩,fun hn i hi k hk a b=>?_⟩
  exact h5 (by omega) i hi k hk (fun e=>a (by rw [e];rfl)) (fun e=>b (by rw [e];rfl))
theorem Z29 (l:List Pt):Zb l=refValid l:=by
 rw [Bool.eq_iff_iff];simp only [Zb,refValid,decide_eq_true_eq];exact Z8t l
section
attribute [local go_sem] Oper.semAt_some
open Go.RowKit Go.Shelf
set_option maxRecDepth 100000 in
theorem Z8y {α : Type} (encA : α -> Array Value) (f : Nat -> α) (n : Nat) (hn : 1 <= n) (p : Nat -> Prop) (W : World) (l Bs b o cap : Nat) (ps : List Pt) (hlen : ps.length <= 70368744177663) (hb : p b) (hBs : p Bs) (hpp : ∀ b, p b -> b < W.heap.size) (hf : ∀ i, i < ps.length -> encA (f i) = encS (sideP ps i)) (J Jx : List α -> World -> Prop)
  (hJ:AbidesFrom W.heap.size J)
  (hY:∀ pre x W1,J pre W1->pre.length<ps.length->YieldAt Fence.wide (n-1) Tryz.prog l (encA x) W1 fun e W' =>
   (e=qR (qB true)/\J (pre++[x]) W'/\KeepsP p W1 W')\/(e=qR (qB false)/\Jx (pre++[x]) W'))
  (hB:W.cell? ⟨Bs,0,none⟩=some (qS (some ⟨b,o,none⟩) ps.length cap))
  (hc:∀ j,j<ps.length->W.cell? ⟨b,o+j*2,none⟩=some (O qL (nth ps j).x)/\W.cell? ⟨b,o+j*2+1,none⟩=some (O qL (nth ps j).y)) (h0:J [] W) :
  CallsIn Fence.wide n Tryz.prog 192 #[.func (.yield l) #[] #[],qP (some ⟨Bs,0,none⟩)] W fun e W'=>(∃ v,e=qR v) /\
   ((∃ ys,ys=upto f ps.length/\J ys W')\/(∃ pre,(∃ k,k<=ps.length/\pre=upto f k)/\Jx pre W')):=by
 refine callsIn_of_wp Tryz.func192 rfl trivial ?_ rfl;simp only [Tryz.ntmps192,List.size_toArray,List.length_cons,List.length_nil,Nat.reduceAdd,Nat.reduceSub,Array.replicate_succ,Array.replicate_zero,List.push_toArray,List.append_toArray,List.nil_append,List.cons_append];gi_wp2
 gi_loopw [7] (fun i wr=>∃ k:Nat,k<=ps.length/\i=O qL k/\J (upto f k) wr/\KeepsP p W wr)
  (fun i _=>ps.length-(intOf i).toNat)
 case atStart=>exact⟨0,Nat.zero_le _,rfl,h0,KeepsP.refl _ _⟩
 case round =>
  obtain⟨k,hk,rfl,hJs,hnx⟩:=hrel;by_cases hlt:k<ps.length
  ·have hn0:0<ps.length:=by omega
   obtain⟨m,hm⟩:∃ m,(k+1) % ps.length=m:=⟨_,rfl⟩;have hmlt:m<ps.length:=by rw [<- hm];exact Nat.mod_lt _ hn0
   have hx:sideP ps k=(nth ps k,nth ps m):=by rw [sideP,hm]
   have b1:W.heap.size<=wr.heap.size:=hnx.1;have hBl:=qO W _ hB;have e0:wr.cell? ⟨Bs,0,none⟩=some (qS (some ⟨b,o,none⟩) ps.length cap):=(hnx.cell (i:=0) hBs).trans hB;have e1:=(hnx.cell (i:=o+k*2) hb).trans (hc k hlt).1;have e2:=(hnx.cell (i:=o+k*2+1) hb).trans (hc k hlt).2;have e3:=(hnx.cell (i:=o+m*2) hb).trans (hc m hmlt).1;have e4:=(hnx.cell (i:=o+m*2+1) hb).trans (hc m hmlt).2;have hJ1:J (upto f k) (wr.alloc (qC #[O qL (nth ps k).x,O qL (nth ps k).y] 36)).drew :=
    hJ _ _ _ none (hJ _ _ _ none hJs (World.grownBy_alloc _ _ none) (fun r e=>by cases e)) (Z4l _ none) (fun r e=>by cases e)
   obtain⟨fn,tmps,assign,body,hy,hR⟩:=hY _ (f k) _ hJ1 (by rw [Zq];exact hlt)
   rw [hf k hlt,hx] at hy;dsimp only [encS] at hy;have hw1:qW qL ((k:Int)+1)=(k:Int)+1:=zW2;have hw2:((k:Int)+1).tmod (ps.length:Int)=(m:Int):=by
    have:((k:Int)+1).tmod (ps.length:Int)=(((k+1) % ps.length:Nat):Int):=by
     rw [Int.tmod_eq_emod_of_nonneg (by omega)];rfl
    rw [this,hm]
   have hbl:=qO wr _ e1;have hB2:Below wr.heap.size wr (wr.alloc (qC #[O qL (nth ps k).x,O qL (nth ps k).y] 36)):=(qK _ wr).alloc (qN _) _;have f0:=(hB2.cell (p:=⟨Bs,0,none⟩) (qO wr _ e0)).trans e0;have f1:=(hB2.cell (p:=⟨b,o+k*2,none⟩) hbl).trans e1;have f2:=(hB2.cell (p:=⟨b,o+k*2+1,none⟩) hbl).trans e2;have f3:=(hB2.cell (p:=⟨b,o+m*2,none⟩) hbl).trans e3;have f4:=(hB2.cell (p:=⟨b,o+m*2+1,none⟩) hbl).trans e4;have hne:¬ ps=[]:=by intro h;rw [h] at hn0;simp at hn0
   have hc':=qH hc;have hm':=qH hm;have hx':=qH hx;have hJ':=qH hJ1;clear hc hm hx hB hJ1;gi_wp2;refine Z0h (Zk _) 10 (by kernel_rfl) (by kernel_rfl) (by kernel_rfl) ?_
   simp only [List.take_succ_cons,List.take_zero,List.drop_succ_cons,List.drop_zero]
   iterate 10 (refine wpStill_step (fun K hK=>?_);go_simp;refine hK _ ?_;clear hK K)
   refine wpStill_nil ?_;gi_wp2;refine hR.mono ?_;rintro e W3 (⟨rfl,hJ3,hk3⟩ | ⟨rfl,hJx3⟩)
   ·gi_wp2
    go_roundw
    case rel=>exact⟨k+1,by omega,by simp,by rw [ZA];exact hJ3,hnx.trans ((KeepsP.of_below (((qK wr.heap.size wr).alloc (qN _) _).drew) (fun b hb=>Nat.lt_of_lt_of_le (hpp b hb) b1)).trans hk3)⟩
    case measure=>simp [intOf];omega
   ·gi_wp2
    refine bodyPost_ret (results_none rfl _ _ _) rfl ?_;exact⟨⟨_,rfl⟩,.inr ⟨_,⟨k+1,by omega,(ZA _ _).symm⟩,hJx3⟩⟩
  ·obtain rfl:k=ps.length:=by omega
   gi_wp2;go_end0;exact⟨⟨_,rfl⟩,.inl ⟨_,rfl,hJs⟩⟩
set_option maxRecDepth 100000 in
theorem Z1k {α:Type} (n:Nat) (l Bs cap:Nat) (a:Option Addr) (J:List α->World->Prop) (W:World) (hB:W.cell? ⟨Bs,0,none⟩=some (qS a 0 cap)) (h0:J [] W) :
  CallsIn Fence.wide n Tryz.prog 192 #[.func (.yield l) #[] #[],qP (some ⟨Bs,0,none⟩)] W fun e W'=>(∃ v,e=qR v)/\J [] W':=by
 refine callsIn_of_wp Tryz.func192 rfl trivial ?_ rfl;simp only [Tryz.ntmps192,List.size_toArray,List.length_cons,List.length_nil,Nat.reduceAdd,Nat.reduceSub,Array.replicate_succ,Array.replicate_zero,List.push_toArray,List.append_toArray,List.nil_append,List.cons_append];gi_wp2
 gi_loopw [7] (fun i wr=>i=O qL 0/\J [] wr) (fun _ _=>0)
 case atStart=>exact⟨rfl,h0⟩
 case round =>
  obtain⟨rfl,hJs⟩:=hrel;gi_wp2;go_end0;exact⟨⟨_,rfl⟩,hJs⟩
theorem Z4o (a:Option Addr) (len cap:Nat) (w:World) :
  Calls Tryz.prog 185 #[qS a len cap] w fun e w'=>e=qR (.func (.func 192) #[] #[qP (some ⟨w.heap.size,0,none⟩)])/\w.alloc (qC #[qS a len cap] 23)=w':=by
 go_enter Tryz.func185,Tryz.ntmps185;go_wp2;go_ret;exact⟨rfl,rfl⟩
theorem Z2H {α:Type} (encA:α->Array Value) (f:Nat->α) (n:Nat) (hn:1<=n) (p:Nat->Prop) (Bs n0:Nat) (sv:Value) (ps:List Pt) (w:World) (hBs:p Bs) (hp0:∀ b,b<n0->p b) (hpp:∀ b,p b->b<w.heap.size)
  (hc:w.cell? ⟨Bs,0,none⟩=some sv) (hI:Z7 n0 w sv ps) (hf:∀ i,i<ps.length->encA (f i)=encS (sideP ps i)) :
  SeqStopsK Fence.wide n Tryz.prog 192 #[qP (some ⟨Bs,0,none⟩)] encA (KeepsP p) (fun ys=>ys=upto f ps.length)
   (fun pre=>∃ k,k<=ps.length/\pre=upto f k) ps.length w:=fun l J Jx W hW hJ _ hY h0=>by
 have hc':=(hW.cell (p:=⟨Bs,0,none⟩) (hpp Bs hBs)).trans hc;have hsz:=hW.size;have hn0:n0<=w.heap.size\/ps=[]:=by
  rcases hI.2 with⟨a,cap,_,h | ⟨b,o,_,hb,_⟩⟩
  ·exact .inr h
  ·refine .inl ?_
   rcases Nat.lt_or_ge w.heap.size n0 with h | h
   ·exact absurd (hpp _ (hp0 _ h)) (by omega)
   ·exact h
 rcases hn0 with hn0 | rfl
 ·obtain⟨hl,a,cap,rfl,hcs⟩:=hI.below (hW.mono hn0)
  rcases hcs with rfl | ⟨b,o,rfl,hb,hcs⟩
  ·exact (Z1k n l Bs _ a J W hc' h0).mono fun e W' ⟨he,hj⟩=>⟨he,.inl ⟨_,rfl,hj⟩⟩
  ·exact Z8y encA f n hn p W l Bs b o (ps.length+cap) ps hl (hp0 b hb) hBs (fun b hb=>Nat.lt_of_lt_of_le (hpp b hb) hsz) hf J Jx hJ hY hc' hcs h0
 ·obtain⟨hl,a,cap,rfl,hcs⟩:=hI
  exact (Z1k n l Bs _ a J W hc' h0).mono fun e W' ⟨he,hj⟩=>⟨he,.inl ⟨_,rfl,hj⟩⟩
end
section
attribute [local irreducible] wpQuiet
open Go.RowKit
theorem Z6h (a b:Int) (h1:-4000000000000000000<=a) (h2:a<=4000000000000000000):-4000000000000000000<=a.tdiv b/\a.tdiv b<=4000000000000000000:=by
 have h:=Int.natAbs_tdiv a b;have h':a.natAbs.div b.natAbs<=a.natAbs:=Nat.div_le_self a.natAbs b.natAbs;rw [<- h] at h';omega
theorem Za0 (a b:Int) (h1:-4000000000000000000<=a) (h2:a<=4000000000000000000) (hb:b≠0):-4000000000000000001<=a.fdiv b/\a.fdiv b<=4000000000000000000:=by
 rcases Z0X a b hb with h | h
 ·have:=Z6h a b h1 h2;omega
 ·have:=Z6h a b h1 h2;omega
theorem Z2c (ax ay bx by' cx cy:Int) (w:World) (a1:-1000000<=ax) (a2:ax<=1000000) (a3:-1000000<=ay) (a4:ay<=1000000)
  (b1:-1000000<=bx) (b2:bx<=1000000) (b3:-1000000<=by') (b4:by'<=1000000) (c1:-1000000<=cx) (c2:cx<=1000000) (c3:-1000000<=cy) (c4:cy<=1000000) :
  Calls Tryz.prog 186 #[.agg #[O qL ax,O qL ay],.agg #[O qL bx,O qL by'],.agg #[O qL cx,O qL cy]] w fun e w'=>e=qR (O qL (turnV ax ay bx by' cx cy))/\Below w.heap.size w w':=by
 have p:=ZX (a:=bx-ax) (b:=cy-ay) (m:=2000000) (n:=2000000) (by omega) (by omega) (by omega) (by omega)
 have q:=ZX (a:=by'-ay) (b:=cx-ax) (m:=2000000) (n:=2000000) (by omega) (by omega) (by omega) (by omega)
 have p':qW qL ((bx-ax)*(cy-ay))=(bx-ax)*(cy-ay):=zW2;have q':qW qL ((by'-ay)*(cx-ax))=(by'-ay)*(cx-ax):=zW2
 have r':qW qL ((bx-ax)*(cy-ay)-(by'-ay)*(cx-ax))=(bx-ax)*(cy-ay)-(by'-ay)*(cx-ax):=zW2
 clear p q;unfold turnV;go_enter Tryz.func186,Tryz.ntmps186;go_wp2;go_ret;exact⟨rfl,zB2⟩
def crossB (s t:Int):Bool:=decide (s<0/\0<t\/0<s/\t<0)
theorem Z14 (s t : Int) (w : World) :
  Calls Tryz.prog 187 #[O qL s,O qL t] w fun e w'=>e=qR (qB (crossB s t))/\w=w':=by
 by_cases h1:s<0
 ·have d1:decide (s<0)=true:=decide_eq_true h1
  have d3:decide (s>0)=false:=by rw [decide_eq_false_iff_not];omega
  by_cases h2:0<t
  ·have d2:decide (t>0)=true:=decide_eq_true h2
   have e:crossB s t=true:=decide_eq_true (.inl ⟨h1,h2⟩);rw [e];clear e;go_enter Tryz.func187,Tryz.ntmps187;go_wp2;go_ret;exact⟨rfl,rfl⟩
  ·have d2:decide (t>0)=false:=by rw [decide_eq_false_iff_not];omega
   have e:crossB s t=false:=decide_eq_false (by omega)
   rw [e];clear e;go_enter Tryz.func187,Tryz.ntmps187;go_wp2;go_ret;exact⟨rfl,rfl⟩
 ·have d1:decide (s<0)=false:=decide_eq_false h1
  by_cases h3:0<s
  ·have d3:decide (s>0)=true:=decide_eq_true h3
   by_cases h4:t<0
   ·have d4:decide (t<0)=true:=decide_eq_true h4
    have e:crossB s t=true:=decide_eq_true (.inr ⟨h3,h4⟩);rw [e];clear e;go_enter Tryz.func187,Tryz.ntmps187;go_wp2;go_ret;exact⟨rfl,rfl⟩
   ·have d4:decide (t<0)=false:=decide_eq_false h4
    have e:crossB s t=false:=decide_eq_false (by omega)
    rw [e];clear e;go_enter Tryz.func187,Tryz.ntmps187;go_wp2;go_ret;exact⟨rfl,rfl⟩
  ·have d3:decide (s>0)=false:=decide_eq_false h3
   have e:crossB s t=false:=decide_eq_false (by omega)
   rw [e];clear e;go_enter Tryz.func187,Tryz.ntmps187;go_wp2;go_ret;exact⟨rfl,rfl⟩
theorem Z8w (a b q r q' : Int) (w : World) (hq : qW qL (a.tdiv b) = q) (hr : a.tmod b = r) (h5 : ¬ b = 0) (q1 : -5000000000000000000 <= q) (q2 : q <= 5000000000000000000)
  (hc:r=0/\q=q'\/¬ r=0/\((a<0↔b<0)/\q=q'\/¬ (a<0↔b<0)/\q-1=q')) :
  Calls Tryz.prog 194 #[O qL a,O qL b] w fun e w'=>e=qR (O qL q')/\w=w':=by
 have hw:qW qL (q-1)=q-1:=zW2;have hb0:(b == 0)=false:=by simpa using h5
 rcases hc with⟨h,e1⟩ | ⟨h,hc⟩
 ·subst e1
  have d1:(r != 0)=false:=by simp [h]
  clear h;go_enter Tryz.func194,Tryz.ntmps194;go_wp2;go_ret;exact⟨rfl,rfl⟩
 ·have d1:(r != 0)=true:=by simpa [bne_iff_ne] using h
  by_cases ha:a<0
  ·have d2:decide (a<0)=true:=decide_eq_true ha
   by_cases hb:b<0
   ·have d3:decide (b<0)=true:=decide_eq_true hb
    rcases hc with⟨_,e1⟩ | ⟨h1,_⟩
    ·subst e1
     go_enter Tryz.func194,Tryz.ntmps194;go_wp2;go_ret;exact⟨rfl,rfl⟩
    ·exact absurd (by simp [ha,hb]) h1
   ·have d3:decide (b<0)=false:=decide_eq_false hb
    rcases hc with⟨h1,_⟩ | ⟨_,e1⟩
    ·exact absurd (h1.1 ha) hb
    ·subst e1
     go_enter Tryz.func194,Tryz.ntmps194;go_wp2;go_ret;exact⟨rfl,rfl⟩
  ·have d2:decide (a<0)=false:=decide_eq_false ha
   by_cases hb:b<0
   ·have d3:decide (b<0)=true:=decide_eq_true hb
    rcases hc with⟨h1,_⟩ | ⟨_,e1⟩
    ·exact absurd (h1.2 hb) ha
    ·subst e1
     go_enter Tryz.func194,Tryz.ntmps194;go_wp2;go_ret;exact⟨rfl,rfl⟩
   ·have d3:decide (b<0)=false:=decide_eq_false hb
    rcases hc with⟨_,e1⟩ | ⟨h1,_⟩
    ·subst e1
     go_enter Tryz.func194,Tryz.ntmps194;go_wp2;go_ret;exact⟨rfl,rfl⟩
    ·exact absurd (by simp [ha,hb]) h1
theorem Z4v (a b:Int) (w:World) (h1:-4000000000000000000<=a) (h2:a<=4000000000000000000) (h3:-8000000000000<=b) (h4:b<=8000000000000) (h5:¬ b=0) :
  Calls Tryz.prog 194 #[O qL a,O qL b] w fun e w'=>e=qR (O qL (a.fdiv b))/\w=w':=by
 have d:=Z6h a b h1 h2;have sg:¬ a.tmod b=0->((a.tmod b<0/\a<0)\/(0<a.tmod b/\0<a)):=by
  intro h;rcases Int.lt_trichotomy a 0 with ha | ha | ha
  ·have:=Int.tmod_nonneg (a:=-a) b (by omega)
   rw [Int.neg_tmod] at this;omega
  ·subst ha;simp at h
  ·have:=Int.tmod_nonneg (a:=a) b (by omega)
   omega
 refine Z8w a b _ _ _ w (zW2) rfl h5 (by omega) (by omega) ?_
 rcases Z0X a b h5 with h | h
 ·by_cases hz:a.tmod b=0
  ·exact Or.inl ⟨hz,h.2.1⟩
  ·refine Or.inr ⟨hz,Or.inl ⟨?_,h.2.1⟩⟩
   have:=sg hz;omega
 ·have hz:¬ a.tmod b=0:=by omega
  refine Or.inr ⟨hz,Or.inr ⟨?_,h.2.1⟩⟩;have:=sg hz;omega
end
end Go.Proofs.YthipcinibldgnaaGreat
