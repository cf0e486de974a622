/- The iterator over the sides of a polygon (package hull): its contract. | Choices of a list's elements, the best ones of them. No program here. | hu .. -/
import Derived.RangeFuncNested
import Derived.RangeFuncBound
import Derived.RangeFuncCalls
import Derived.RangeFuncLeaves
import Derived.Shelf.Abstract
import Derived.Shelf.RegionOpen
import Derived.OwnWalkIn
import Derived.TacticsInMore
import Derived.LoopNIn
import Derived.LoopIn
import Derived.Test.YtdolkgihppgpcaaGreatBin02
import Derived.Test.YtdolkgihppgpcaaGreatBin03
import Derived.Test.YtdolkgihppgpcaaGreatBin00
set_option maxHeartbeats 4000000
namespace Go.Proofs.YtdolkgihppgpcaaGreat
section
open Go.RowKit
theorem zq4 {α:Type} (l:List α) (i:Nat) (a:α):l.toArray.setIfInBounds i a=(l.set i a).toArray:=List.setIfInBounds_toArray ..
theorem zr4 {α:Type} (b a:α) (l:List α):(b::l).set 0 a=a::l:=rfl
theorem zs4 {α:Type} (b a:α) (l:List α) (n:Nat):(b::l).set (n+1) a=b::l.set n a:=rfl
end
section
attribute [local go_sem] Oper.semAt_some
open Go.RowKit Go.Shelf
def upto {α:Type} (f:Nat→α) (k:Nat):List α:=(List.range k).map f
theorem Zv {α:Type} (f:Nat→α) (k:Nat):upto f (k+1)=upto f k++[f k]:=by simp [upto,List.range_succ]
theorem Zx {α:Type} (f:Nat→α) (k:Nat):(upto f k).length=k:=by simp [upto]
def sideP (l:List Pt) (i:Nat):Pt × Pt:=(nth l i,nth l ((i+1) % l.length))
def encS (x:Pt × Pt):Array Value:=#[.agg #[.int .i64 x.1.x,.int .i64 x.1.y],.agg #[.int .i64 x.2.x,.int .i64 x.2.y]]
set_option maxRecDepth 100000 in
theorem Z7a {α : Type} (encA : α → Array Value) (f : Nat → α) (n : Nat) (hn : 1 ≤ n) (W : World) (l Bs n0 n0' b o cap : Nat) (ps : List Pt) (hlen : ps.length ≤ 70368744177663) (hb : b < n0) (hBs : Bs < n0') (hn0' : n0' ≤ W.heap.size) (hf : ∀ i, i < ps.length → encA (f i) = encS (sideP ps i)) (J Jx : List α → World → Prop)
  (hJ:AbidesFrom W.heap.size J)
  (hY:∀ pre x W1,J pre W1→pre.length<ps.length→YieldAt Fence.wide (n-1) Tryz.prog l (encA x) W1 fun e W' =>
   (e=.returned (.bool true)∧J (pre++[x]) W'∧Below n0' W1 W')∨(e=.returned (.bool false)∧Jx (pre++[x]) W')) (h00:n0≤n0')
  (hB:W.cell? ⟨Bs,0,none⟩=some (.slice (some ⟨b,o,none⟩) ps.length cap))
  (hc:∀ j,j<ps.length→W.cell? ⟨b,o+j*2,none⟩=some (.int .i64 (nth ps j).x)∧W.cell? ⟨b,o+j*2+1,none⟩=some (.int .i64 (nth ps j).y)) (h0:J [] W) :
  CallsIn Fence.wide n Tryz.prog 100 #[.func (.yield l) #[] #[],.pointer (some ⟨Bs,0,none⟩)] W fun e W'=>(∃ v,e=.returned v) ∧
   ((∃ ys,ys=upto f ps.length∧J ys W')∨(∃ pre,(∃ k,k≤ps.length∧pre=upto f k)∧Jx pre W')):=by
 refine callsIn_of_wp Tryz.func100 rfl trivial ?_ rfl;simp only [Tryz.ntmps100,List.size_toArray,List.length_cons,List.length_nil,Nat.reduceAdd,Nat.reduceSub,Array.replicate_succ,Array.replicate_zero,List.push_toArray,List.append_toArray,List.nil_append,List.cons_append];gi_wp2
 gi_loopw [7] (fun i wr=>∃ k:Nat,k≤ps.length∧i=.int .i64 k∧J (upto f k) wr∧Below n0' W wr)
  (fun i _=>ps.length-(intOf i).toNat)
 case atStart=>exact⟨0,Nat.zero_le _,rfl,h0,Below.refl _ _⟩
 case round =>
  obtain⟨k,hk,rfl,hJs,hnx⟩:=hrel;by_cases hlt:k<ps.length
  ·have hn0:0<ps.length:=by omega
   obtain⟨m,hm⟩:∃ m,(k+1) % ps.length=m:=⟨_,rfl⟩;have hmlt:m<ps.length:=by rw [← hm];exact Nat.mod_lt _ hn0
   have hx:sideP ps k=(nth ps k,nth ps m):=by rw [sideP,hm]
   have b1:W.heap.size≤wr.heap.size:=hnx.size;have hBl:=World.block_lt_of_cell? W _ hB;have e0:wr.cell? ⟨Bs,0,none⟩=some (.slice (some ⟨b,o,none⟩) ps.length cap):=(hnx.cell (p:=⟨Bs,0,none⟩) hBs).trans hB;have e1:=(hnx.cell (p:=⟨b,o+k*2,none⟩) (by show b<n0';omega)).trans (hc k hlt).1
   have e2:=(hnx.cell (p:=⟨b,o+k*2+1,none⟩) (by show b<n0';omega)).trans (hc k hlt).2
   have e3:=(hnx.cell (p:=⟨b,o+m*2,none⟩) (by show b<n0';omega)).trans (hc m hmlt).1
   have e4:=(hnx.cell (p:=⟨b,o+m*2+1,none⟩) (by show b<n0';omega)).trans (hc m hmlt).2
   have hJ1:J (upto f k) (wr.alloc (.cells #[.int .i64 (nth ps k).x,.int .i64 (nth ps k).y] 31)).drew :=
    hJ _ _ _ none (hJ _ _ _ none hJs (World.grownBy_alloc _ _ none) (fun r e=>by cases e)) (Z3h _ none) (fun r e=>by cases e)
   obtain⟨fn,tmps,assign,body,hy,hR⟩:=hY _ (f k) _ hJ1 (by rw [Zx];exact hlt)
   rw [hf k hlt,hx] at hy;dsimp only [encS] at hy;have hw1:IntKind.i64.wrap ((k:Int)+1)=(k:Int)+1:=zW2;have hw2:((k:Int)+1).tmod (ps.length:Int)=(m:Int):=by
    have:((k:Int)+1).tmod (ps.length:Int)=(((k+1) % ps.length:Nat):Int):=by
     rw [Int.tmod_eq_emod_of_nonneg (by omega)];rfl
    rw [this,hm]
   have hbl:=World.block_lt_of_cell? wr _ e1;have hB2:Below wr.heap.size wr (wr.alloc (.cells #[.int .i64 (nth ps k).x,.int .i64 (nth ps k).y] 31)):=(Below.refl _ wr).alloc (Nat.le_refl _) _;have f0:=(hB2.cell (p:=⟨Bs,0,none⟩) (World.block_lt_of_cell? wr _ e0)).trans e0;have f1:=(hB2.cell (p:=⟨b,o+k*2,none⟩) hbl).trans e1;have f2:=(hB2.cell (p:=⟨b,o+k*2+1,none⟩) hbl).trans e2;have f3:=(hB2.cell (p:=⟨b,o+m*2,none⟩) hbl).trans e3;have f4:=(hB2.cell (p:=⟨b,o+m*2+1,none⟩) hbl).trans e4;have hne:¬ ps=[]:=by intro h;rw [h] at hn0;simp at hn0
   have hc':=Lib.hid hc;have hm':=Lib.hid hm;have hx':=Lib.hid hx;have hJ':=Lib.hid hJ1;clear hc hm hx hB hJ1;gi_wp2;refine Z06 (Zj _) 10 (by kernel_rfl) (by kernel_rfl) (by kernel_rfl) ?_
   simp only [List.take_succ_cons,List.take_zero,List.drop_succ_cons,List.drop_zero]
   iterate 10 (refine wpStill_step (fun K hK=>?_);go_simp;refine hK _ ?_;clear hK K)
   refine wpStill_nil ?_;gi_wp2;refine hR.mono ?_;rintro e W3 (⟨rfl,hJ3,hk3⟩ | ⟨rfl,hJx3⟩)
   ·gi_wp2
    go_roundw
    case rel=>exact⟨k+1,by omega,by simp,by rw [Zv];exact hJ3,hnx.trans ((((Below.refl n0' wr).alloc (by omega) _).drew).trans hk3)⟩
    case measure=>simp [intOf];omega
   ·gi_wp2
    refine bodyPost_ret (results_none rfl _ _ _) rfl ?_;exact⟨⟨_,rfl⟩,.inr ⟨_,⟨k+1,by omega,(Zv _ _).symm⟩,hJx3⟩⟩
  ·obtain rfl:k=ps.length:=by omega
   gi_wp2;go_end0;exact⟨⟨_,rfl⟩,.inl ⟨_,rfl,hJs⟩⟩
set_option maxRecDepth 100000 in
theorem Z2R {α:Type} (n:Nat) (l Bs cap:Nat) (a:Option Addr) (J:List α→World→Prop) (W:World) (hB:W.cell? ⟨Bs,0,none⟩=some (.slice a 0 cap)) (h0:J [] W) :
  CallsIn Fence.wide n Tryz.prog 100 #[.func (.yield l) #[] #[],.pointer (some ⟨Bs,0,none⟩)] W fun e W'=>(∃ v,e=.returned v)∧J [] W':=by
 refine callsIn_of_wp Tryz.func100 rfl trivial ?_ rfl;simp only [Tryz.ntmps100,List.size_toArray,List.length_cons,List.length_nil,Nat.reduceAdd,Nat.reduceSub,Array.replicate_succ,Array.replicate_zero,List.push_toArray,List.append_toArray,List.nil_append,List.cons_append];gi_wp2
 gi_loopw [7] (fun i wr=>i=.int .i64 0∧J [] wr) (fun _ _=>0)
 case atStart=>exact⟨rfl,h0⟩
 case round =>
  obtain⟨rfl,hJs⟩:=hrel;gi_wp2;go_end0;exact⟨⟨_,rfl⟩,hJs⟩
theorem Z41 (a:Option Addr) (len cap:Nat) (w:World) :
  Calls Tryz.prog 50 #[.slice a len cap] w fun e w'=>e=.returned (.func (.func 100) #[] #[.pointer (some ⟨w.heap.size,0,none⟩)])∧w.alloc (.cells #[.slice a len cap] 23)=w':=by
 go_enter Tryz.func50,Tryz.ntmps50;go_wp2;go_ret;exact⟨rfl,rfl⟩
theorem Z2m {α:Type} (encA:α→Array Value) (f:Nat→α) (n:Nat) (hn:1≤n) (Bs n0:Nat) (sv:Value) (ps:List Pt) (w:World) (hBs:Bs<n0) (hn0:n0≤w.heap.size)
  (hc:w.cell? ⟨Bs,0,none⟩=some sv) (hI:Z8 n0 w sv ps) (hf:∀ i,i<ps.length→encA (f i)=encS (sideP ps i)) :
  SeqStopsK Fence.wide n Tryz.prog 100 #[.pointer (some ⟨Bs,0,none⟩)] encA (Below n0) (fun ys=>ys=upto f ps.length)
   (fun pre=>∃ k,k≤ps.length∧pre=upto f k) ps.length w:=fun l J Jx W hW hJ _ hY h0=>by
 have hc':=(hW.cell (p:=⟨Bs,0,none⟩) (by show Bs<_;omega)).trans hc
 have hsz:=hW.size;obtain⟨hl,a,cap,rfl,hcs⟩:=hI.below (hW.mono hn0);rcases hcs with rfl | ⟨b,o,rfl,hb,hcs⟩
 ·exact (Z2R n l Bs _ a J W hc' h0).mono fun e W' ⟨he,hj⟩=>⟨he,.inl ⟨_,rfl,hj⟩⟩
 ·exact Z7a encA f n hn W l Bs n0 n0 b o (ps.length+cap) ps hl hb hBs (by omega) hf J Jx hJ hY (Nat.le_refl _) hc' hcs h0
end
def combos:List Int→Nat→List (List Int)
 | _,0=>[[]]
 | [],_+1=>[]
 | x::xs,k+1=>(combos xs k).map (x::·)++combos xs (k+1)
def allTo (l:List Int) (n:Nat):List (List Int):=(List.range n).flatMap (combos l)
theorem Z18 (l:List Int) (n:Nat):allTo l (n+1)=allTo l n++combos l n:=by simp [allTo,List.range_succ]
theorem ZP {s : List Int} : ∀ {l : List Int} {k : Nat}, s ∈ combos l k ↔ s.Sublist l ∧ s.length = k
 | l, 0 => by
  simp only [combos,List.mem_singleton,List.length_eq_zero_iff];exact⟨fun h=>⟨by rw [h];exact List.nil_sublist _,h⟩,fun h=>h.2⟩
 | [], k + 1 => by
  simp only [combos,List.not_mem_nil,false_iff];rintro ⟨h1,h2⟩;rw [List.sublist_nil.1 h1] at h2;simp at h2
 | x :: xs, k + 1 => by
  simp only [combos,List.mem_append,List.mem_map];constructor
  ·rintro (⟨t,ht,rfl⟩ | h)
   ·obtain⟨h1,h2⟩:=ZP.1 ht
    exact⟨h1.cons_cons x,by simp [h2]⟩
   ·obtain⟨h1,h2⟩:=ZP.1 h
    exact⟨h1.cons x,h2⟩
  ·rintro ⟨h1,h2⟩
   rcases List.sublist_cons_iff.1 h1 with h | ⟨t,rfl,h⟩
   ·exact .inr (ZP.2 ⟨h,h2⟩)
   ·exact .inl ⟨t,ZP.2 ⟨h,by simpa using h2⟩,rfl⟩
theorem Z4E:∀ {l:List Int} {k:Nat},l.length<k→combos l k=[]
 | l, k, h => by
  rw [List.eq_nil_iff_forall_not_mem];intro s hs;obtain⟨h1,h2⟩:=ZP.1 hs;have:=h1.length_le;omega
theorem Z2v {l s:List Int} {n:Nat}:s ∈ allTo l n↔s.Sublist l∧s.length<n:=by
 simp only [allTo,List.mem_flatMap,List.mem_range,ZP];exact⟨fun ⟨k,h1,h2,h3⟩=>⟨h2,by omega⟩,fun ⟨h1,h2⟩=>⟨_,h2,h1,rfl⟩⟩
def lexB:List Int→List Int→Bool
 | [],_=>false
 | _::_,[]=>false
 | x::xs,y::ys=>if x=y then lexB xs ys else decide (x<y)
def betterB (a b:List Int):Bool:=if a.length=b.length then lexB a b else decide (a.length<b.length)
theorem Z5X:∀ a,lexB a a=false
 | []=>rfl
 | x::xs=>by simp [lexB,Z5X xs]
theorem Z37 : ∀ {a b c}, lexB a b = true → lexB b c = true → lexB a c = true
 | [],_,_,h,_=>by simp [lexB] at h
 | _::_,[],_,h,_=>by simp [lexB] at h
 | _::_,_::_,[],_,k=>by simp [lexB] at k
 | x :: xs, y :: ys, z :: zs, h, k => by
  simp only [lexB] at h k ⊢;by_cases h1:x=y
  ·subst h1
   rw [if_pos rfl] at h;by_cases h2:x=z
   ·rw [if_pos h2] at k ⊢;exact Z37 h k
   ·rw [if_neg h2] at k ⊢;exact k
  ·rw [if_neg h1,decide_eq_true_eq] at h
   by_cases h2:y=z
   ·subst h2
    rw [if_neg h1,decide_eq_true_eq];exact h
   ·rw [if_neg h2,decide_eq_true_eq] at k
    rw [if_neg (by omega),decide_eq_true_eq];omega
theorem Z6V (a:List Int):betterB a a=false:=by simp [betterB,Z5X]
theorem Z4I {a b c:List Int} (h:betterB a b=true) (k:betterB b c=true):betterB a c=true:=by
 unfold betterB at *;by_cases h1:a.length=b.length
 ·rw [if_pos h1] at h
  by_cases h2:b.length=c.length
  ·rw [if_pos h2] at k
   rw [if_pos (by omega)];exact Z37 h k
  ·rw [if_neg h2,decide_eq_true_eq] at k
   rw [if_neg (by omega),decide_eq_true_eq];omega
 ·rw [if_neg h1,decide_eq_true_eq] at h
  by_cases h2:b.length=c.length
  ·rw [if_neg (by omega),decide_eq_true_eq];omega
  ·rw [if_neg h2,decide_eq_true_eq] at k
   rw [if_neg (by omega),decide_eq_true_eq];omega
theorem Z4J {a b:List Int} (h:betterB a b=true) (k:betterB b a=true):False:=by
 have:=Z4I h k;rw [Z6V] at this;cases this
theorem Z0D : ∀ {l : List Int} {k : Nat}, l.Pairwise (· < ·) → (combos l k).Pairwise fun a b => lexB a b = true
 | _,0,_=>by simp [combos]
 | [],_+1,_=>by simp [combos]
 | x :: xs, k + 1, h => by
  rw [List.pairwise_cons] at h;simp only [combos];rw [List.pairwise_append];refine⟨?_,Z0D h.2,?_⟩
  ·rw [List.pairwise_map]
   exact (Z0D h.2).imp fun h=>by simpa [lexB] using h
  ·intro a ha b hb
   obtain⟨t,ht,rfl⟩:=List.mem_map.1 ha;obtain⟨h1,h2⟩:=ZP.1 hb;cases b with
   | nil=>simp at h2
   | cons y ys =>
    have:=h.1 y (h1.subset (by simp))
    simp only [lexB];rw [if_neg (by omega)];exact decide_eq_true this
theorem Z26 {l:List Int} (h:l.Pairwise (·<·)):∀ n,(allTo l n).Pairwise fun a b=>betterB a b=true
 | 0=>by simp [allTo]
 | n + 1 => by
  rw [Z18,List.pairwise_append];refine⟨Z26 h n,?_,?_⟩
  ·refine (Z0D h).imp_of_mem fun {a b} ha hb hab=>?_
   unfold betterB;rw [if_pos (by rw [(ZP.1 ha).2,(ZP.1 hb).2])];exact hab
  ·intro a ha b hb
   have h1:=(Z2v.1 ha).2;have h2:=(ZP.1 hb).2;unfold betterB;rw [if_neg (by omega)];exact decide_eq_true (by omega)
section
variable (lead:List Int→Int)
def farS (s:Int × List Int) (x:List Int):Int × List Int:=if s.1<lead x then (lead x,x) else s
def farL (L:List (List Int)):Int × List Int:=L.foldl (farS lead) (-1,[])
def IsBest (L:List (List Int)) (r:Int × List Int):Prop:=r.2 ∈ L∧r.1=lead r.2∧∀ x ∈ L,lead x<r.1∨(lead x=r.1∧(x=r.2∨betterB r.2 x=true))
theorem IsBest.one {lead:List Int→Int} {L L':List (List Int)} {r r':Int × List Int} (h:IsBest lead L r) (h':IsBest lead L' r') (hm:∀ x,x ∈ L↔x ∈ L'):r=r':=by
 obtain⟨a,b,c⟩:=h;obtain⟨a',b',c'⟩:=h';have d:=c _ ((hm _).2 a');have d':=c' _ ((hm _).1 a);rw [← b] at d';rw [← b'] at d;have e:r.1=r'.1:=by omega
 have f:r.2=r'.2:=by
  rcases d with d | ⟨_,d | d⟩
  ·omega
  ·exact d.symm
  ·rcases d' with d' | ⟨_,d' | d'⟩
   ·omega
   ·exact d'
   ·exact (Z4J d d').elim
 exact Prod.ext e f
theorem Z64 (h0 : ∀ x, 0 ≤ lead x) : ∀ (L : List (List Int)) (P : List (List Int)) (r : Int × List Int), (P ++ L).Pairwise (fun a b => betterB a b = true) → (P = [] ∧ r = (-1, []) ∨ IsBest lead P r) → L ≠ [] ∨ P ≠ [] → IsBest lead (P ++ L) (L.foldl (farS lead) r)
 | [], P, r, _, h, hn => by
  rcases h with⟨h,_⟩ | h
  ·subst h;simp at hn
  ·simpa using h
 | x :: L, P, r, hs, h, _ => by
  have:=Z64 h0 L (P++[x]) (farS lead r x) (by simpa using hs) (.inr ?_) (.inr (by simp))
  ·simpa using this
  ·unfold farS
   rcases h with⟨rfl,rfl⟩ | ⟨a,b,c⟩
   ·have:=h0 x
    rw [if_pos (by simp only;omega)]
    refine⟨by simp,rfl,fun y hy=>?_⟩
    obtain rfl:y=x:=by simpa using hy
    exact .inr ⟨rfl,.inl rfl⟩
   ·have hpx:=(List.pairwise_append.1 hs).2.2 r.2 a x (by simp)
    by_cases hc:r.1<lead x
    ·rw [if_pos hc]
     refine⟨by simp,rfl,fun y hy=>?_⟩
     rcases List.mem_append.1 hy with hy | hy
     ·have d:=c y hy
      left;simp only;omega
     ·obtain rfl:y=x:=by simpa using hy
      exact .inr ⟨rfl,.inl rfl⟩
    ·rw [if_neg hc]
     refine⟨List.mem_append.2 (.inl a),b,fun y hy=>?_⟩
     rcases List.mem_append.1 hy with hy | hy
     ·exact c y hy
     ·obtain rfl:y=x:=by simpa using hy
      rcases Int.lt_or_eq_of_le (Int.not_lt.1 hc) with e | e
      ·exact .inl e
      ·exact .inr ⟨e,.inr hpx⟩
theorem Z84 {top:Int} (ht:∀ x,lead x≤top) {s:Int × List Int} (hs:s.1=top) (L:List (List Int)):L.foldl (farS lead) s=s:=by
 induction L with
 | nil=>rfl
 | cons x L ih =>
  have:farS lead s x=s:=by unfold farS;rw [if_neg];have:=ht x;omega
  rw [List.foldl_cons,this];exact ih
end
section
attribute [local go_sem] Oper.semAt_some
attribute [local irreducible] wpQuiet
open Go.RowKit Go.Shelf
def headOk (l:List Pt) (k:Nat):Prop:=Z4 (nth l k)=true∧(0<k→cmpP (nth l 0) (nth l k)<0)
def GoValid (l:List Pt):Prop:=1≤l.length∧l.length≤64∧(∀ k,k<l.length→headOk l k) ∧
 (3≤l.length→∀ i,i<l.length→∀ k,k<l.length→nth l k≠(sideP l i).1→nth l k≠(sideP l i).2→0<Z6 (sideP l i).1 (sideP l i).2 (nth l k))
open Classical in
noncomputable def Zb (l:List Pt):Bool:=decide (GoValid l)
set_option maxRecDepth 100000 in
theorem Z2W (v:Value) (l:List Pt) (w:World) (hp:Z8 w.heap.size w v l) (hs:l.length<1∨64<l.length) :
  Calls Tryz.prog 46 #[v] w fun e w'=>e=.returned (.bool (Zb l))∧Below w.heap.size w w':=by
 have hr:Zb l=false:=by simp only [Zb,decide_eq_false_iff_not];rintro ⟨h1,h2,_⟩;omega
 rw [hr];clear hr;obtain⟨hl,a,cap,rfl,hc⟩:=hp;clear hc;refine (callsIn_wide (n:=9)).1 ?_;refine callsIn_of_wp_marks Tryz.func46 rfl trivial ?_ rfl;simp only [Tryz.ntmps46,List.size_toArray,List.length_cons,List.length_nil,Nat.reduceAdd,Nat.reduceSub,Array.replicate_succ,Array.replicate_zero,List.push_toArray,List.append_toArray,List.nil_append,List.cons_append];refine wpIn_wide.2 ?_;rcases hs with hs | hs
 ·have d:decide ((l.length:Int)<1)=true:=by simp;omega
  have hs':=Lib.hid hs;clear hs;go_wp2;exact⟨.bool false,by simp [results,Tryz.f46,go_sem],rfl,zB2⟩
 ·have d:decide ((l.length:Int)<1)=false:=by simp;omega
  have d:decide (64<(l.length:Int))=true:=by simp;omega
  have hs':=Lib.hid hs;clear hs;go_wp2;exact⟨.bool false,by simp [results,Tryz.f46,go_sem],rfl,zB2⟩
theorem Boxed.below {W W':World} {B n:Nat} {t:TypeId} {v:Value} (h:Boxed W B t v) (hb:Below n W W') (hlt:B<n):Boxed W' B t v:=(hb.block B hlt).trans h
def Has (W:World) (B:Nat) (cs:Array Value) (t:TypeId):Prop:=W.heap[B]?=some (.cells cs t (0,0))
theorem Has.lt {W:World} {B:Nat} {cs:Array Value} {t:TypeId} (h:Has W B cs t):B<W.heap.size:=(Array.getElem?_eq_some_iff.1 h).1
theorem Z0b {W W':World} {row:Option Nat} {B:Nat} {cs:Array Value} {t:TypeId} (h:Has W B cs t) (hg:W.grownBy W' row) (hrow:∀ r,row=some r→∃ o:Obj,W.heap[r]?=some o∧o.isCells=false):Has W' B cs t :=
 (hg.block B h.lt (fun e=>by obtain⟨o,ho,hc⟩:=hrow B e.symm;rw [show W.heap[B]?=_ from h] at ho;cases ho;cases hc)).trans h
theorem Has.below {W W':World} {B n:Nat} {cs:Array Value} {t:TypeId} (h:Has W B cs t) (hb:Below n W W') (hlt:B<n):Has W' B cs t:=(hb.block B hlt).trans h
theorem Has.new (W:World) (cs:Array Value) (t:TypeId):Has (W.alloc (.cells cs t)) W.heap.size cs t:=World.alloc_heap_new W _
theorem Has.cell {W:World} {B:Nat} {cs:Array Value} {t:TypeId} (h:Has W B cs t) {i:Nat} {v:Value} (hi:cs[i]?=some v):W.cell? ⟨B,i,none⟩=some v:=by
 simp [World.cell?,show W.heap[B]?=_ from h,hi]
def sideOk (l:List Pt) (s:Pt × Pt):Prop:=∀ k,k<l.length→nth l k≠s.1→nth l k≠s.2→0<Z6 s.1 s.2 (nth l k)
def okTo (l:List Pt) (a b:Pt) (k:Nat):Prop:=∀ j,j<k→nth l j≠a→nth l j≠b→0<Z6 a b (nth l j)
theorem Z7p {l:List Pt} {a b:Pt} {k:Nat} (h:okTo l a b k) (hk:nth l k=a∨nth l k=b):okTo l a b (k+1):=fun j hj h1 h2=>by
 by_cases e:j=k
 ·subst e;rcases hk with hk | hk
  ·exact absurd hk h1
  ·exact absurd hk h2
 ·exact h j (by omega) h1 h2
theorem Z7q {l:List Pt} {a b:Pt} {k:Nat} (h:okTo l a b k) (hk:0<Z6 a b (nth l k)):okTo l a b (k+1):=fun j hj h1 h2=>by
 by_cases e:j=k
 ·subst e;exact hk
 ·exact h j (by omega) h1 h2
theorem Z8O (px py ax ay bx by':Int):((px=ax∧py=ay)∨(px=ax∧¬ py=ay∧ax=bx∧py=by')∨(¬ px=ax∧px=bx∧py=by')) ∨
  ((px=ax∧¬ py=ay∧ax=bx∧¬ py=by')∨(px=ax∧¬ py=ay∧¬ ax=bx)∨(¬ px=ax∧px=bx∧¬ py=by')∨(¬ px=ax∧¬ px=bx)):=by omega
theorem Pt.ne_of {a b:Pt} (h:¬ (a.x=b.x∧a.y=b.y)):a≠b:=fun e=>h (by rw [e];exact⟨rfl,rfl⟩)
theorem ZA {B:Nat} {W W':World} (h:Below W.heap.size W W'):KeepsFrom B W W' :=
 ⟨h.size,fun k _ _ hk _=>(h.block k (Array.getElem?_eq_some_iff.1 hk).1).trans hk⟩
theorem Z2c {α:Type} {f:Nat→α} {n:Nat} {x:α}:x ∈ upto f n↔∃ i,i<n∧f i=x:=by simp [upto]
abbrev PlS:={ s:Pt × Pt // Z4 s.1=true∧Z4 s.2=true }
theorem Z04 {l:List Pt} (h:∀ k,k<l.length→Z4 (nth l k)=true) (k:Nat):Z4 (nth l k)=true:=by
 by_cases hk:k<l.length
 ·exact h k hk
 ·have:nth l k=⟨0,0⟩:=by unfold nth;simp [List.getD_eq_getElem?_getD,List.getElem?_eq_none (by omega:l.length≤k)]
  rw [this];rfl
set_option maxRecDepth 100000 in
theorem Z3J (v : Value) (l : List Pt) (w : World) (hp : Z8 w.heap.size w v l) (h1 : 1 ≤ l.length) (h2 : l.length ≤ 64) :
  Calls Tryz.prog 46 #[v] w fun e w'=>e=.returned (.bool (Zb l))∧Below w.heap.size w w':=by
 obtain⟨hl,a,cap,rfl,hc⟩:=hp;obtain⟨b,o,rfl,hb,hc⟩:∃ b o,a=some ⟨b,o,none⟩∧b<w.heap.size∧∀ j,j<l.length→w.cell? ⟨b,o+j*2,none⟩=some (.int .i64 (nth l j).x)∧w.cell? ⟨b,o+j*2+1,none⟩=some (.int .i64 (nth l j).y):=by
  rcases hc with rfl | h
  ·simp at h1
  ·exact h
 refine (callsIn_wide (n:=9)).1 ?_;refine callsIn_of_wp_marks Tryz.func46 rfl trivial ?_ rfl;simp only [Tryz.ntmps46,List.size_toArray,List.length_cons,List.length_nil,Nat.reduceAdd,Nat.reduceSub,Array.replicate_succ,Array.replicate_zero,List.push_toArray,List.append_toArray,List.nil_append,List.cons_append];refine wpIn_wide.2 ?_;have d1:decide ((l.length:Int)<1)=false:=by simp;omega
 have d2:decide (64<(l.length:Int))=false:=by simp;omega
 have hc':=Lib.hid hc;clear hc;go_wp2
 go_loopw [19] (fun i wr=>∃ k:Nat,k≤l.length∧i=.int .i64 k∧(∀ j,j<k→headOk l j) ∧
  Boxed wr w.heap.size 23 (.slice (some ⟨b,o,none⟩) l.length (l.length+cap))∧Boxed wr (w.heap.size+1) 4 (.bool false)∧Below w.heap.size w wr) (fun i _=>l.length-(intOf i).toNat)
 case atStart =>
  have bS:=Boxed.new w 23 (.slice (some ⟨b,o,none⟩) l.length (l.length+cap));have bR:=Boxed.new (w.alloc (.cells #[.slice (some ⟨b,o,none⟩) l.length (l.length+cap)] 23)) 4 (.bool false);rw [World.size_alloc] at bR;exact⟨0,Nat.zero_le _,rfl,fun j h=>by omega,bS.alloc _,bR,zB2⟩
 case round =>
  obtain⟨k,hk,rfl,hall,bS,bR,hB⟩:=hrel;by_cases hlt:k<l.length
  ·have hz := hB.size
   have hsr:=bR.lt;have c0:=bS.cell;have c1:=(hB.cell (p:=⟨b,o+k*2,none⟩) hb).trans (hc'.out k hlt).1;have c2:=(hB.cell (p:=⟨b,o+k*2+1,none⟩) hb).trans (hc'.out k hlt).2;have c3:=(hB.cell (p:=⟨b,o+0*2,none⟩) hb).trans (hc'.out 0 (by omega)).1
   have c4:=(hB.cell (p:=⟨b,o+0*2+1,none⟩) hb).trans (hc'.out 0 (by omega)).2
   simp only [Nat.zero_mul,Nat.add_zero] at c3 c4;have hB2:Below wr.heap.size wr (wr.alloc (.cells #[.int .i64 (nth l k).x,.int .i64 (nth l k).y] 31)):=(Below.refl _ wr).alloc (Nat.le_refl _) _;have hall':=Lib.hid hall;have bS':=Lib.hid bS;have bR':=Lib.hid bR;clear hall bS bR;have r0:=bR'.out.cell;have r1:=bR'.out.frozen;cases hpl:placeB (nth l k).x (nth l k).y
   ·have hr:Zb l=false:=by
     simp only [Zb,decide_eq_false_iff_not];rintro ⟨_,_,h3,_⟩;have:=(h3 k hlt).1;rw [Z4,hpl] at this;cases this
    have HR:=Lib.hid hr;clear hr;go_wp2
    (refine Zh (by kernel_rfl) (by kernel_rfl) ?_;(iterate 4 (apply Zf;(case hw=>rfl);(case hval=>(intro w1 hw1;have hcx:=Low.cells hw1;simp only [Oper.quietAt];go_simp;first | done | (first | (go_at_call 47;exact Low.calls hw1 (Z1K _ _ _ hpl))) | rfl | exact⟨rfl,rfl⟩));simp only [Act.put,zq4,zr4,zs4]));(iterate 10 (apply Zy;(case hw=>rfl);simp only [Act.put,zq4,zr4,zs4]));(iterate 1 (apply Zf;(case hw=>rfl);(case hval=>(intro w1 hw1;have hcx:=Low.cells hw1;simp only [Oper.quietAt];go_simp;first | done | (first | (go_at_call 47;exact Low.calls hw1 (Z1K _ _ _ hpl))) | rfl | exact⟨rfl,rfl⟩));simp only [Act.put,zq4,zr4,zs4]));refine wpQuiet_nil ?_;intro w2 hw2)
    have hz2:=hw2.out.size;rw [World.size_alloc] at hz2;have bR2:Boxed w2 (w.heap.size+1) 4 (.bool false):=Boxed.below (bR'.out.alloc _) hw2.out (by rw [World.size_alloc];omega)
    have q0:=bR2.cell;have q1:=bR2.frozen;go_wp2;exact⟨.bool false,by simp [results,Tryz.f46,go_sem,World.cell?_setCell_same' w2 ⟨w.heap.size+1,0,none⟩ (.bool false) (by rw [q0];rfl)],ZB HR.out.symm,((hB.alloc (by omega) _).trans (hw2.out.mono (by rw [World.size_alloc];omega))).setCell (by simp) _⟩
   ·by_cases hk0:k=0
    ·subst hk0
     have dk:decide ((0:Int)<((0:Nat):Int))=false:=by simp
     go_wp2
     (refine Zh (by kernel_rfl) (by kernel_rfl) ?_;(iterate 7 (apply Zf;(case hw=>rfl);(case hval=>(intro w1 hw1;have hcx:=Low.cells hw1;simp only [Oper.quietAt];go_simp;first | done | (first | (go_at_call 47;exact Low.calls hw1 (Z0a _ _ _ hpl))) | rfl | exact⟨rfl,rfl⟩));simp only [Act.put,zq4,zr4,zs4]));(iterate 6 (apply Zy;(case hw=>rfl);simp only [Act.put,zq4,zr4,zs4]));(iterate 2 (apply Zf;(case hw=>rfl);(case hval=>(intro w1 hw1;have hcx:=Low.cells hw1;simp only [Oper.quietAt];go_simp;first | done | (first | (go_at_call 47;exact Low.calls hw1 (Z0a _ _ _ hpl))) | rfl | exact⟨rfl,rfl⟩));simp only [Act.put,zq4,zr4,zs4]));refine wpQuiet_nil ?_;intro w2 hw2)
     have hz2:=hw2.out.size;rw [World.size_alloc] at hz2;go_wp2;go_roundw
     case rel =>
      refine⟨1,by omega,rfl,fun j hj=>?_,Boxed.below (bS'.out.alloc _) hw2.out (by rw [World.size_alloc];omega),Boxed.below (bR'.out.alloc _) hw2.out (by rw [World.size_alloc];omega),(hB.alloc (by omega) _).trans (hw2.out.mono (by rw [World.size_alloc];omega))⟩
      obtain rfl:j=0:=by omega
      exact⟨hpl,fun h=>by omega⟩
     case measure=>simp [intOf];omega
    ·have hk1:(0:Int)<(k:Int):=by omega
     have dk:decide (0<k)=true:=by simp;omega
     have hkn:0<k:=by omega
     have hl0:0<l.length:=by omega
     have hbl:=World.block_lt_of_cell? wr _ c1;have f0:=(hB2.cell (p:=⟨w.heap.size,0,none⟩) (World.block_lt_of_cell? wr _ c0)).trans c0;have f3:=(hB2.cell (p:=⟨b,o,none⟩) hbl).trans c3;have f4:=(hB2.cell (p:=⟨b,o+1,none⟩) hbl).trans c4;have g0:=Low.fact f0;have g3:=Low.fact f3;have g4:=Low.fact f4;by_cases hcmp:cmpV (nth l 0).x (nth l 0).y (nth l k).x (nth l k).y<0
     ·have dc:decide (0≤cmpV (nth l 0).x (nth l 0).y (nth l k).x (nth l k).y)=false:=by simp;omega
      have HC:=Lib.hid hcmp;clear hcmp;go_wp2
      (refine Zh (by kernel_rfl) (by kernel_rfl) ?_;(iterate 15 (apply Zf;(case hw=>rfl);(case hval=>(intro w1 hw1;have hcx:=Low.cells hw1;simp only [Oper.quietAt];go_simp;first | done | (first | (go_at_call 47;exact Low.calls hw1 (Z0a _ _ _ hpl)) | (go_at_call 96;exact Low.calls hw1 (Z2M _ _ _ _ _))) | rfl | exact⟨rfl,rfl⟩));simp only [Act.put,zq4,zr4,zs4]));refine wpQuiet_nil ?_;intro w2 hw2)
      have hz2:=hw2.out.size;rw [World.size_alloc] at hz2;go_wp2;go_roundw
      case rel =>
       refine⟨k+1,by omega,by simp,fun j hj=>?_,Boxed.below (bS'.out.alloc _) hw2.out (by rw [World.size_alloc];omega),Boxed.below (bR'.out.alloc _) hw2.out (by rw [World.size_alloc];omega),(hB.alloc (by omega) _).trans (hw2.out.mono (by rw [World.size_alloc];omega))⟩
       by_cases e:j=k
       ·subst e;exact⟨hpl,fun _=>HC.out⟩
       ·exact hall'.out j (by omega)
      case measure=>simp [intOf];omega
     ·have dc:decide (0≤cmpV (nth l 0).x (nth l 0).y (nth l k).x (nth l k).y)=true:=by simp;omega
      have hr:Zb l=false:=by
       simp only [Zb,decide_eq_false_iff_not];rintro ⟨_,_,h3,_⟩;exact hcmp ((h3 k hlt).2 (by omega))
      have HR:=Lib.hid hr;clear hr hcmp;go_wp2
      (refine Zh (by kernel_rfl) (by kernel_rfl) ?_;(iterate 15 (apply Zf;(case hw=>rfl);(case hval=>(intro w1 hw1;have hcx:=Low.cells hw1;simp only [Oper.quietAt];go_simp;first | done | (first | (go_at_call 47;exact Low.calls hw1 (Z0a _ _ _ hpl)) | (go_at_call 96;exact Low.calls hw1 (Z2M _ _ _ _ _))) | rfl | exact⟨rfl,rfl⟩));simp only [Act.put,zq4,zr4,zs4]));refine wpQuiet_nil ?_;intro w2 hw2)
      have hz2:=hw2.out.size;rw [World.size_alloc] at hz2;have bR2:Boxed w2 (w.heap.size+1) 4 (.bool false):=Boxed.below (bR'.out.alloc _) hw2.out (by rw [World.size_alloc];omega)
      have q0:=bR2.cell;have q1:=bR2.frozen;go_wp2;exact⟨.bool false,by simp [results,Tryz.f46,go_sem,World.cell?_setCell_same' w2 ⟨w.heap.size+1,0,none⟩ (.bool false) (by rw [q0];rfl)],ZB HR.out.symm,((hB.alloc (by omega) _).trans (hw2.out.mono (by rw [World.size_alloc];omega))).setCell (by simp) _⟩
  ·obtain rfl:k=l.length:=by omega
   have c0:=bS.cell;have r0:=bR.cell;have r1:=bR.frozen;have hz:=hB.size;by_cases h3:l.length<3
   ·have d3:decide ((l.length:Int)<3)=true:=by simp;omega
    have hr:Zb l=true:=by
     simp only [Zb,decide_eq_true_eq];exact⟨h1,h2,hall,fun h=>by omega⟩
    have HR:=Lib.hid hr;clear hr hall;go_wp2;exact⟨.bool true,by simp [results,Tryz.f46,go_sem,World.cell?_setCell_same' wr ⟨w.heap.size+1,0,none⟩ (.bool true) (by rw [r0];rfl)],ZB HR.out.symm,hB.setCell (by simp) _⟩
   ·have d3 : decide ((l.length : Int) < 3) = false := by simp; omega
    have hall':=Lib.hid hall;clear hall;go_wp2_with (go_at_call 50;refine (Z41 _ _ _ _).mono ?_;rintro e w' ⟨rfl,rfl⟩);have hz':(wr.alloc (.cells #[.slice (some ⟨b,o,none⟩) l.length (l.length+cap)] 23)).heap.size=wr.heap.size+1:=by simp
    have hBa:Below w.heap.size w (wr.alloc (.cells #[.slice (some ⟨b,o,none⟩) l.length (l.length+cap)] 23)):=hB.alloc hz _;have bN:=Boxed.new wr 23 (.slice (some ⟨b,o,none⟩) l.length (l.length+cap));have bS0:=bS.alloc (.cells #[.slice (some ⟨b,o,none⟩) l.length (l.length+cap)] 23);have bR0:=bR.alloc (.cells #[.slice (some ⟨b,o,none⟩) l.length (l.length+cap)] 23);obtain⟨W0,hW0⟩:∃ W0,(wr.alloc (.cells #[.slice (some ⟨b,o,none⟩) l.length (l.length+cap)] 23))=W0:=⟨_,rfl⟩;rw [hW0] at hz' hBa bN bS0 bR0 ⊢;clear hW0 bS bR c0 r0 r1;have hI:Z8 (wr.heap.size+1) W0 (.slice (some ⟨b,o,none⟩) l.length (l.length+cap)) l :=
     Z8.mono (Z8.below hBa ⟨hl,_,cap,rfl,Or.inr ⟨b,o,rfl,hb,hc'.out⟩⟩) (by omega)
    have hpl:∀ i,Z4 (sideP l i).1=true∧Z4 (sideP l i).2=true:=fun i=>⟨Z04 (fun k hk=>(hall'.out k hk).1) _,Z04 (fun k hk=>(hall'.out k hk).1) _⟩
    refine (wpIn_wide (n:=9)).1 ?_;refine wpIn_rangeFunc_ownH rfl (by omega) (gf:=100) (lb:=#[.pointer (some ⟨wr.heap.size,0,none⟩)]) rfl trivial (enters_of Tryz.func100 (by kernel_rfl) rfl)
     (Z2m (fun s:PlS=>encS s.1) (fun i=>⟨sideP l i,hpl i⟩) 8 (by omega) wr.heap.size (wr.heap.size+1) _ l _ (by omega) (by rw [hz'];omega) bN.cell hI (fun _ _=>rfl)) belowK_t (belowK_b (by rw [hz'];omega)) (Below.refl _ _) (fun _=>rfl)
     (fun pre W=>(Boxed W w.heap.size 23 (.slice (some ⟨b,o,none⟩) l.length (l.length+cap))∧Boxed W (w.heap.size+1) 4 (.bool false))∧(Below w.heap.size W0 W∧∀ s ∈ pre,sideOk l s.1))
     (fun c pre W=>(Boxed W (w.heap.size+1) 4 (.bool false)∧(c=.ret∧∃ s ∈ pre,¬ sideOk l s.1))∧Below w.heap.size W0 W)
     (OwnFrom.and (OwnFrom.and (Own.from (boxed_own _ _ (fun _=>_)) _) (Own.from (boxed_own _ _ (fun _=>_)) _)) (OwnFrom.and (ownFrom_below (by rw [hz'];omega) (by rw [hz'];omega)) (ownFrom_pure _ _)))
     (fun c=>OwnFrom.and (OwnFrom.and (Own.from (boxed_own _ _ (fun _=>_)) _) (ownFrom_pure _ _)) (ownFrom_below (by rw [hz'];omega) (by rw [hz'];omega)))
     ⟨⟨bS0,bR0⟩,Below.refl _ _,by simp⟩
     (fun x a' W=>∃ B1 B2,(Has W B1 #[.int .i64 x.1.1.x,.int .i64 x.1.1.y] 31∧Has W B2 #[.int .i64 x.1.2.x,.int .i64 x.1.2.y] 31)∧a'={ tmps:=#[.slice (some ⟨b,o,none⟩) l.length (l.length+cap),.pointer (some ⟨w.heap.size,0,none⟩),.pointer (some ⟨w.heap.size+1,0,none⟩),u3,u4,.pointer (some ⟨B1,0,none⟩),.pointer (some ⟨B2,0,none⟩),undef,undef,.slice (some ⟨b,o,none⟩) l.length (l.length+cap),.int .i64 (l.length:Int),.bool false,.bool false,.slice (some ⟨b,o,none⟩) l.length (l.length+cap),.int .i64 (l.length:Int),.bool false,.bool false,.slice (some ⟨b,o,none⟩) l.length (l.length+cap),.int .i64 (l.length:Int),.int .i64 (l.length:Int),.bool false,u21,u22,u23,u24,u25,u26,u27,u28,u29,u30,u31,u32,u33,u34,u35,u36,u37,u38,u39,.slice (some ⟨b,o,none⟩) l.length (l.length+cap),.int .i64 (l.length:Int),.bool false,.slice (some ⟨b,o,none⟩) l.length (l.length+cap),.func (.func 100) #[] #[.pointer (some ⟨wr.heap.size,0,none⟩)],.agg #[.int .i64 x.1.1.x,.int .i64 x.1.1.y],.agg #[.int .i64 x.1.2.x,.int .i64 x.1.2.y],undef,undef,undef,undef,undef,undef,undef,undef,undef,undef,undef,undef,undef,undef,undef,undef,undef,undef,undef,undef,undef,undef],defers:=[] })
     (fun x a' _ X Y row hs hg hr=>by obtain⟨B1,B2,⟨g1,g2⟩,g3⟩:=hs;exact⟨B1,B2,⟨Z0b g1 hg (fun r e=>(hr r e).2),Z0b g2 hg (fun r e=>(hr r e).2)⟩,g3⟩)
     ?assign ?body ?done ?stop
    case assign =>
     rintro ll pre x W K ⟨⟨bS1,bR1⟩,hB1,hp1⟩ hK;unfold encS;gi_wp2;have hzW:=hB1.size;exact hK _ _ (((KeepsOthers.alloc _ _).trans (KeepsOthers.alloc _ _)).from _) (((Below.refl _ W).alloc (by omega) _).alloc (by simp;omega) _)
      ⟨⟨(bS1.alloc _).alloc _,(bR1.alloc _).alloc _⟩,(hB1.alloc (by omega) _).alloc (by simp;omega) _,hp1⟩
      ⟨W.heap.size,W.heap.size+1,⟨Has.below (Has.new W _ _) ((Below.refl (W.heap.size+1) _).alloc (by simp) _) (by omega),by have:=Has.new (W.alloc (.cells #[.int .i64 x.1.1.x,.int .i64 x.1.1.y] 31)) #[.int .i64 x.1.2.x,.int .i64 x.1.2.y] 31;rwa [World.size_alloc] at this⟩,rfl⟩
    case body =>
     rintro ll pre ⟨⟨⟨ax,ay⟩,⟨bx,by'⟩⟩,hxx⟩ a' W hll ⟨r,hr⟩ ⟨⟨bS1,bR1⟩,hB1,hp1⟩ ⟨B1,B2,⟨g1,g2⟩,rfl⟩ hlt
     dsimp only at g1 g2 ⊢;have pa:=Zu hxx.1;have pb:=Zu hxx.2;dsimp only at pa pb;obtain⟨S,hS⟩:∃ S:PlS,S=⟨(⟨ax,ay⟩,⟨bx,by'⟩),hxx⟩:=⟨_,rfl⟩
     rw [← hS];have HS:Hid (S.1=(⟨ax,ay⟩,⟨bx,by'⟩)):=by show S.1=_;rw [hS]
     clear hS;have hzW:=hB1.size;have hBw:=hBa.trans hB1;have c0:=bS1.cell;have hll':=Lib.hid hll;have hr':=Lib.hid hr;have hlt':=Lib.hid hlt;clear hll hr hlt hxx;gi_wp2
     gi_loopw [49] (fun i wv=>∃ k:Nat,k≤l.length∧i=.int .i64 k∧okTo l ⟨ax,ay⟩ ⟨bx,by'⟩ k∧Below W.heap.size W wv) (fun i _=>l.length-(intOf i).toNat)
     case atStart=>exact⟨0,Nat.zero_le _,rfl,fun j h=>by omega,Below.refl _ _⟩
     case round =>
      obtain⟨k,hk,rfl,hok,hv⟩:=hrel;by_cases hlk:k<l.length
      ·have hbv:=hBw.trans (hv.mono (by have:=hBw.size;omega))
       have c1:=(hbv.cell (p:=⟨b,o+k*2,none⟩) hb).trans (hc'.out k hlk).1;have c2:=(hbv.cell (p:=⟨b,o+k*2+1,none⟩) hb).trans (hc'.out k hlk).2;have pp:=Zu (hall'.out k hlk).1;obtain⟨px,py,hN⟩:∃ px py,nth l k=⟨px,py⟩:=⟨_,_,rfl⟩;rw [hN] at c1 c2 pp;dsimp only at c1 c2 pp;have HN:=Lib.hid hN;have hok':=Lib.hid hok;have hp1':=Lib.hid hp1;have G1:=g1.below hv g1.lt;have G2:=g2.below hv g2.lt;have bRv:=Boxed.below bR1 hv bR1.lt;have hzv:=hv.size;clear hN hok hp1;have hv2:Below wr.heap.size wr (wr.alloc (.cells #[.int .i64 px,.int .i64 py] 31)):=(Below.refl _ wr).alloc (Nat.le_refl _) _;have a1:=(hv2.cell (p:=⟨B1,0,none⟩) G1.lt).trans (G1.cell (i:=0) rfl);have a2:=(hv2.cell (p:=⟨B1,1,none⟩) G1.lt).trans (G1.cell (i:=1) rfl);have a3:=(hv2.cell (p:=⟨B2,0,none⟩) G2.lt).trans (G2.cell (i:=0) rfl);have a4:=(hv2.cell (p:=⟨B2,1,none⟩) G2.lt).trans (G2.cell (i:=1) rfl);have HG:=Lib.hid (And.intro G1 G2);have HR1:=Lib.hid (And.intro bS1 bR1);have HRv:=Lib.hid bRv;clear G1 G2 bS1 bR1 bRv;rcases Z8O px py ax ay bx by' with h | h
       ·rcases h with⟨rfl,rfl⟩ | ⟨rfl,hn,rfl,rfl⟩ | ⟨hn,rfl,rfl⟩
        all_goals
         gi_wp2;refine⟨trivial,?_⟩;gi_wp2;go_roundw
         case rel=>exact⟨k+1,by omega,by simp,Z7p hok'.out (by first | exact Or.inl HN.out | exact Or.inr HN.out),hv.alloc (by omega) _⟩
         case measure=>simp [intOf];omega
       ·have hne:nth l k≠⟨ax,ay⟩∧nth l k≠⟨bx,by'⟩:=by
         rw [HN.out];constructor
         ·exact Pt.ne_of (by dsimp only;omega)
         ·exact Pt.ne_of (by dsimp only;omega)
        have hT:Z6 ⟨ax,ay⟩ ⟨bx,by'⟩ (nth l k)=turnV ax ay bx by' px py:=by rw [HN.out];rfl
        have HNE:=Lib.hid hne;have HT:=Lib.hid hT;clear hne hT;by_cases ht:turnV ax ay bx by' px py≤0
        ·have dt:decide (turnV ax ay bx by' px py≤0)=true:=by simpa using ht
         have Ht:=Lib.hid ht;clear ht;rcases h with⟨rfl,hn,rfl,hm⟩ | ⟨rfl,hn,hm⟩ | ⟨hn,rfl,hm⟩ | ⟨hn,hm⟩
         all_goals
          gi_wp2_with (refine⟨trivial,?_⟩;gi_at_call 49;refine (CallsIn.inRound ll (callsIn_wide.2 (Z0W _ _ _ _ _ _ _ (by omega) (by omega) (by omega) (by omega) (by omega) (by omega) (by omega) (by omega) (by omega) (by omega) (by omega) (by omega)))).mono ?_;rintro e w2 ⟨rfl,hb2⟩;have bR2:=Boxed.below (HRv.out.alloc (.cells #[.int .i64 px,.int .i64 py] 31)) hb2 (by rw [World.size_alloc];have:=HRv.out.lt;omega);have q0:=bR2.cell;have q1:=bR2.frozen)
          have hz2:=hb2.size;rw [World.size_alloc] at hz2;have hW2:Below W.heap.size W w2:=(hv.alloc (by omega) _).trans (hb2.mono (by rw [World.size_alloc];omega))
          exact⟨(ZA hW2).trans ((KeepsOthers.setCell _ _ _).from _),⟨bR2.set _,rfl,S,by simp,fun h=>by
           rw [HS.out] at h;have h4:=h k hlk HNE.out.1 HNE.out.2;rw [HT.out] at h4;have:=Ht.out;omega⟩,(hB1.trans (hW2.mono (by omega))).setCell (by simp) _⟩
        ·have dt:decide (turnV ax ay bx by' px py≤0)=false:=by simpa using ht
         have Ht:=Lib.hid ht;clear ht;rcases h with⟨rfl,hn,rfl,hm⟩ | ⟨rfl,hn,hm⟩ | ⟨hn,rfl,hm⟩ | ⟨hn,hm⟩
         all_goals
          gi_wp2_with (refine⟨trivial,?_⟩;gi_at_call 49;refine (CallsIn.inRound ll (callsIn_wide.2 (Z0W _ _ _ _ _ _ _ (by omega) (by omega) (by omega) (by omega) (by omega) (by omega) (by omega) (by omega) (by omega) (by omega) (by omega) (by omega)))).mono ?_;rintro e w2 ⟨rfl,hb2⟩)
          have hz2:=hb2.size;rw [World.size_alloc] at hz2;go_roundw
          case rel=>exact⟨k+1,by omega,by simp,Z7q hok'.out (by rw [HT.out];have:=Ht.out;omega),(hv.alloc (by omega) _).trans (hb2.mono (by rw [World.size_alloc];omega))⟩
          case measure=>simp [intOf];omega
      ·have hv':=Lib.hid hv
       have hok':Hid (sideOk l S.1):=by show sideOk l S.1;rw [HS.out];intro j hj;exact hok j (by omega)
       have hp1':=Lib.hid hp1;clear hok hp1;obtain rfl:k=l.length:=by omega
       gi_wp2;exact⟨ZA hv'.out,hv'.out.mono (by omega),⟨Boxed.below bS1 hv'.out bS1.lt,Boxed.below bR1 hv'.out bR1.lt⟩,hB1.trans (hv'.out.mono (by omega)),fun s hs=>by
        rcases List.mem_append.1 hs with hs | hs
        ·exact hp1'.out s hs
        ·obtain rfl:s=S:=by simpa using hs
         exact hok'.out⟩
    case done =>
     rintro D ys W hD rfl ⟨⟨bS1,bR1⟩,hB1,hp1⟩ hK;have hr:Zb l=true:=by
      simp only [Zb,decide_eq_true_eq];exact⟨h1,h2,hall'.out,fun _ i hi=>hp1 ⟨sideP l i,hpl i⟩ (Z2c.2 ⟨i,hi,rfl⟩)⟩
     have HR:=Lib.hid hr;have hzW:=hB1.size;clear hr hp1;have q0:=bR1.cell;have q1:=bR1.frozen;have hK':=(KeepsOthers.setCell W ⟨w.heap.size+1,0,none⟩ (.bool true)).same D _ hK rfl;have hc5:=cell_kept (World.cell?_setCell_same' W ⟨w.heap.size+1,0,none⟩ (.bool true) (by rw [q0];rfl)) (grownBy_putObj' _ D (.deferred none)) (fun r e=>by cases e;exact⟨_,hK',rfl⟩)
     have HK:=Lib.hid hK';have HC:=Lib.hid hc5;clear hK' hc5;go_wp2;refine⟨by simp,.inl ⟨_,_,rfl,run_takeDeferred HK.out,?_⟩⟩
     refine⟨.bool true,by simp [results,Tryz.f46,go_sem,HC.out],ZB HR.out.symm,?_⟩
     exact ((hBa.trans hB1).setCell (p:=⟨w.heap.size+1,0,none⟩) (by simp) _).trans (belowK_b (w:=w) (Nat.le_refl _) _ D _ _ (by omega) HK.out rfl rfl)
    case stop =>
     rintro D c pre W hD ⟨k2,hk2,rfl⟩ ⟨⟨bR1,rfl,s,hs,hns⟩,hB1⟩ hK;have hr:Zb l=false:=by
      simp only [Zb,decide_eq_false_iff_not];rintro ⟨_,_,_,h4⟩;obtain⟨i,hi,rfl⟩:=Z2c.1 hs;exact hns (h4 (by omega) i (by omega))
     have HR:=Lib.hid hr;have hzW:=hB1.size;clear hr hns hs;have hc5:=cell_kept bR1.cell (grownBy_putObj' _ D (.deferred none)) (fun r e=>by cases e;exact⟨_,hK,rfl⟩)
     have HK:=Lib.hid hK;have HC:=Lib.hid hc5;clear hK hc5;refine wpIn_wide.2 ?_;go_wp2;refine⟨by simp,.inl ⟨_,_,rfl,run_takeDeferred HK.out,?_⟩⟩
     refine⟨.bool false,by simp [results,Tryz.f46,go_sem,HC.out],ZB HR.out.symm,?_⟩
     exact (hBa.trans hB1).trans (belowK_b (w:=w) (Nat.le_refl _) _ D _ _ (by omega) HK.out rfl rfl)
theorem Zo (v:Value) (l:List Pt) (w:World) (hp:Z8 w.heap.size w v l) :
  Calls Tryz.prog 46 #[v] w fun e w'=>e=.returned (.bool (Zb l))∧Below w.heap.size w w':=by
 by_cases h:1≤l.length∧l.length≤64
 ·exact Z3J v l w hp h.1 h.2
 ·exact Z2W v l w hp (by omega)
end
section
attribute [local irreducible] wpQuiet
open Go.RowKit
theorem Zi {W:World} {B:Nat} {m:Msn} {vw vh vr:Value} {T:TypeId} (H:Has W B (Zc m vw vh vr) T):W.cell? ⟨B,0,none⟩=some vw∧W.cell? ⟨B,1,none⟩=some vh∧W.cell? ⟨B,2,none⟩=some (.int .i64 m.start)∧W.cell? ⟨B,3,none⟩=some vr∧W.cell? ⟨B,4,none⟩=some (.int .i64 m.speed)∧W.cell? ⟨B,5,none⟩=some (.int .i64 m.part)∧W.cell? ⟨B,6,none⟩=some (.int .i64 m.flow)∧W.cell? ⟨B,7,none⟩=some (.int .i64 m.idle)∧W.cell? ⟨B,8,none⟩=some (.int .i64 m.drive)∧W.cell? ⟨B,9,none⟩=some (.int .i64 m.battery)∧W.cell? ⟨B,10,none⟩=some (.int .i64 m.deadline) :=
 ⟨H.cell (i:=0) rfl,H.cell (i:=1) rfl,H.cell (i:=2) rfl,H.cell (i:=3) rfl,H.cell (i:=4) rfl,H.cell (i:=5) rfl,H.cell (i:=6) rfl,H.cell (i:=7) rfl,H.cell (i:=8) rfl,H.cell (i:=9) rfl,H.cell (i:=10) rfl⟩
theorem Z7u {W:World} {B:Nat} {m:Msn} {vw vh vr:Value} {T:TypeId} (H:Has W B (Zc m vw vh vr) T):(∀ w1,Low W w1→w1.cell? ⟨B,0,none⟩=some vw)∧(∀ w1,Low W w1→w1.cell? ⟨B,1,none⟩=some vh)∧(∀ w1,Low W w1→w1.cell? ⟨B,2,none⟩=some (.int .i64 m.start))∧(∀ w1,Low W w1→w1.cell? ⟨B,3,none⟩=some vr)∧(∀ w1,Low W w1→w1.cell? ⟨B,4,none⟩=some (.int .i64 m.speed))∧(∀ w1,Low W w1→w1.cell? ⟨B,5,none⟩=some (.int .i64 m.part))∧(∀ w1,Low W w1→w1.cell? ⟨B,6,none⟩=some (.int .i64 m.flow))∧(∀ w1,Low W w1→w1.cell? ⟨B,7,none⟩=some (.int .i64 m.idle))∧(∀ w1,Low W w1→w1.cell? ⟨B,8,none⟩=some (.int .i64 m.drive))∧(∀ w1,Low W w1→w1.cell? ⟨B,9,none⟩=some (.int .i64 m.battery))∧(∀ w1,Low W w1→w1.cell? ⟨B,10,none⟩=some (.int .i64 m.deadline)) :=
 ⟨Low.fact (H.cell (i:=0) rfl),Low.fact (H.cell (i:=1) rfl),Low.fact (H.cell (i:=2) rfl),Low.fact (H.cell (i:=3) rfl),Low.fact (H.cell (i:=4) rfl),Low.fact (H.cell (i:=5) rfl),Low.fact (H.cell (i:=6) rfl),Low.fact (H.cell (i:=7) rfl),Low.fact (H.cell (i:=8) rfl),Low.fact (H.cell (i:=9) rfl),Low.fact (H.cell (i:=10) rfl)⟩
theorem ZX (a b:Int) (w:World) (ha:0≤a) (ha':a≤1000000000000) (hb:1≤b) (hb':b≤1000000000000) :
  Calls Tryz.prog 102 #[.int .i64 a,.int .i64 b] w fun e w'=>e=.returned (.int .i64 (cdiv a b))∧Below w.heap.size w w':=by
 have e:ceilV a b=cdiv a b:=by
  have:badQ a b=false:=by simp [badQ,Z5F (n:=a) (by omega) ha',Z5F (n:=b) (by omega) hb'];omega
  simp [ceilV,this]
 rw [← e];clear e;go_enter Tryz.func102,Tryz.ntmps102;go_wp2_with (go_at_call 122;refine (Z9q _ _ _).mono ?_;rintro e w1 ⟨rfl,hb1⟩;have hz1:=hb1.size;try simp at hz1)
 go_ret;exact⟨rfl,zB2⟩
end
section
attribute [local go_sem] Oper.semAt_some
open Go.RowKit Go.Shelf
set_option maxRecDepth 100000 in
theorem Z6J {α : Type} (encA : α → Array Value) (f : Nat → α) (n : Nat) (hn : 1 ≤ n) (p : Nat → Prop) (W : World) (l Bs b o cap : Nat) (ps : List Pt) (hlen : ps.length ≤ 70368744177663) (hb : p b) (hBs : p Bs) (hpp : ∀ b, p b → b < W.heap.size) (hf : ∀ i, i < ps.length → encA (f i) = encS (sideP ps i)) (J Jx : List α → World → Prop)
  (hJ:AbidesFrom W.heap.size J)
  (hY:∀ pre x W1,J pre W1→pre.length<ps.length→YieldAt Fence.wide (n-1) Tryz.prog l (encA x) W1 fun e W' =>
   (e=.returned (.bool true)∧J (pre++[x]) W'∧KeepsP p W1 W')∨(e=.returned (.bool false)∧Jx (pre++[x]) W'))
  (hB:W.cell? ⟨Bs,0,none⟩=some (.slice (some ⟨b,o,none⟩) ps.length cap))
  (hc:∀ j,j<ps.length→W.cell? ⟨b,o+j*2,none⟩=some (.int .i64 (nth ps j).x)∧W.cell? ⟨b,o+j*2+1,none⟩=some (.int .i64 (nth ps j).y)) (h0:J [] W) :
  CallsIn Fence.wide n Tryz.prog 169 #[.func (.yield l) #[] #[],.pointer (some ⟨Bs,0,none⟩)] W fun e W'=>(∃ v,e=.returned v) ∧
   ((∃ ys,ys=upto f ps.length∧J ys W')∨(∃ pre,(∃ k,k≤ps.length∧pre=upto f k)∧Jx pre W')):=by
 refine callsIn_of_wp Tryz.func169 rfl trivial ?_ rfl;simp only [Tryz.ntmps169,List.size_toArray,List.length_cons,List.length_nil,Nat.reduceAdd,Nat.reduceSub,Array.replicate_succ,Array.replicate_zero,List.push_toArray,List.append_toArray,List.nil_append,List.cons_append];gi_wp2
 gi_loopw [7] (fun i wr=>∃ k:Nat,k≤ps.length∧i=.int .i64 k∧J (upto f k) wr∧KeepsP p W wr)
  (fun i _=>ps.length-(intOf i).toNat)
 case atStart=>exact⟨0,Nat.zero_le _,rfl,h0,KeepsP.refl _ _⟩
 case round =>
  obtain⟨k,hk,rfl,hJs,hnx⟩:=hrel;by_cases hlt:k<ps.length
  ·have hn0:0<ps.length:=by omega
   obtain⟨m,hm⟩:∃ m,(k+1) % ps.length=m:=⟨_,rfl⟩;have hmlt:m<ps.length:=by rw [← hm];exact Nat.mod_lt _ hn0
   have hx:sideP ps k=(nth ps k,nth ps m):=by rw [sideP,hm]
   have b1:W.heap.size≤wr.heap.size:=hnx.1;have hBl:=World.block_lt_of_cell? W _ hB;have e0:wr.cell? ⟨Bs,0,none⟩=some (.slice (some ⟨b,o,none⟩) ps.length cap):=(hnx.cell (i:=0) hBs).trans hB;have e1:=(hnx.cell (i:=o+k*2) hb).trans (hc k hlt).1;have e2:=(hnx.cell (i:=o+k*2+1) hb).trans (hc k hlt).2;have e3:=(hnx.cell (i:=o+m*2) hb).trans (hc m hmlt).1;have e4:=(hnx.cell (i:=o+m*2+1) hb).trans (hc m hmlt).2;have hJ1:J (upto f k) (wr.alloc (.cells #[.int .i64 (nth ps k).x,.int .i64 (nth ps k).y] 31)).drew :=
    hJ _ _ _ none (hJ _ _ _ none hJs (World.grownBy_alloc _ _ none) (fun r e=>by cases e)) (Z3h _ none) (fun r e=>by cases e)
   obtain⟨fn,tmps,assign,body,hy,hR⟩:=hY _ (f k) _ hJ1 (by rw [Zx];exact hlt)
   rw [hf k hlt,hx] at hy;dsimp only [encS] at hy;have hw1:IntKind.i64.wrap ((k:Int)+1)=(k:Int)+1:=zW2;have hw2:((k:Int)+1).tmod (ps.length:Int)=(m:Int):=by
    have:((k:Int)+1).tmod (ps.length:Int)=(((k+1) % ps.length:Nat):Int):=by
     rw [Int.tmod_eq_emod_of_nonneg (by omega)];rfl
    rw [this,hm]
   have hbl:=World.block_lt_of_cell? wr _ e1;have hB2:Below wr.heap.size wr (wr.alloc (.cells #[.int .i64 (nth ps k).x,.int .i64 (nth ps k).y] 31)):=(Below.refl _ wr).alloc (Nat.le_refl _) _;have f0:=(hB2.cell (p:=⟨Bs,0,none⟩) (World.block_lt_of_cell? wr _ e0)).trans e0;have f1:=(hB2.cell (p:=⟨b,o+k*2,none⟩) hbl).trans e1;have f2:=(hB2.cell (p:=⟨b,o+k*2+1,none⟩) hbl).trans e2;have f3:=(hB2.cell (p:=⟨b,o+m*2,none⟩) hbl).trans e3;have f4:=(hB2.cell (p:=⟨b,o+m*2+1,none⟩) hbl).trans e4;have hne:¬ ps=[]:=by intro h;rw [h] at hn0;simp at hn0
   have hc':=Lib.hid hc;have hm':=Lib.hid hm;have hx':=Lib.hid hx;have hJ':=Lib.hid hJ1;clear hc hm hx hB hJ1;gi_wp2;refine Z06 (Zj _) 10 (by kernel_rfl) (by kernel_rfl) (by kernel_rfl) ?_
   simp only [List.take_succ_cons,List.take_zero,List.drop_succ_cons,List.drop_zero]
   iterate 10 (refine wpStill_step (fun K hK=>?_);go_simp;refine hK _ ?_;clear hK K)
   refine wpStill_nil ?_;gi_wp2;refine hR.mono ?_;rintro e W3 (⟨rfl,hJ3,hk3⟩ | ⟨rfl,hJx3⟩)
   ·gi_wp2
    go_roundw
    case rel=>exact⟨k+1,by omega,by simp,by rw [Zv];exact hJ3,hnx.trans ((KeepsP.of_below (((Below.refl wr.heap.size wr).alloc (Nat.le_refl _) _).drew) (fun b hb=>Nat.lt_of_lt_of_le (hpp b hb) b1)).trans hk3)⟩
    case measure=>simp [intOf];omega
   ·gi_wp2
    refine bodyPost_ret (results_none rfl _ _ _) rfl ?_;exact⟨⟨_,rfl⟩,.inr ⟨_,⟨k+1,by omega,(Zv _ _).symm⟩,hJx3⟩⟩
  ·obtain rfl:k=ps.length:=by omega
   gi_wp2;go_end0;exact⟨⟨_,rfl⟩,.inl ⟨_,rfl,hJs⟩⟩
set_option maxRecDepth 100000 in
theorem Z0Q {α:Type} (n:Nat) (l Bs cap:Nat) (a:Option Addr) (J:List α→World→Prop) (W:World) (hB:W.cell? ⟨Bs,0,none⟩=some (.slice a 0 cap)) (h0:J [] W) :
  CallsIn Fence.wide n Tryz.prog 169 #[.func (.yield l) #[] #[],.pointer (some ⟨Bs,0,none⟩)] W fun e W'=>(∃ v,e=.returned v)∧J [] W':=by
 refine callsIn_of_wp Tryz.func169 rfl trivial ?_ rfl;simp only [Tryz.ntmps169,List.size_toArray,List.length_cons,List.length_nil,Nat.reduceAdd,Nat.reduceSub,Array.replicate_succ,Array.replicate_zero,List.push_toArray,List.append_toArray,List.nil_append,List.cons_append];gi_wp2
 gi_loopw [7] (fun i wr=>i=.int .i64 0∧J [] wr) (fun _ _=>0)
 case atStart=>exact⟨rfl,h0⟩
 case round =>
  obtain⟨rfl,hJs⟩:=hrel;gi_wp2;go_end0;exact⟨⟨_,rfl⟩,hJs⟩
theorem Z3l (a:Option Addr) (len cap:Nat) (w:World) :
  Calls Tryz.prog 160 #[.slice a len cap] w fun e w'=>e=.returned (.func (.func 169) #[] #[.pointer (some ⟨w.heap.size,0,none⟩)])∧w.alloc (.cells #[.slice a len cap] 23)=w':=by
 go_enter Tryz.func160,Tryz.ntmps160;go_wp2;go_ret;exact⟨rfl,rfl⟩
theorem Z22 {α:Type} (encA:α→Array Value) (f:Nat→α) (n:Nat) (hn:1≤n) (p:Nat→Prop) (Bs n0:Nat) (sv:Value) (ps:List Pt) (w:World) (hBs:p Bs) (hp0:∀ b,b<n0→p b) (hpp:∀ b,p b→b<w.heap.size)
  (hc:w.cell? ⟨Bs,0,none⟩=some sv) (hI:Z8 n0 w sv ps) (hf:∀ i,i<ps.length→encA (f i)=encS (sideP ps i)) :
  SeqStopsK Fence.wide n Tryz.prog 169 #[.pointer (some ⟨Bs,0,none⟩)] encA (KeepsP p) (fun ys=>ys=upto f ps.length)
   (fun pre=>∃ k,k≤ps.length∧pre=upto f k) ps.length w:=fun l J Jx W hW hJ _ hY h0=>by
 have hc':=(hW.cell (p:=⟨Bs,0,none⟩) (hpp Bs hBs)).trans hc;have hsz:=hW.size;have hn0:n0≤w.heap.size∨ps=[]:=by
  rcases hI.2 with⟨a,cap,_,h | ⟨b,o,_,hb,_⟩⟩
  ·exact .inr h
  ·refine .inl ?_
   rcases Nat.lt_or_ge w.heap.size n0 with h | h
   ·exact absurd (hpp _ (hp0 _ h)) (by omega)
   ·exact h
 rcases hn0 with hn0 | rfl
 ·obtain⟨hl,a,cap,rfl,hcs⟩:=hI.below (hW.mono hn0)
  rcases hcs with rfl | ⟨b,o,rfl,hb,hcs⟩
  ·exact (Z0Q n l Bs _ a J W hc' h0).mono fun e W' ⟨he,hj⟩=>⟨he,.inl ⟨_,rfl,hj⟩⟩
  ·exact Z6J encA f n hn p W l Bs b o (ps.length+cap) ps hl (hp0 b hb) hBs (fun b hb=>Nat.lt_of_lt_of_le (hpp b hb) hsz) hf J Jx hJ hY hc' hcs h0
 ·obtain⟨hl,a,cap,rfl,hcs⟩:=hI
  exact (Z0Q n l Bs _ a J W hc' h0).mono fun e W' ⟨he,hj⟩=>⟨he,.inl ⟨_,rfl,hj⟩⟩
end
section
attribute [local irreducible] wpQuiet
open Go.RowKit
theorem Z4R (a b:Int) (h1:-4000000000000000000≤a) (h2:a≤4000000000000000000):-4000000000000000000≤a.tdiv b∧a.tdiv b≤4000000000000000000:=by
 have h:=Int.natAbs_tdiv a b;have h':a.natAbs.div b.natAbs≤a.natAbs:=Nat.div_le_self a.natAbs b.natAbs;rw [← h] at h';omega
theorem Z83 (a b:Int) (h1:-4000000000000000000≤a) (h2:a≤4000000000000000000) (hb:b≠0):-4000000000000000001≤a.fdiv b∧a.fdiv b≤4000000000000000000:=by
 rcases Z16 a b hb with h | h
 ·have:=Z4R a b h1 h2;omega
 ·have:=Z4R a b h1 h2;omega
theorem Z1C (ax ay bx by' cx cy:Int) (w:World) (a1:-1000000≤ax) (a2:ax≤1000000) (a3:-1000000≤ay) (a4:ay≤1000000)
  (b1:-1000000≤bx) (b2:bx≤1000000) (b3:-1000000≤by') (b4:by'≤1000000) (c1:-1000000≤cx) (c2:cx≤1000000) (c3:-1000000≤cy) (c4:cy≤1000000) :
  Calls Tryz.prog 161 #[.agg #[.int .i64 ax,.int .i64 ay],.agg #[.int .i64 bx,.int .i64 by'],.agg #[.int .i64 cx,.int .i64 cy]] w fun e w'=>e=.returned (.int .i64 (turnV ax ay bx by' cx cy))∧Below w.heap.size w w':=by
 have p:=Z00 (a:=bx-ax) (b:=cy-ay) (m:=2000000) (n:=2000000) (by omega) (by omega) (by omega) (by omega)
 have q:=Z00 (a:=by'-ay) (b:=cx-ax) (m:=2000000) (n:=2000000) (by omega) (by omega) (by omega) (by omega)
 have p':IntKind.i64.wrap ((bx-ax)*(cy-ay))=(bx-ax)*(cy-ay):=zW2;have q':IntKind.i64.wrap ((by'-ay)*(cx-ax))=(by'-ay)*(cx-ax):=zW2
 have r':IntKind.i64.wrap ((bx-ax)*(cy-ay)-(by'-ay)*(cx-ax))=(bx-ax)*(cy-ay)-(by'-ay)*(cx-ax):=zW2
 clear p q;unfold turnV;go_enter Tryz.func161,Tryz.ntmps161;go_wp2;go_ret;exact⟨rfl,zB2⟩
def crossB (s t:Int):Bool:=decide (s<0∧0<t∨0<s∧t<0)
theorem Z0B (s t : Int) (w : World) :
  Calls Tryz.prog 162 #[.int .i64 s,.int .i64 t] w fun e w'=>e=.returned (.bool (crossB s t))∧w=w':=by
 by_cases h1:s<0
 ·have d1:decide (s<0)=true:=decide_eq_true h1
  have d3:decide (s>0)=false:=by rw [decide_eq_false_iff_not];omega
  by_cases h2:0<t
  ·have d2:decide (t>0)=true:=decide_eq_true h2
   have e:crossB s t=true:=decide_eq_true (.inl ⟨h1,h2⟩);rw [e];clear e;go_enter Tryz.func162,Tryz.ntmps162;go_wp2;go_ret;exact⟨rfl,rfl⟩
  ·have d2:decide (t>0)=false:=by rw [decide_eq_false_iff_not];omega
   have e:crossB s t=false:=decide_eq_false (by omega)
   rw [e];clear e;go_enter Tryz.func162,Tryz.ntmps162;go_wp2;go_ret;exact⟨rfl,rfl⟩
 ·have d1:decide (s<0)=false:=decide_eq_false h1
  by_cases h3:0<s
  ·have d3:decide (s>0)=true:=decide_eq_true h3
   by_cases h4:t<0
   ·have d4:decide (t<0)=true:=decide_eq_true h4
    have e:crossB s t=true:=decide_eq_true (.inr ⟨h3,h4⟩);rw [e];clear e;go_enter Tryz.func162,Tryz.ntmps162;go_wp2;go_ret;exact⟨rfl,rfl⟩
   ·have d4:decide (t<0)=false:=decide_eq_false h4
    have e:crossB s t=false:=decide_eq_false (by omega)
    rw [e];clear e;go_enter Tryz.func162,Tryz.ntmps162;go_wp2;go_ret;exact⟨rfl,rfl⟩
  ·have d3:decide (s>0)=false:=decide_eq_false h3
   have e:crossB s t=false:=decide_eq_false (by omega)
   rw [e];clear e;go_enter Tryz.func162,Tryz.ntmps162;go_wp2;go_ret;exact⟨rfl,rfl⟩
theorem Z6H (a b q r q' : Int) (w : World) (hq : IntKind.i64.wrap (a.tdiv b) = q) (hr : a.tmod b = r) (h5 : ¬ b = 0) (q1 : -5000000000000000000 ≤ q) (q2 : q ≤ 5000000000000000000)
  (hc:r=0∧q=q'∨¬ r=0∧((a<0↔b<0)∧q=q'∨¬ (a<0↔b<0)∧q-1=q')) :
  Calls Tryz.prog 171 #[.int .i64 a,.int .i64 b] w fun e w'=>e=.returned (.int .i64 q')∧w=w':=by
 have hw:IntKind.i64.wrap (q-1)=q-1:=zW2;have hb0:(b == 0)=false:=by simpa using h5
 rcases hc with⟨h,e1⟩ | ⟨h,hc⟩
 ·subst e1
  have d1:(r != 0)=false:=by simp [h]
  clear h;go_enter Tryz.func171,Tryz.ntmps171;go_wp2;go_ret;exact⟨rfl,rfl⟩
 ·have d1:(r != 0)=true:=by simpa [bne_iff_ne] using h
  by_cases ha:a<0
  ·have d2:decide (a<0)=true:=decide_eq_true ha
   by_cases hb:b<0
   ·have d3:decide (b<0)=true:=decide_eq_true hb
    rcases hc with⟨_,e1⟩ | ⟨h1,_⟩
    ·subst e1
     go_enter Tryz.func171,Tryz.ntmps171;go_wp2;go_ret;exact⟨rfl,rfl⟩
    ·exact absurd (by simp [ha,hb]) h1
   ·have d3:decide (b<0)=false:=decide_eq_false hb
    rcases hc with⟨h1,_⟩ | ⟨_,e1⟩
    ·exact absurd (h1.1 ha) hb
    ·subst e1
     go_enter Tryz.func171,Tryz.ntmps171;go_wp2;go_ret;exact⟨rfl,rfl⟩
  ·have d2:decide (a<0)=false:=decide_eq_false ha
   by_cases hb:b<0
   ·have d3:decide (b<0)=true:=decide_eq_true hb
    rcases hc with⟨h1,_⟩ | ⟨_,e1⟩
    ·exact absurd (h1.2 hb) ha
    ·subst e1
     go_enter Tryz.func171,Tryz.ntmps171;go_wp2;go_ret;exact⟨rfl,rfl⟩
   ·have d3:decide (b<0)=false:=decide_eq_false hb
    rcases hc with⟨_,e1⟩ | ⟨h1,_⟩
    ·subst e1
     go_enter Tryz.func171,Tryz.ntmps171;go_wp2;go_ret;exact⟨rfl,rfl⟩
    ·exact absurd (by simp [ha,hb]) h1
theorem Z3p (a b:Int) (w:World) (h1:-4000000000000000000≤a) (h2:a≤4000000000000000000) (h3:-8000000000000≤b) (h4:b≤8000000000000) (h5:¬ b=0) :
  Calls Tryz.prog 171 #[.int .i64 a,.int .i64 b] w fun e w'=>e=.returned (.int .i64 (a.fdiv b))∧w=w':=by
 have d:=Z4R a b h1 h2;have sg:¬ a.tmod b=0→((a.tmod b<0∧a<0)∨(0<a.tmod b∧0<a)):=by
  intro h;rcases Int.lt_trichotomy a 0 with ha | ha | ha
  ·have:=Int.tmod_nonneg (a:=-a) b (by omega)
   rw [Int.neg_tmod] at this;omega
  ·subst ha;simp at h
  ·have:=Int.tmod_nonneg (a:=a) b (by omega)
   omega
 refine Z6H a b _ _ _ w (zW2) rfl h5 (by omega) (by omega) ?_
 rcases Z16 a b h5 with h | h
 ·by_cases hz:a.tmod b=0
  ·exact Or.inl ⟨hz,h.2.1⟩
  ·refine Or.inr ⟨hz,Or.inl ⟨?_,h.2.1⟩⟩
   have:=sg hz;omega
 ·have hz:¬ a.tmod b=0:=by omega
  refine Or.inr ⟨hz,Or.inr ⟨?_,h.2.1⟩⟩;have:=sg hz;omega
end
end Go.Proofs.YtdolkgihppgpcaaGreat
