/- The iterator over the sides of a polygon (package hull): its contract. | Choices of a list's elements, the best ones of them. No program here. | hu .. -/
import Derived.RangeFuncNested
import Derived.RangeFuncBound
import Derived.RangeFuncCalls
import Derived.RangeFuncLeaves
import Derived.Shelf.Abstract
import Derived.Shelf.RegionOpen
import Derived.OwnWalkIn
import Derived.TacticsInMore
import Derived.LoopNIn
import Derived.LoopIn
import Derived.Test.YtpimbaaahcemhaaGreatBin01
import Derived.Test.YtpimbaaahcemhaaGreatBin02
import Derived.Test.YtpimbaaahcemhaaGreatBin03
namespace Go.Proofs.YtpimbaaahcemhaaGreat
open Go.RowKit Go.Shelf
attribute [local go_sem] Oper.semAt_some
def upto {α:Type} (f:Nat→α) (k:Nat):List α:=(List.range k).map f
theorem upto_succ {α:Type} (f:Nat→α) (k:Nat):upto f (k+1)=upto f k++[f k]:=by simp [upto,List.range_succ]
theorem upto_length {α:Type} (f:Nat→α) (k:Nat):(upto f k).length=k:=by simp [upto]
def sideP (l:List Pt) (i:Nat):Pt × Pt:=(nth l i,nth l ((i+1) % l.length))
def encS (x:Pt × Pt):Array Value:=#[.agg #[.int .i64 x.1.x,.int .i64 x.1.y],.agg #[.int .i64 x.2.x,.int .i64 x.2.y]]
set_option maxRecDepth 100000 in
set_option maxHeartbeats 2000000 in
theorem sides1_in {α : Type} (encA : α → Array Value) (f : Nat → α) (n : Nat) (hn : 1 ≤ n) (W : World) (l Bs n0 n0' b o cap : Nat) (ps : List Pt) (hlen : ps.length ≤ 70368744177663) (hb : b < n0) (hBs : Bs < n0') (hn0' : n0' ≤ W.heap.size) (hf : ∀ i, i < ps.length → encA (f i) = encS (sideP ps i)) (J Jx : List α → World → Prop)
  (hJ:AbidesFrom W.heap.size J)
  (hY:∀ pre x W1,J pre W1→pre.length<ps.length→YieldAt Fence.wide (n - 1) Tryz.prog l (encA x) W1 fun e W' =>
   (e=.returned (.bool true)∧J (pre++[x]) W'∧Below n0' W1 W')∨(e=.returned (.bool false)∧Jx (pre++[x]) W')) (h00:n0≤n0')
  (hB:W.cell? ⟨Bs,0,none⟩=some (.slice (some ⟨b,o,none⟩) ps.length cap))
  (hc:∀ j,j<ps.length→W.cell? ⟨b,o+j*2,none⟩=some (.int .i64 (nth ps j).x)∧W.cell? ⟨b,o+j*2+1,none⟩=some (.int .i64 (nth ps j).y)) (h0:J [] W) :
  CallsIn Fence.wide n Tryz.prog 187 #[.func (.yield l) #[] #[],.pointer (some ⟨Bs,0,none⟩)] W fun e W'=>(∃ v,e=.returned v) ∧
   ((∃ ys,ys=upto f ps.length∧J ys W')∨(∃ pre,(∃ k,k≤ps.length∧pre=upto f k)∧Jx pre W')):=by
 refine callsIn_of_wp Tryz.func187 rfl trivial ?_ rfl
 simp only [Tryz.ntmps187,List.size_toArray,List.length_cons,List.length_nil,Nat.reduceAdd,Nat.reduceSub,Array.replicate_succ,Array.replicate_zero,List.push_toArray,List.append_toArray,List.nil_append,List.cons_append]
 gi_wp2
 gi_loopw [7] (fun i wr=>∃ k:Nat,k≤ps.length∧i=.int .i64 k∧J (upto f k) wr∧Below n0' W wr)
  (fun i _=>ps.length - (intOf i).toNat)
 case atStart=>exact⟨0,Nat.zero_le _,rfl,h0,Below.refl _ _⟩
 case round =>
  obtain⟨k,hk,rfl,hJs,hnx⟩:=hrel
  by_cases hlt:k<ps.length
  ·have hn0:0<ps.length:=by omega
   obtain⟨m,hm⟩:∃ m,(k+1) % ps.length=m:=⟨_,rfl⟩
   have hmlt:m<ps.length:=by rw [← hm];exact Nat.mod_lt _ hn0
   have hx:sideP ps k=(nth ps k,nth ps m):=by rw [sideP,hm]
   have b1:W.heap.size≤wr.heap.size:=hnx.size
   have hBl:=World.block_lt_of_cell? W _ hB
   have e0:wr.cell? ⟨Bs,0,none⟩=some (.slice (some ⟨b,o,none⟩) ps.length cap):=(hnx.cell (p:=⟨Bs,0,none⟩) hBs).trans hB
   have e1:=(hnx.cell (p:=⟨b,o+k*2,none⟩) (by show b<n0';omega)).trans (hc k hlt).1
   have e2:=(hnx.cell (p:=⟨b,o+k*2+1,none⟩) (by show b<n0';omega)).trans (hc k hlt).2
   have e3:=(hnx.cell (p:=⟨b,o+m*2,none⟩) (by show b<n0';omega)).trans (hc m hmlt).1
   have e4:=(hnx.cell (p:=⟨b,o+m*2+1,none⟩) (by show b<n0';omega)).trans (hc m hmlt).2
   have hJ1:J (upto f k) (wr.alloc (.cells #[.int .i64 (nth ps k).x,.int .i64 (nth ps k).y] 58)).drew :=
    hJ _ _ _ none (hJ _ _ _ none hJs (World.grownBy_alloc _ _ none) (fun r e=>by cases e)) (grown_drew _ none) (fun r e=>by cases e)
   obtain⟨fn,tmps,assign,body,hy,hR⟩:=hY _ (f k) _ hJ1 (by rw [upto_length];exact hlt)
   rw [hf k hlt,hx] at hy
   dsimp only [encS] at hy
   have hw1:IntKind.i64.wrap ((k:Int)+1)=(k:Int)+1:=IntWalk.i64_in _ (by omega)
   have hw2:((k:Int)+1).tmod (ps.length:Int)=(m:Int):=by
    have:((k:Int)+1).tmod (ps.length:Int)=(((k+1) % ps.length:Nat):Int):=by
     rw [Int.tmod_eq_emod_of_nonneg (by omega)];rfl
    rw [this,hm]
   have hbl:=World.block_lt_of_cell? wr _ e1
   have hB2:Below wr.heap.size wr (wr.alloc (.cells #[.int .i64 (nth ps k).x,.int .i64 (nth ps k).y] 58)):=(Below.refl _ wr).alloc (Nat.le_refl _) _
   have f0:=(hB2.cell (p:=⟨Bs,0,none⟩) (World.block_lt_of_cell? wr _ e0)).trans e0
   have f1:=(hB2.cell (p:=⟨b,o+k*2,none⟩) hbl).trans e1
   have f2:=(hB2.cell (p:=⟨b,o+k*2+1,none⟩) hbl).trans e2
   have f3:=(hB2.cell (p:=⟨b,o+m*2,none⟩) hbl).trans e3
   have f4:=(hB2.cell (p:=⟨b,o+m*2+1,none⟩) hbl).trans e4
   have hne:¬ ps=[]:=by intro h;rw [h] at hn0;simp at hn0
   have hc':=Lib.hid hc
   have hm':=Lib.hid hm
   have hx':=Lib.hid hx
   have hJ':=Lib.hid hJ1
   clear hc hm hx hB hJ1
   gi_wp2
   refine wpIn_region_still_tail (lets_wide _) 10 (by kernel_rfl) (by kernel_rfl) (by kernel_rfl) ?_
   simp only [List.take_succ_cons,List.take_zero,List.drop_succ_cons,List.drop_zero]
   iterate 10 (refine wpStill_step (fun K hK=>?_);go_simp;refine hK _ ?_;clear hK K)
   refine wpStill_nil ?_
   gi_wp2
   refine hR.mono ?_
   rintro e W3 (⟨rfl,hJ3,hk3⟩ | ⟨rfl,hJx3⟩)
   ·gi_wp2
    go_roundw
    case rel=>exact⟨k+1,by omega,by simp,by rw [upto_succ];exact hJ3,hnx.trans ((((Below.refl n0' wr).alloc (by omega) _).drew).trans hk3)⟩
    case measure=>simp [intOf];omega
   ·gi_wp2
    refine bodyPost_ret (results_none rfl _ _ _) rfl ?_
    exact⟨⟨_,rfl⟩,.inr ⟨_,⟨k+1,by omega,(upto_succ _ _).symm⟩,hJx3⟩⟩
  ·obtain rfl:k=ps.length:=by omega
   gi_wp2
   go_end0
   exact⟨⟨_,rfl⟩,.inl ⟨_,rfl,hJs⟩⟩
set_option maxRecDepth 100000 in
set_option maxHeartbeats 1000000 in
theorem sides1_none_in {α:Type} (n:Nat) (l Bs cap:Nat) (a:Option Addr) (J:List α→World→Prop) (W:World) (hB:W.cell? ⟨Bs,0,none⟩=some (.slice a 0 cap)) (h0:J [] W) :
  CallsIn Fence.wide n Tryz.prog 187 #[.func (.yield l) #[] #[],.pointer (some ⟨Bs,0,none⟩)] W fun e W'=>(∃ v,e=.returned v)∧J [] W':=by
 refine callsIn_of_wp Tryz.func187 rfl trivial ?_ rfl
 simp only [Tryz.ntmps187,List.size_toArray,List.length_cons,List.length_nil,Nat.reduceAdd,Nat.reduceSub,Array.replicate_succ,Array.replicate_zero,List.push_toArray,List.append_toArray,List.nil_append,List.cons_append]
 gi_wp2
 gi_loopw [7] (fun i wr=>i=.int .i64 0∧J [] wr) (fun _ _=>0)
 case atStart=>exact⟨rfl,h0⟩
 case round =>
  obtain⟨rfl,hJs⟩:=hrel
  gi_wp2
  go_end0
  exact⟨⟨_,rfl⟩,hJs⟩
theorem sides_any (a:Option Addr) (len cap:Nat) (w:World) :
  Calls Tryz.prog 158 #[.slice a len cap] w fun e w'=>e=.returned (.func (.func 187) #[] #[.pointer (some ⟨w.heap.size,0,none⟩)])∧w.alloc (.cells #[.slice a len cap] 23)=w':=by
 go_enter Tryz.func158,Tryz.ntmps158
 go_wp2
 go_ret
 exact⟨rfl,rfl⟩
theorem sides_stops {α:Type} (encA:α→Array Value) (f:Nat→α) (n:Nat) (hn:1≤n) (Bs n0:Nat) (sv:Value) (ps:List Pt) (w:World) (hBs:Bs<n0) (hn0:n0≤w.heap.size)
  (hc:w.cell? ⟨Bs,0,none⟩=some sv) (hI:PtsAt n0 w sv ps) (hf:∀ i,i<ps.length→encA (f i)=encS (sideP ps i)) :
  SeqStopsK Fence.wide n Tryz.prog 187 #[.pointer (some ⟨Bs,0,none⟩)] encA (Below n0) (fun ys=>ys=upto f ps.length)
   (fun pre=>∃ k,k≤ps.length∧pre=upto f k) ps.length w:=fun l J Jx W hW hJ _ hY h0=>by
 have hc':=(hW.cell (p:=⟨Bs,0,none⟩) (by show Bs<_;omega)).trans hc
 have hsz:=hW.size
 obtain⟨hl,a,cap,rfl,hcs⟩:=hI.below (hW.mono hn0)
 rcases hcs with rfl | ⟨b,o,rfl,hb,hcs⟩
 ·exact (sides1_none_in n l Bs _ a J W hc' h0).mono fun e W' ⟨he,hj⟩=>⟨he,.inl ⟨_,rfl,hj⟩⟩
 ·exact sides1_in encA f n hn W l Bs n0 n0 b o (ps.length+cap) ps hl hb hBs (by omega) hf J Jx hJ hY (Nat.le_refl _) hc' hcs h0
end Go.Proofs.YtpimbaaahcemhaaGreat
namespace Go.Proofs.YtpimbaaahcemhaaGreat
def lexB:List Int→List Int→Bool
 | [],_=>false
 | _::_,[]=>false
 | x::xs,y::ys=>if x=y then lexB xs ys else decide (x<y)
def betterB (a b:List Int):Bool:=if a.length=b.length then lexB a b else decide (a.length<b.length)
theorem lexB_irr:∀ a,lexB a a=false
 | []=>rfl
 | x::xs=>by simp [lexB,lexB_irr xs]
theorem lexB_trans : ∀ {a b c}, lexB a b = true → lexB b c = true → lexB a c = true
 | [],_,_,h,_=>by simp [lexB] at h
 | _::_,[],_,h,_=>by simp [lexB] at h
 | _::_,_::_,[],_,k=>by simp [lexB] at k
 | x :: xs, y :: ys, z :: zs, h, k => by
  simp only [lexB] at h k ⊢
  by_cases h1:x=y
  ·subst h1
   rw [if_pos rfl] at h
   by_cases h2:x=z
   ·rw [if_pos h2] at k ⊢;exact lexB_trans h k
   ·rw [if_neg h2] at k ⊢;exact k
  ·rw [if_neg h1,decide_eq_true_eq] at h
   by_cases h2:y=z
   ·subst h2
    rw [if_neg h1,decide_eq_true_eq];exact h
   ·rw [if_neg h2,decide_eq_true_eq] at k
    rw [if_neg (by omega),decide_eq_true_eq];omega
theorem better_irr (a:List Int):betterB a a=false:=by simp [betterB,lexB_irr]
theorem better_trans {a b c:List Int} (h:betterB a b=true) (k:betterB b c=true):betterB a c=true:=by
 unfold betterB at *
 by_cases h1:a.length=b.length
 ·rw [if_pos h1] at h
  by_cases h2:b.length=c.length
  ·rw [if_pos h2] at k
   rw [if_pos (by omega)];exact lexB_trans h k
  ·rw [if_neg h2,decide_eq_true_eq] at k
   rw [if_neg (by omega),decide_eq_true_eq];omega
 ·rw [if_neg h1,decide_eq_true_eq] at h
  by_cases h2:b.length=c.length
  ·rw [if_neg (by omega),decide_eq_true_eq];omega
  ·rw [if_neg h2,decide_eq_true_eq] at k
   rw [if_neg (by omega),decide_eq_true_eq];omega
theorem better_asymm {a b:List Int} (h:betterB a b=true) (k:betterB b a=true):False:=by
 have:=better_trans h k
 rw [better_irr] at this;cases this
section
variable (lead:List Int→Int)
def IsBest (L:List (List Int)) (r:Int × List Int):Prop:=r.2 ∈ L∧r.1=lead r.2∧∀ x ∈ L,lead x<r.1∨(lead x=r.1∧(x=r.2∨betterB r.2 x=true))
theorem IsBest.one {lead:List Int→Int} {L L':List (List Int)} {r r':Int × List Int} (h:IsBest lead L r) (h':IsBest lead L' r') (hm:∀ x,x ∈ L↔x ∈ L'):r=r':=by
 obtain⟨a,b,c⟩:=h
 obtain⟨a',b',c'⟩:=h'
 have d:=c _ ((hm _).2 a')
 have d':=c' _ ((hm _).1 a)
 rw [← b] at d'
 rw [← b'] at d
 have e:r.1=r'.1:=by omega
 have f:r.2=r'.2:=by
  rcases d with d | ⟨_,d | d⟩
  ·omega
  ·exact d.symm
  ·rcases d' with d' | ⟨_,d' | d'⟩
   ·omega
   ·exact d'
   ·exact (better_asymm d d').elim
 exact Prod.ext e f
end
end Go.Proofs.YtpimbaaahcemhaaGreat
namespace Go.Proofs.YtpimbaaahcemhaaGreat
open Go.RowKit Go.Shelf
attribute [local go_sem] Oper.semAt_some
attribute [local irreducible] wpQuiet
def headOk (l:List Pt) (k:Nat):Prop:=placeP (nth l k)=true∧(0<k→cmpP (nth l 0) (nth l k)<0)
def GoValid (l:List Pt):Prop:=1≤l.length∧l.length≤64∧(∀ k,k<l.length→headOk l k) ∧
 (3≤l.length→∀ i,i<l.length→∀ k,k<l.length→nth l k≠(sideP l i).1→nth l k≠(sideP l i).2→0<turnP (sideP l i).1 (sideP l i).2 (nth l k))
open Classical in
noncomputable def goValid (l:List Pt):Bool:=decide (GoValid l)
set_option maxRecDepth 100000 in
set_option maxHeartbeats 2000000 in
theorem hullValid_size (v:Value) (l:List Pt) (w:World) (hp:PtsAt w.heap.size w v l) (hs:l.length<1∨64<l.length) :
  Calls Tryz.prog 93 #[v] w fun e w'=>e=.returned (.bool (goValid l))∧Below w.heap.size w w':=by
 have hr:goValid l=false:=by simp only [goValid,decide_eq_false_iff_not];rintro ⟨h1,h2,_⟩;omega
 rw [hr];clear hr
 obtain⟨hl,a,cap,rfl,hc⟩:=hp
 clear hc
 refine (callsIn_wide (n:=9)).1 ?_
 refine callsIn_of_wp_marks Tryz.func93 rfl trivial ?_ rfl
 simp only [Tryz.ntmps93,List.size_toArray,List.length_cons,List.length_nil,Nat.reduceAdd,Nat.reduceSub,Array.replicate_succ,Array.replicate_zero,List.push_toArray,List.append_toArray,List.nil_append,List.cons_append]
 refine wpIn_wide.2 ?_
 rcases hs with hs | hs
 ·have d:decide ((l.length:Int)<1)=true:=by simp;omega
  have hs':=Lib.hid hs
  clear hs
  go_wp2
  exact⟨.bool false,by simp [results,Tryz.f93,go_sem],rfl,by repeat (first | exact Below.refl _ _ | assumption | apply Below.drew | refine Below.setCell ?_ (by first | omega | (simp;done) | (simp;omega)) _ | refine Below.alloc ?_ (by first | omega | (simp;done) | (simp;omega)) _ | refine Below.call (by assumption) ?_ (by first | omega | (simp;done) | (simp;omega)))⟩
 ·have d:decide ((l.length:Int)<1)=false:=by simp;omega
  have d:decide (64<(l.length:Int))=true:=by simp;omega
  have hs':=Lib.hid hs
  clear hs
  go_wp2
  exact⟨.bool false,by simp [results,Tryz.f93,go_sem],rfl,by repeat (first | exact Below.refl _ _ | assumption | apply Below.drew | refine Below.setCell ?_ (by first | omega | (simp;done) | (simp;omega)) _ | refine Below.alloc ?_ (by first | omega | (simp;done) | (simp;omega)) _ | refine Below.call (by assumption) ?_ (by first | omega | (simp;done) | (simp;omega)))⟩
theorem Boxed.below {W W':World} {B n:Nat} {t:TypeId} {v:Value} (h:Boxed W B t v) (hb:Below n W W') (hlt:B<n):Boxed W' B t v:=(hb.block B hlt).trans h
def Has (W:World) (B:Nat) (cs:Array Value) (t:TypeId):Prop:=W.heap[B]?=some (.cells cs t (0,0))
theorem Has.lt {W:World} {B:Nat} {cs:Array Value} {t:TypeId} (h:Has W B cs t):B<W.heap.size:=(Array.getElem?_eq_some_iff.1 h).1
theorem has_kept {W W':World} {row:Option Nat} {B:Nat} {cs:Array Value} {t:TypeId} (h:Has W B cs t) (hg:W.grownBy W' row) (hrow:∀ r,row=some r→∃ o:Obj,W.heap[r]?=some o∧o.isCells=false):Has W' B cs t :=
 (hg.block B h.lt (fun e=>by obtain⟨o,ho,hc⟩:=hrow B e.symm;rw [show W.heap[B]?=_ from h] at ho;cases ho;cases hc)).trans h
theorem Has.below {W W':World} {B n:Nat} {cs:Array Value} {t:TypeId} (h:Has W B cs t) (hb:Below n W W') (hlt:B<n):Has W' B cs t:=(hb.block B hlt).trans h
theorem Has.new (W:World) (cs:Array Value) (t:TypeId):Has (W.alloc (.cells cs t)) W.heap.size cs t:=World.alloc_heap_new W _
theorem Has.cell {W:World} {B:Nat} {cs:Array Value} {t:TypeId} (h:Has W B cs t) {i:Nat} {v:Value} (hi:cs[i]?=some v):W.cell? ⟨B,i,none⟩=some v:=by
 simp [World.cell?,show W.heap[B]?=_ from h,hi]
def sideOk (l:List Pt) (s:Pt × Pt):Prop:=∀ k,k<l.length→nth l k≠s.1→nth l k≠s.2→0<turnP s.1 s.2 (nth l k)
def okTo (l:List Pt) (a b:Pt) (k:Nat):Prop:=∀ j,j<k→nth l j≠a→nth l j≠b→0<turnP a b (nth l j)
theorem okTo_skip {l:List Pt} {a b:Pt} {k:Nat} (h:okTo l a b k) (hk:nth l k=a∨nth l k=b):okTo l a b (k+1):=fun j hj h1 h2=>by
 by_cases e:j=k
 ·subst e;rcases hk with hk | hk
  ·exact absurd hk h1
  ·exact absurd hk h2
 ·exact h j (by omega) h1 h2
theorem okTo_more {l:List Pt} {a b:Pt} {k:Nat} (h:okTo l a b k) (hk:0<turnP a b (nth l k)):okTo l a b (k+1):=fun j hj h1 h2=>by
 by_cases e:j=k
 ·subst e;exact hk
 ·exact h j (by omega) h1 h2
theorem pt_cases (px py ax ay bx by':Int):((px=ax∧py=ay)∨(px=ax∧¬ py=ay∧ax=bx∧py=by')∨(¬ px=ax∧px=bx∧py=by')) ∨
  ((px=ax∧¬ py=ay∧ax=bx∧¬ py=by')∨(px=ax∧¬ py=ay∧¬ ax=bx)∨(¬ px=ax∧px=bx∧¬ py=by')∨(¬ px=ax∧¬ px=bx)):=by omega
theorem Pt.ne_of {a b:Pt} (h:¬ (a.x=b.x∧a.y=b.y)):a≠b:=fun e=>h (by rw [e];exact⟨rfl,rfl⟩)
theorem keeps_of_below {B:Nat} {W W':World} (h:Below W.heap.size W W'):KeepsFrom B W W' :=
 ⟨h.size,fun k _ _ hk _=>(h.block k (Array.getElem?_eq_some_iff.1 hk).1).trans hk⟩
theorem mem_upto {α:Type} {f:Nat→α} {n:Nat} {x:α}:x ∈ upto f n↔∃ i,i<n∧f i=x:=by simp [upto]
abbrev PlS:={ s:Pt × Pt // placeP s.1=true∧placeP s.2=true }
theorem nth_place {l:List Pt} (h:∀ k,k<l.length→placeP (nth l k)=true) (k:Nat):placeP (nth l k)=true:=by
 by_cases hk:k<l.length
 ·exact h k hk
 ·have:nth l k=⟨0,0⟩:=by unfold nth;simp [List.getD_eq_getElem?_getD,List.getElem?_eq_none (by omega:l.length≤k)]
  rw [this];rfl
set_option maxRecDepth 100000 in
set_option maxHeartbeats 4000000 in
theorem hullValid_two (v : Value) (l : List Pt) (w : World) (hp : PtsAt w.heap.size w v l) (h1 : 1 ≤ l.length) (h2 : l.length ≤ 64) :
  Calls Tryz.prog 93 #[v] w fun e w'=>e=.returned (.bool (goValid l))∧Below w.heap.size w w':=by
 obtain⟨hl,a,cap,rfl,hc⟩:=hp
 obtain⟨b,o,rfl,hb,hc⟩:∃ b o,a=some ⟨b,o,none⟩∧b<w.heap.size∧∀ j,j<l.length→w.cell? ⟨b,o+j*2,none⟩=some (.int .i64 (nth l j).x)∧w.cell? ⟨b,o+j*2+1,none⟩=some (.int .i64 (nth l j).y):=by
  rcases hc with rfl | h
  ·simp at h1
  ·exact h
 refine (callsIn_wide (n:=9)).1 ?_
 refine callsIn_of_wp_marks Tryz.func93 rfl trivial ?_ rfl
 simp only [Tryz.ntmps93,List.size_toArray,List.length_cons,List.length_nil,Nat.reduceAdd,Nat.reduceSub,Array.replicate_succ,Array.replicate_zero,List.push_toArray,List.append_toArray,List.nil_append,List.cons_append]
 refine wpIn_wide.2 ?_
 have d1:decide ((l.length:Int)<1)=false:=by simp;omega
 have d2:decide (64<(l.length:Int))=false:=by simp;omega
 have hc':=Lib.hid hc
 clear hc
 go_wp2
 go_loopw [19] (fun i wr=>∃ k:Nat,k≤l.length∧i=.int .i64 k∧(∀ j,j<k→headOk l j) ∧
  Boxed wr w.heap.size 23 (.slice (some ⟨b,o,none⟩) l.length (l.length+cap))∧Boxed wr (w.heap.size+1) 4 (.bool false)∧Below w.heap.size w wr) (fun i _=>l.length - (intOf i).toNat)
 case atStart =>
  have bS:=Boxed.new w 23 (.slice (some ⟨b,o,none⟩) l.length (l.length+cap))
  have bR:=Boxed.new (w.alloc (.cells #[.slice (some ⟨b,o,none⟩) l.length (l.length+cap)] 23)) 4 (.bool false)
  rw [World.size_alloc] at bR
  exact⟨0,Nat.zero_le _,rfl,fun j h=>by omega,bS.alloc _,bR,by repeat (first | exact Below.refl _ _ | assumption | apply Below.drew | refine Below.setCell ?_ (by first | omega | (simp;done) | (simp;omega)) _ | refine Below.alloc ?_ (by first | omega | (simp;done) | (simp;omega)) _ | refine Below.call (by assumption) ?_ (by first | omega | (simp;done) | (simp;omega)))⟩
 case round =>
  obtain⟨k,hk,rfl,hall,bS,bR,hB⟩:=hrel
  by_cases hlt:k<l.length
  ·have hz := hB.size
   have hsr:=bR.lt
   have c0:=bS.cell
   have c1:=(hB.cell (p:=⟨b,o+k*2,none⟩) hb).trans (hc'.out k hlt).1
   have c2:=(hB.cell (p:=⟨b,o+k*2+1,none⟩) hb).trans (hc'.out k hlt).2
   have c3:=(hB.cell (p:=⟨b,o+0*2,none⟩) hb).trans (hc'.out 0 (by omega)).1
   have c4:=(hB.cell (p:=⟨b,o+0*2+1,none⟩) hb).trans (hc'.out 0 (by omega)).2
   simp only [Nat.zero_mul,Nat.add_zero] at c3 c4
   have hB2:Below wr.heap.size wr (wr.alloc (.cells #[.int .i64 (nth l k).x,.int .i64 (nth l k).y] 58)):=(Below.refl _ wr).alloc (Nat.le_refl _) _
   have hall':=Lib.hid hall
   have bS':=Lib.hid bS
   have bR':=Lib.hid bR
   clear hall bS bR
   have r0:=bR'.out.cell
   have r1:=bR'.out.frozen
   cases hpl:placeB (nth l k).x (nth l k).y
   ·have hr:goValid l=false:=by
     simp only [goValid,decide_eq_false_iff_not]
     rintro ⟨_,_,h3,_⟩
     have:=(h3 k hlt).1
     rw [placeP,hpl] at this;cases this
    have HR:=Lib.hid hr
    clear hr
    go_wp2
    (refine wp_region_low (by kernel_rfl) (by kernel_rfl) ?_;(iterate 4 (apply quiet_want;(case hw=>rfl);(case hval=>(intro w1 hw1;have hcx:=Low.cells hw1;simp only [Oper.quietAt];go_simp;first | done | (first | (go_at_call 156;exact Low.calls hw1 (isPlace_no _ _ _ hpl))) | rfl | exact⟨rfl,rfl⟩));simp only [Act.put,List.setIfInBounds_toArray,List.set_cons_zero,List.set_cons_succ]));(iterate 10 (apply quiet_skip;(case hw=>rfl);simp only [Act.put,List.setIfInBounds_toArray,List.set_cons_zero,List.set_cons_succ]));(iterate 1 (apply quiet_want;(case hw=>rfl);(case hval=>(intro w1 hw1;have hcx:=Low.cells hw1;simp only [Oper.quietAt];go_simp;first | done | (first | (go_at_call 156;exact Low.calls hw1 (isPlace_no _ _ _ hpl))) | rfl | exact⟨rfl,rfl⟩));simp only [Act.put,List.setIfInBounds_toArray,List.set_cons_zero,List.set_cons_succ]));refine wpQuiet_nil ?_;intro w2 hw2)
    have hz2:=hw2.out.size
    rw [World.size_alloc] at hz2
    have bR2:Boxed w2 (w.heap.size+1) 4 (.bool false):=Boxed.below (bR'.out.alloc _) hw2.out (by rw [World.size_alloc];omega)
    have q0:=bR2.cell
    have q1:=bR2.frozen
    go_wp2
    exact⟨.bool false,by simp [results,Tryz.f93,go_sem,World.cell?_setCell_same' w2 ⟨w.heap.size+1,0,none⟩ (.bool false) (by rw [q0];rfl)],ret_bool HR.out.symm,((hB.alloc (by omega) _).trans (hw2.out.mono (by rw [World.size_alloc];omega))).setCell (by simp) _⟩
   ·by_cases hk0:k=0
    ·subst hk0
     have dk:decide ((0:Int)<((0:Nat):Int))=false:=by simp
     go_wp2
     (refine wp_region_low (by kernel_rfl) (by kernel_rfl) ?_;(iterate 7 (apply quiet_want;(case hw=>rfl);(case hval=>(intro w1 hw1;have hcx:=Low.cells hw1;simp only [Oper.quietAt];go_simp;first | done | (first | (go_at_call 156;exact Low.calls hw1 (isPlace_yes _ _ _ hpl))) | rfl | exact⟨rfl,rfl⟩));simp only [Act.put,List.setIfInBounds_toArray,List.set_cons_zero,List.set_cons_succ]));(iterate 6 (apply quiet_skip;(case hw=>rfl);simp only [Act.put,List.setIfInBounds_toArray,List.set_cons_zero,List.set_cons_succ]));(iterate 2 (apply quiet_want;(case hw=>rfl);(case hval=>(intro w1 hw1;have hcx:=Low.cells hw1;simp only [Oper.quietAt];go_simp;first | done | (first | (go_at_call 156;exact Low.calls hw1 (isPlace_yes _ _ _ hpl))) | rfl | exact⟨rfl,rfl⟩));simp only [Act.put,List.setIfInBounds_toArray,List.set_cons_zero,List.set_cons_succ]));refine wpQuiet_nil ?_;intro w2 hw2)
     have hz2:=hw2.out.size
     rw [World.size_alloc] at hz2
     go_wp2
     go_roundw
     case rel =>
      refine⟨1,by omega,rfl,fun j hj=>?_,Boxed.below (bS'.out.alloc _) hw2.out (by rw [World.size_alloc];omega),Boxed.below (bR'.out.alloc _) hw2.out (by rw [World.size_alloc];omega),(hB.alloc (by omega) _).trans (hw2.out.mono (by rw [World.size_alloc];omega))⟩
      obtain rfl:j=0:=by omega
      exact⟨hpl,fun h=>by omega⟩
     case measure=>simp [intOf];omega
    ·have hk1:(0:Int)<(k:Int):=by omega
     have dk:decide (0<k)=true:=by simp;omega
     have hkn:0<k:=by omega
     have hl0:0<l.length:=by omega
     have hbl:=World.block_lt_of_cell? wr _ c1
     have f0:=(hB2.cell (p:=⟨w.heap.size,0,none⟩) (World.block_lt_of_cell? wr _ c0)).trans c0
     have f3:=(hB2.cell (p:=⟨b,o,none⟩) hbl).trans c3
     have f4:=(hB2.cell (p:=⟨b,o+1,none⟩) hbl).trans c4
     have g0:=Low.fact f0
     have g3:=Low.fact f3
     have g4:=Low.fact f4
     by_cases hcmp:cmpV (nth l 0).x (nth l 0).y (nth l k).x (nth l k).y<0
     ·have dc:decide (0≤cmpV (nth l 0).x (nth l 0).y (nth l k).x (nth l k).y)=false:=by simp;omega
      have HC:=Lib.hid hcmp
      clear hcmp
      go_wp2
      (refine wp_region_low (by kernel_rfl) (by kernel_rfl) ?_;(iterate 15 (apply quiet_want;(case hw=>rfl);(case hval=>(intro w1 hw1;have hcx:=Low.cells hw1;simp only [Oper.quietAt];go_simp;first | done | (first | (go_at_call 156;exact Low.calls hw1 (isPlace_yes _ _ _ hpl)) | (go_at_call 157;exact Low.calls hw1 (compare_any _ _ _ _ _))) | rfl | exact⟨rfl,rfl⟩));simp only [Act.put,List.setIfInBounds_toArray,List.set_cons_zero,List.set_cons_succ]));refine wpQuiet_nil ?_;intro w2 hw2)
      have hz2:=hw2.out.size
      rw [World.size_alloc] at hz2
      go_wp2
      go_roundw
      case rel =>
       refine⟨k+1,by omega,by simp,fun j hj=>?_,Boxed.below (bS'.out.alloc _) hw2.out (by rw [World.size_alloc];omega),Boxed.below (bR'.out.alloc _) hw2.out (by rw [World.size_alloc];omega),(hB.alloc (by omega) _).trans (hw2.out.mono (by rw [World.size_alloc];omega))⟩
       by_cases e:j=k
       ·subst e;exact⟨hpl,fun _=>HC.out⟩
       ·exact hall'.out j (by omega)
      case measure=>simp [intOf];omega
     ·have dc:decide (0≤cmpV (nth l 0).x (nth l 0).y (nth l k).x (nth l k).y)=true:=by simp;omega
      have hr:goValid l=false:=by
       simp only [goValid,decide_eq_false_iff_not]
       rintro ⟨_,_,h3,_⟩
       exact hcmp ((h3 k hlt).2 (by omega))
      have HR:=Lib.hid hr
      clear hr hcmp
      go_wp2
      (refine wp_region_low (by kernel_rfl) (by kernel_rfl) ?_;(iterate 15 (apply quiet_want;(case hw=>rfl);(case hval=>(intro w1 hw1;have hcx:=Low.cells hw1;simp only [Oper.quietAt];go_simp;first | done | (first | (go_at_call 156;exact Low.calls hw1 (isPlace_yes _ _ _ hpl)) | (go_at_call 157;exact Low.calls hw1 (compare_any _ _ _ _ _))) | rfl | exact⟨rfl,rfl⟩));simp only [Act.put,List.setIfInBounds_toArray,List.set_cons_zero,List.set_cons_succ]));refine wpQuiet_nil ?_;intro w2 hw2)
      have hz2:=hw2.out.size
      rw [World.size_alloc] at hz2
      have bR2:Boxed w2 (w.heap.size+1) 4 (.bool false):=Boxed.below (bR'.out.alloc _) hw2.out (by rw [World.size_alloc];omega)
      have q0:=bR2.cell
      have q1:=bR2.frozen
      go_wp2
      exact⟨.bool false,by simp [results,Tryz.f93,go_sem,World.cell?_setCell_same' w2 ⟨w.heap.size+1,0,none⟩ (.bool false) (by rw [q0];rfl)],ret_bool HR.out.symm,((hB.alloc (by omega) _).trans (hw2.out.mono (by rw [World.size_alloc];omega))).setCell (by simp) _⟩
  ·obtain rfl:k=l.length:=by omega
   have c0:=bS.cell
   have r0:=bR.cell
   have r1:=bR.frozen
   have hz:=hB.size
   by_cases h3:l.length<3
   ·have d3:decide ((l.length:Int)<3)=true:=by simp;omega
    have hr:goValid l=true:=by
     simp only [goValid,decide_eq_true_eq]
     exact⟨h1,h2,hall,fun h=>by omega⟩
    have HR:=Lib.hid hr
    clear hr hall
    go_wp2
    exact⟨.bool true,by simp [results,Tryz.f93,go_sem,World.cell?_setCell_same' wr ⟨w.heap.size+1,0,none⟩ (.bool true) (by rw [r0];rfl)],ret_bool HR.out.symm,hB.setCell (by simp) _⟩
   ·have d3 : decide ((l.length : Int) < 3) = false := by simp; omega
    have hall':=Lib.hid hall
    clear hall
    go_wp2_with (go_at_call 158;refine (sides_any _ _ _ _).mono ?_;rintro e w' ⟨rfl,rfl⟩)
    have hz':(wr.alloc (.cells #[.slice (some ⟨b,o,none⟩) l.length (l.length+cap)] 23)).heap.size=wr.heap.size+1:=by simp
    have hBa:Below w.heap.size w (wr.alloc (.cells #[.slice (some ⟨b,o,none⟩) l.length (l.length+cap)] 23)):=hB.alloc hz _
    have bN:=Boxed.new wr 23 (.slice (some ⟨b,o,none⟩) l.length (l.length+cap))
    have bS0:=bS.alloc (.cells #[.slice (some ⟨b,o,none⟩) l.length (l.length+cap)] 23)
    have bR0:=bR.alloc (.cells #[.slice (some ⟨b,o,none⟩) l.length (l.length+cap)] 23)
    obtain⟨W0,hW0⟩:∃ W0,(wr.alloc (.cells #[.slice (some ⟨b,o,none⟩) l.length (l.length+cap)] 23))=W0:=⟨_,rfl⟩
    rw [hW0] at hz' hBa bN bS0 bR0 ⊢
    clear hW0 bS bR c0 r0 r1
    have hI:PtsAt (wr.heap.size+1) W0 (.slice (some ⟨b,o,none⟩) l.length (l.length+cap)) l :=
     PtsAt.mono (PtsAt.below hBa ⟨hl,_,cap,rfl,Or.inr ⟨b,o,rfl,hb,hc'.out⟩⟩) (by omega)
    have hpl:∀ i,placeP (sideP l i).1=true∧placeP (sideP l i).2=true:=fun i=>⟨nth_place (fun k hk=>(hall'.out k hk).1) _,nth_place (fun k hk=>(hall'.out k hk).1) _⟩
    refine (wpIn_wide (n:=9)).1 ?_
    refine wpIn_rangeFunc_ownH rfl (by omega) (gf:=187) (lb:=#[.pointer (some ⟨wr.heap.size,0,none⟩)]) rfl trivial (enters_of Tryz.func187 (by kernel_rfl) rfl)
     (sides_stops (fun s:PlS=>encS s.1) (fun i=>⟨sideP l i,hpl i⟩) 8 (by omega) wr.heap.size (wr.heap.size+1) _ l _ (by omega) (by rw [hz'];omega) bN.cell hI (fun _ _=>rfl)) belowK_t (belowK_b (by rw [hz'];omega)) (Below.refl _ _) (fun _=>rfl)
     (fun pre W=>(Boxed W w.heap.size 23 (.slice (some ⟨b,o,none⟩) l.length (l.length+cap))∧Boxed W (w.heap.size+1) 4 (.bool false))∧(Below w.heap.size W0 W∧∀ s ∈ pre,sideOk l s.1))
     (fun c pre W=>(Boxed W (w.heap.size+1) 4 (.bool false)∧(c=.ret∧∃ s ∈ pre,¬ sideOk l s.1))∧Below w.heap.size W0 W)
     (OwnFrom.and (OwnFrom.and (Own.from (boxed_own _ _ (fun _=>_)) _) (Own.from (boxed_own _ _ (fun _=>_)) _)) (OwnFrom.and (ownFrom_below (by rw [hz'];omega) (by rw [hz'];omega)) (ownFrom_pure _ _)))
     (fun c=>OwnFrom.and (OwnFrom.and (Own.from (boxed_own _ _ (fun _=>_)) _) (ownFrom_pure _ _)) (ownFrom_below (by rw [hz'];omega) (by rw [hz'];omega)))
     ⟨⟨bS0,bR0⟩,Below.refl _ _,by simp⟩
     (fun x a' W=>∃ B1 B2,(Has W B1 #[.int .i64 x.1.1.x,.int .i64 x.1.1.y] 58∧Has W B2 #[.int .i64 x.1.2.x,.int .i64 x.1.2.y] 58)∧a'={ tmps:=#[.slice (some ⟨b,o,none⟩) l.length (l.length+cap),.pointer (some ⟨w.heap.size,0,none⟩),.pointer (some ⟨w.heap.size+1,0,none⟩),u3,u4,.pointer (some ⟨B1,0,none⟩),.pointer (some ⟨B2,0,none⟩),undef,undef,.slice (some ⟨b,o,none⟩) l.length (l.length+cap),.int .i64 (l.length:Int),.bool false,.bool false,.slice (some ⟨b,o,none⟩) l.length (l.length+cap),.int .i64 (l.length:Int),.bool false,.bool false,.slice (some ⟨b,o,none⟩) l.length (l.length+cap),.int .i64 (l.length:Int),.int .i64 (l.length:Int),.bool false,u21,u22,u23,u24,u25,u26,u27,u28,u29,u30,u31,u32,u33,u34,u35,u36,u37,u38,u39,.slice (some ⟨b,o,none⟩) l.length (l.length+cap),.int .i64 (l.length:Int),.bool false,.slice (some ⟨b,o,none⟩) l.length (l.length+cap),.func (.func 187) #[] #[.pointer (some ⟨wr.heap.size,0,none⟩)],.agg #[.int .i64 x.1.1.x,.int .i64 x.1.1.y],.agg #[.int .i64 x.1.2.x,.int .i64 x.1.2.y],undef,undef,undef,undef,undef,undef,undef,undef,undef,undef,undef,undef,undef,undef,undef,undef,undef,undef,undef,undef,undef,undef],defers:=[] })
     (fun x a' _ X Y row hs hg hr=>by obtain⟨B1,B2,⟨g1,g2⟩,g3⟩:=hs;exact⟨B1,B2,⟨has_kept g1 hg (fun r e=>(hr r e).2),has_kept g2 hg (fun r e=>(hr r e).2)⟩,g3⟩)
     ?assign ?body ?done ?stop
    case assign =>
     rintro ll pre x W K ⟨⟨bS1,bR1⟩,hB1,hp1⟩ hK
     unfold encS
     gi_wp2
     have hzW:=hB1.size
     exact hK _ _ (((KeepsOthers.alloc _ _).trans (KeepsOthers.alloc _ _)).from _) (((Below.refl _ W).alloc (by omega) _).alloc (by simp;omega) _)
      ⟨⟨(bS1.alloc _).alloc _,(bR1.alloc _).alloc _⟩,(hB1.alloc (by omega) _).alloc (by simp;omega) _,hp1⟩
      ⟨W.heap.size,W.heap.size+1,⟨Has.below (Has.new W _ _) ((Below.refl (W.heap.size+1) _).alloc (by simp) _) (by omega),by have:=Has.new (W.alloc (.cells #[.int .i64 x.1.1.x,.int .i64 x.1.1.y] 58)) #[.int .i64 x.1.2.x,.int .i64 x.1.2.y] 58;rwa [World.size_alloc] at this⟩,rfl⟩
    case body =>
     rintro ll pre ⟨⟨⟨ax,ay⟩,⟨bx,by'⟩⟩,hxx⟩ a' W hll ⟨r,hr⟩ ⟨⟨bS1,bR1⟩,hB1,hp1⟩ ⟨B1,B2,⟨g1,g2⟩,rfl⟩ hlt
     dsimp only at g1 g2 ⊢
     have pa:=placeB_true hxx.1
     have pb:=placeB_true hxx.2
     dsimp only at pa pb
     obtain⟨S,hS⟩:∃ S:PlS,S=⟨(⟨ax,ay⟩,⟨bx,by'⟩),hxx⟩:=⟨_,rfl⟩
     rw [← hS]
     have HS:Hid (S.1=(⟨ax,ay⟩,⟨bx,by'⟩)):=by show S.1=_;rw [hS]
     clear hS
     have hzW:=hB1.size
     have hBw:=hBa.trans hB1
     have c0:=bS1.cell
     have hll':=Lib.hid hll
     have hr':=Lib.hid hr
     have hlt':=Lib.hid hlt
     clear hll hr hlt hxx
     gi_wp2
     gi_loopw [49] (fun i wv=>∃ k:Nat,k≤l.length∧i=.int .i64 k∧okTo l ⟨ax,ay⟩ ⟨bx,by'⟩ k∧Below W.heap.size W wv) (fun i _=>l.length - (intOf i).toNat)
     case atStart=>exact⟨0,Nat.zero_le _,rfl,fun j h=>by omega,Below.refl _ _⟩
     case round =>
      obtain⟨k,hk,rfl,hok,hv⟩:=hrel
      by_cases hlk:k<l.length
      ·have hbv:=hBw.trans (hv.mono (by have:=hBw.size;omega))
       have c1:=(hbv.cell (p:=⟨b,o+k*2,none⟩) hb).trans (hc'.out k hlk).1
       have c2:=(hbv.cell (p:=⟨b,o+k*2+1,none⟩) hb).trans (hc'.out k hlk).2
       have pp:=placeB_true (hall'.out k hlk).1
       obtain⟨px,py,hN⟩:∃ px py,nth l k=⟨px,py⟩:=⟨_,_,rfl⟩
       rw [hN] at c1 c2 pp
       dsimp only at c1 c2 pp
       have HN:=Lib.hid hN
       have hok':=Lib.hid hok
       have hp1':=Lib.hid hp1
       have G1:=g1.below hv g1.lt
       have G2:=g2.below hv g2.lt
       have bRv:=Boxed.below bR1 hv bR1.lt
       have hzv:=hv.size
       clear hN hok hp1
       have hv2:Below wr.heap.size wr (wr.alloc (.cells #[.int .i64 px,.int .i64 py] 58)):=(Below.refl _ wr).alloc (Nat.le_refl _) _
       have a1:=(hv2.cell (p:=⟨B1,0,none⟩) G1.lt).trans (G1.cell (i:=0) rfl)
       have a2:=(hv2.cell (p:=⟨B1,1,none⟩) G1.lt).trans (G1.cell (i:=1) rfl)
       have a3:=(hv2.cell (p:=⟨B2,0,none⟩) G2.lt).trans (G2.cell (i:=0) rfl)
       have a4:=(hv2.cell (p:=⟨B2,1,none⟩) G2.lt).trans (G2.cell (i:=1) rfl)
       have HG:=Lib.hid (And.intro G1 G2)
       have HR1:=Lib.hid (And.intro bS1 bR1)
       have HRv:=Lib.hid bRv
       clear G1 G2 bS1 bR1 bRv
       rcases pt_cases px py ax ay bx by' with h | h
       ·rcases h with⟨rfl,rfl⟩ | ⟨rfl,hn,rfl,rfl⟩ | ⟨hn,rfl,rfl⟩
        all_goals
         gi_wp2
         refine⟨trivial,?_⟩
         gi_wp2
         go_roundw
         case rel=>exact⟨k+1,by omega,by simp,okTo_skip hok'.out (by first | exact Or.inl HN.out | exact Or.inr HN.out),hv.alloc (by omega) _⟩
         case measure=>simp [intOf];omega
       ·have hne:nth l k≠⟨ax,ay⟩∧nth l k≠⟨bx,by'⟩:=by
         rw [HN.out]
         constructor
         ·exact Pt.ne_of (by dsimp only;omega)
         ·exact Pt.ne_of (by dsimp only;omega)
        have hT:turnP ⟨ax,ay⟩ ⟨bx,by'⟩ (nth l k)=turnV ax ay bx by' px py:=by rw [HN.out];rfl
        have HNE:=Lib.hid hne
        have HT:=Lib.hid hT
        clear hne hT
        by_cases ht:turnV ax ay bx by' px py≤0
        ·have dt:decide (turnV ax ay bx by' px py≤0)=true:=by simpa using ht
         have Ht:=Lib.hid ht
         clear ht
         rcases h with⟨rfl,hn,rfl,hm⟩ | ⟨rfl,hn,hm⟩ | ⟨hn,rfl,hm⟩ | ⟨hn,hm⟩
         all_goals
          gi_wp2_with (refine⟨trivial,?_⟩;gi_at_call 159;refine (CallsIn.inRound ll (callsIn_wide.2 (turn_any _ _ _ _ _ _ _ (by omega) (by omega) (by omega) (by omega) (by omega) (by omega) (by omega) (by omega) (by omega) (by omega) (by omega) (by omega)))).mono ?_;rintro e w2 ⟨rfl,hb2⟩;have bR2:=Boxed.below (HRv.out.alloc (.cells #[.int .i64 px,.int .i64 py] 58)) hb2 (by rw [World.size_alloc];have:=HRv.out.lt;omega);have q0:=bR2.cell;have q1:=bR2.frozen)
          have hz2:=hb2.size
          rw [World.size_alloc] at hz2
          have hW2:Below W.heap.size W w2:=(hv.alloc (by omega) _).trans (hb2.mono (by rw [World.size_alloc];omega))
          exact⟨(keeps_of_below hW2).trans ((KeepsOthers.setCell _ _ _).from _),⟨bR2.set _,rfl,S,by simp,fun h=>by
           rw [HS.out] at h
           have h4:=h k hlk HNE.out.1 HNE.out.2
           rw [HT.out] at h4
           have:=Ht.out
           omega⟩,(hB1.trans (hW2.mono (by omega))).setCell (by simp) _⟩
        ·have dt:decide (turnV ax ay bx by' px py≤0)=false:=by simpa using ht
         have Ht:=Lib.hid ht
         clear ht
         rcases h with⟨rfl,hn,rfl,hm⟩ | ⟨rfl,hn,hm⟩ | ⟨hn,rfl,hm⟩ | ⟨hn,hm⟩
         all_goals
          gi_wp2_with (refine⟨trivial,?_⟩;gi_at_call 159;refine (CallsIn.inRound ll (callsIn_wide.2 (turn_any _ _ _ _ _ _ _ (by omega) (by omega) (by omega) (by omega) (by omega) (by omega) (by omega) (by omega) (by omega) (by omega) (by omega) (by omega)))).mono ?_;rintro e w2 ⟨rfl,hb2⟩)
          have hz2:=hb2.size
          rw [World.size_alloc] at hz2
          go_roundw
          case rel=>exact⟨k+1,by omega,by simp,okTo_more hok'.out (by rw [HT.out];have:=Ht.out;omega),(hv.alloc (by omega) _).trans (hb2.mono (by rw [World.size_alloc];omega))⟩
          case measure=>simp [intOf];omega
      ·have hv':=Lib.hid hv
       have hok':Hid (sideOk l S.1):=by show sideOk l S.1;rw [HS.out];intro j hj;exact hok j (by omega)
       have hp1':=Lib.hid hp1
       clear hok hp1
       obtain rfl:k=l.length:=by omega
       gi_wp2
       exact⟨keeps_of_below hv'.out,hv'.out.mono (by omega),⟨Boxed.below bS1 hv'.out bS1.lt,Boxed.below bR1 hv'.out bR1.lt⟩,hB1.trans (hv'.out.mono (by omega)),fun s hs=>by
        rcases List.mem_append.1 hs with hs | hs
        ·exact hp1'.out s hs
        ·obtain rfl:s=S:=by simpa using hs
         exact hok'.out⟩
    case done =>
     rintro D ys W hD rfl ⟨⟨bS1,bR1⟩,hB1,hp1⟩ hK
     have hr:goValid l=true:=by
      simp only [goValid,decide_eq_true_eq]
      exact⟨h1,h2,hall'.out,fun _ i hi=>hp1 ⟨sideP l i,hpl i⟩ (mem_upto.2 ⟨i,hi,rfl⟩)⟩
     have HR:=Lib.hid hr
     have hzW:=hB1.size
     clear hr hp1
     have q0:=bR1.cell
     have q1:=bR1.frozen
     have hK':=(KeepsOthers.setCell W ⟨w.heap.size+1,0,none⟩ (.bool true)).same D _ hK rfl
     have hc5:=cell_kept (World.cell?_setCell_same' W ⟨w.heap.size+1,0,none⟩ (.bool true) (by rw [q0];rfl)) (grownBy_putObj' _ D (.deferred none)) (fun r e=>by cases e;exact⟨_,hK',rfl⟩)
     have HK:=Lib.hid hK'
     have HC:=Lib.hid hc5
     clear hK' hc5
     go_wp2
     refine⟨by simp,.inl ⟨_,_,rfl,run_takeDeferred HK.out,?_⟩⟩
     refine⟨.bool true,by simp [results,Tryz.f93,go_sem,HC.out],ret_bool HR.out.symm,?_⟩
     exact ((hBa.trans hB1).setCell (p:=⟨w.heap.size+1,0,none⟩) (by simp) _).trans (belowK_b (w:=w) (Nat.le_refl _) _ D _ _ (by omega) HK.out rfl rfl)
    case stop =>
     rintro D c pre W hD ⟨k2,hk2,rfl⟩ ⟨⟨bR1,rfl,s,hs,hns⟩,hB1⟩ hK
     have hr:goValid l=false:=by
      simp only [goValid,decide_eq_false_iff_not]
      rintro ⟨_,_,_,h4⟩
      obtain⟨i,hi,rfl⟩:=mem_upto.1 hs
      exact hns (h4 (by omega) i (by omega))
     have HR:=Lib.hid hr
     have hzW:=hB1.size
     clear hr hns hs
     have hc5:=cell_kept bR1.cell (grownBy_putObj' _ D (.deferred none)) (fun r e=>by cases e;exact⟨_,hK,rfl⟩)
     have HK:=Lib.hid hK
     have HC:=Lib.hid hc5
     clear hK hc5
     refine wpIn_wide.2 ?_
     go_wp2
     refine⟨by simp,.inl ⟨_,_,rfl,run_takeDeferred HK.out,?_⟩⟩
     refine⟨.bool false,by simp [results,Tryz.f93,go_sem,HC.out],ret_bool HR.out.symm,?_⟩
     exact (hBa.trans hB1).trans (belowK_b (w:=w) (Nat.le_refl _) _ D _ _ (by omega) HK.out rfl rfl)
theorem hullValid_any (v:Value) (l:List Pt) (w:World) (hp:PtsAt w.heap.size w v l) :
  Calls Tryz.prog 93 #[v] w fun e w'=>e=.returned (.bool (goValid l))∧Below w.heap.size w w':=by
 by_cases h:1≤l.length∧l.length≤64
 ·exact hullValid_two v l w hp h.1 h.2
 ·exact hullValid_size v l w hp (by omega)
end Go.Proofs.YtpimbaaahcemhaaGreat
namespace Go.Proofs.YtpimbaaahcemhaaGreat
open Go.RowKit
attribute [local irreducible] wpQuiet
def loTo (f:Pt→Int) (l:List Pt):Nat→Int
 | 0=>f (nth l 0)
 | k+1=>if f (nth l k)<loTo f l k then f (nth l k) else loTo f l k
def hiTo (f:Pt→Int) (l:List Pt):Nat→Int
 | 0=>f (nth l 0)
 | k+1=>if hiTo f l k<f (nth l k) then f (nth l k) else hiTo f l k
def bxF1 (p:Pt):Int:=p.x
def bxF2 (p:Pt):Int:=p.y
theorem bx_any_1 (x y:Int) (w:World) :
  Calls Tryz.prog 208 #[.agg #[.int .i64 x,.int .i64 y]] w fun e w'=>e=.returned (.int .i64 (bxF1 ⟨x,y⟩))∧Below w.heap.size w w':=by
 unfold bxF1
 go_enter Tryz.func208,Tryz.ntmps208
 go_wp2
 go_ret
 exact⟨rfl,by repeat (first | exact Below.refl _ _ | assumption | apply Below.drew | refine Below.setCell ?_ (by first | omega | (simp;done) | (simp;omega)) _ | refine Below.alloc ?_ (by first | omega | (simp;done) | (simp;omega)) _ | refine Below.call (by assumption) ?_ (by first | omega | (simp;done) | (simp;omega)))⟩
set_option linter.unusedSimpArgs false in
set_option maxHeartbeats 800000 in
theorem ends_1 (v:Value) (l:List Pt) (w:World) (hp:PtsAt w.heap.size w v l) (h1:0<l.length) :
  Calls Tryz.prog 207 #[v,.func (.func 208) #[] #[]] w fun e w'=>e=.returned (.tuple #[.int .i64 (loTo bxF1 l l.length),.int .i64 (hiTo bxF1 l l.length)])∧Below w.heap.size w w':=by
 obtain⟨hl,a,cap,rfl,hc⟩:=hp
 obtain⟨b,o,rfl,hb,hc⟩:∃ b o,a=some ⟨b,o,none⟩∧b<w.heap.size∧∀ j,j<l.length→w.cell? ⟨b,o+j*2,none⟩=some (.int .i64 (nth l j).x)∧w.cell? ⟨b,o+j*2+1,none⟩=some (.int .i64 (nth l j).y):=by
  rcases hc with h | h
  ·rw [h] at h1;simp at h1
  ·exact h
 obtain⟨e0,e1⟩:=hc 0 h1
 rw [Nat.zero_mul,Nat.add_zero] at e0 e1
 have l0:=Low.fact e0
 have l1:=Low.fact e1
 have HC:=Lib.hid hc
 have hf:=bx_any_1 (nth l 0).x (nth l 0).y
 have hff:bxF1 ⟨(nth l 0).x,(nth l 0).y⟩=loTo bxF1 l 0:=rfl
 rw [hff] at hf
 have hf':=Lib.hid hf
 have i0:(0:Int)<l.length:=by omega
 have i1:(0:Int)≤0:=by omega
 clear hc hf hff e0 e1
 generalize (nth l 0).x=p0 at *
 generalize (nth l 0).y=p1 at *
 go_enter Tryz.func207,Tryz.ntmps207
 go_wp2
 (refine wp_region_low (by kernel_rfl) (by kernel_rfl) ?_;(iterate 12 (apply quiet_want;(case hw=>rfl);(case hval=>(intro w1 hw1;have hcx:=Low.cells hw1;simp only [Oper.quietAt];go_simp;first | done | (first | (go_at_call 208;exact Low.calls hw1 (hf'.out _))) | rfl | exact⟨rfl,rfl⟩));simp only [Act.put,List.setIfInBounds_toArray,List.set_cons_zero,List.set_cons_succ]));refine wpQuiet_nil ?_;intro w2 hw2)
 have B2:=hw2.out
 have hH:=Lib.hid (show loTo bxF1 l 0=hiTo bxF1 l 0 from rfl)
 have HB:=Lib.hid B2
 clear hw2 l0 l1 B2
 generalize w2=w1 at *
 have hz1:=HB.out.size
 go_wp2
 go_loopw [6,7,22] (fun x y i wr=>∃ k:Nat,k≤l.length∧i=.int .i64 (k:Int)∧x=.int .i64 (loTo bxF1 l k)∧y=.int .i64 (hiTo bxF1 l k)∧Below w.heap.size w wr) (fun _ _ i _=>l.length - (intOf i).toNat)
 case atStart=>exact⟨0,by omega,rfl,rfl,rfl,HB.out⟩
 case round =>
  obtain⟨k,hk,rfl,rfl,rfl,hB⟩:=hrel
  have hzB:=hB.size
  by_cases hlt:k<l.length
  ·obtain⟨q0,q1⟩:=HC.out k hlt
   have e0:=(hB.cell (p:=⟨b,o+k*2,none⟩) hb).trans q0
   have e1:=(hB.cell (p:=⟨b,o+k*2+1,none⟩) hb).trans q1
   have hs:Hid (loTo bxF1 l (k+1)=(if bxF1 ⟨(nth l k).x,(nth l k).y⟩<loTo bxF1 l k then bxF1 ⟨(nth l k).x,(nth l k).y⟩ else loTo bxF1 l k)∧hiTo bxF1 l (k+1)=(if hiTo bxF1 l k<bxF1 ⟨(nth l k).x,(nth l k).y⟩ then bxF1 ⟨(nth l k).x,(nth l k).y⟩ else hiTo bxF1 l k)):=⟨rfl,rfl⟩
   have hf:=Lib.hid (bx_any_1 (nth l k).x (nth l k).y)
   have dk:decide ((k:Int)<(l.length:Int))=true:=by simp;omega
   have kl:(k:Int)<l.length:=by omega
   have k0:(0:Int)≤k:=by omega
   have hBB:=Lib.hid hB
   generalize bxF1 ⟨(nth l k).x,(nth l k).y⟩=f0 at *
   generalize (nth l k).x=px at *
   generalize (nth l k).y=py at *
   generalize loTo bxF1 l k=lo at *
   generalize hiTo bxF1 l k=hi at *
   clear q0 q1 hB
   go_wp2
   have hN:=Has.new wr #[.int .i64 px,.int .i64 py] 58
   have hBn:=hBB.out.alloc hzB (.cells #[.int .i64 px,.int .i64 py] 58)
   have x0:(wr.alloc (.cells #[.int .i64 px,.int .i64 py] 58)).cell? ⟨wr.heap.size,0,none⟩=some (.int .i64 px):=hN.cell (i:=0) rfl
   have x1:(wr.alloc (.cells #[.int .i64 px,.int .i64 py] 58)).cell? ⟨wr.heap.size,1,none⟩=some (.int .i64 py):=hN.cell (i:=1) rfl
   have hlN:=hN.lt
   have l0:=Low.fact x0
   have l1:=Low.fact x1
   have HN:=Lib.hid hBn
   clear hN hBn x0 x1 e0 e1
   generalize wr.alloc (.cells #[.int .i64 px,.int .i64 py] 58)=w3 at *
   (refine wp_region_low (by kernel_rfl) (by kernel_rfl) ?_;(iterate 12 (apply quiet_want;(case hw=>rfl);(case hval=>(intro w1 hw1;have hcx:=Low.cells hw1;simp only [Oper.quietAt];go_simp;first | done | (first | (go_at_call 208;exact Low.calls hw1 (hf.out _))) | rfl | exact⟨rfl,rfl⟩));simp only [Act.put,List.setIfInBounds_toArray,List.set_cons_zero,List.set_cons_succ]));refine wpQuiet_nil ?_;intro w2 hw2)
   have HF:=Lib.hid (HN.out.trans (hw2.out.mono HN.out.size))
   clear hw2 l0 l1
   go_wp2
   go_roundw
   case rel=>exact⟨k+1,by omega,by go_num,by rw [hs.out.1],by rw [hs.out.2],HF.out⟩
   case measure=>simp [intOf];omega
  ·obtain rfl:k=l.length:=by omega
   have dk:decide ((l.length:Int)<(l.length:Int))=false:=by simp
   go_wp2
   go_ret2
   exact⟨rfl,hB⟩
theorem bx_any_2 (x y:Int) (w:World) :
  Calls Tryz.prog 209 #[.agg #[.int .i64 x,.int .i64 y]] w fun e w'=>e=.returned (.int .i64 (bxF2 ⟨x,y⟩))∧Below w.heap.size w w':=by
 unfold bxF2
 go_enter Tryz.func209,Tryz.ntmps209
 go_wp2
 go_ret
 exact⟨rfl,by repeat (first | exact Below.refl _ _ | assumption | apply Below.drew | refine Below.setCell ?_ (by first | omega | (simp;done) | (simp;omega)) _ | refine Below.alloc ?_ (by first | omega | (simp;done) | (simp;omega)) _ | refine Below.call (by assumption) ?_ (by first | omega | (simp;done) | (simp;omega)))⟩
set_option linter.unusedSimpArgs false in
set_option maxHeartbeats 800000 in
theorem ends_2 (v:Value) (l:List Pt) (w:World) (hp:PtsAt w.heap.size w v l) (h1:0<l.length) :
  Calls Tryz.prog 207 #[v,.func (.func 209) #[] #[]] w fun e w'=>e=.returned (.tuple #[.int .i64 (loTo bxF2 l l.length),.int .i64 (hiTo bxF2 l l.length)])∧Below w.heap.size w w':=by
 obtain⟨hl,a,cap,rfl,hc⟩:=hp
 obtain⟨b,o,rfl,hb,hc⟩:∃ b o,a=some ⟨b,o,none⟩∧b<w.heap.size∧∀ j,j<l.length→w.cell? ⟨b,o+j*2,none⟩=some (.int .i64 (nth l j).x)∧w.cell? ⟨b,o+j*2+1,none⟩=some (.int .i64 (nth l j).y):=by
  rcases hc with h | h
  ·rw [h] at h1;simp at h1
  ·exact h
 obtain⟨e0,e1⟩:=hc 0 h1
 rw [Nat.zero_mul,Nat.add_zero] at e0 e1
 have l0:=Low.fact e0
 have l1:=Low.fact e1
 have HC:=Lib.hid hc
 have hf:=bx_any_2 (nth l 0).x (nth l 0).y
 have hff:bxF2 ⟨(nth l 0).x,(nth l 0).y⟩=loTo bxF2 l 0:=rfl
 rw [hff] at hf
 have hf':=Lib.hid hf
 have i0:(0:Int)<l.length:=by omega
 have i1:(0:Int)≤0:=by omega
 clear hc hf hff e0 e1
 generalize (nth l 0).x=p0 at *
 generalize (nth l 0).y=p1 at *
 go_enter Tryz.func207,Tryz.ntmps207
 go_wp2
 (refine wp_region_low (by kernel_rfl) (by kernel_rfl) ?_;(iterate 12 (apply quiet_want;(case hw=>rfl);(case hval=>(intro w1 hw1;have hcx:=Low.cells hw1;simp only [Oper.quietAt];go_simp;first | done | (first | (go_at_call 209;exact Low.calls hw1 (hf'.out _))) | rfl | exact⟨rfl,rfl⟩));simp only [Act.put,List.setIfInBounds_toArray,List.set_cons_zero,List.set_cons_succ]));refine wpQuiet_nil ?_;intro w2 hw2)
 have B2:=hw2.out
 have hH:=Lib.hid (show loTo bxF2 l 0=hiTo bxF2 l 0 from rfl)
 have HB:=Lib.hid B2
 clear hw2 l0 l1 B2
 generalize w2=w1 at *
 have hz1:=HB.out.size
 go_wp2
 go_loopw [6,7,22] (fun x y i wr=>∃ k:Nat,k≤l.length∧i=.int .i64 (k:Int)∧x=.int .i64 (loTo bxF2 l k)∧y=.int .i64 (hiTo bxF2 l k)∧Below w.heap.size w wr) (fun _ _ i _=>l.length - (intOf i).toNat)
 case atStart=>exact⟨0,by omega,rfl,rfl,rfl,HB.out⟩
 case round =>
  obtain⟨k,hk,rfl,rfl,rfl,hB⟩:=hrel
  have hzB:=hB.size
  by_cases hlt:k<l.length
  ·obtain⟨q0,q1⟩:=HC.out k hlt
   have e0:=(hB.cell (p:=⟨b,o+k*2,none⟩) hb).trans q0
   have e1:=(hB.cell (p:=⟨b,o+k*2+1,none⟩) hb).trans q1
   have hs:Hid (loTo bxF2 l (k+1)=(if bxF2 ⟨(nth l k).x,(nth l k).y⟩<loTo bxF2 l k then bxF2 ⟨(nth l k).x,(nth l k).y⟩ else loTo bxF2 l k)∧hiTo bxF2 l (k+1)=(if hiTo bxF2 l k<bxF2 ⟨(nth l k).x,(nth l k).y⟩ then bxF2 ⟨(nth l k).x,(nth l k).y⟩ else hiTo bxF2 l k)):=⟨rfl,rfl⟩
   have hf:=Lib.hid (bx_any_2 (nth l k).x (nth l k).y)
   have dk:decide ((k:Int)<(l.length:Int))=true:=by simp;omega
   have kl:(k:Int)<l.length:=by omega
   have k0:(0:Int)≤k:=by omega
   have hBB:=Lib.hid hB
   generalize bxF2 ⟨(nth l k).x,(nth l k).y⟩=f0 at *
   generalize (nth l k).x=px at *
   generalize (nth l k).y=py at *
   generalize loTo bxF2 l k=lo at *
   generalize hiTo bxF2 l k=hi at *
   clear q0 q1 hB
   go_wp2
   have hN:=Has.new wr #[.int .i64 px,.int .i64 py] 58
   have hBn:=hBB.out.alloc hzB (.cells #[.int .i64 px,.int .i64 py] 58)
   have x0:(wr.alloc (.cells #[.int .i64 px,.int .i64 py] 58)).cell? ⟨wr.heap.size,0,none⟩=some (.int .i64 px):=hN.cell (i:=0) rfl
   have x1:(wr.alloc (.cells #[.int .i64 px,.int .i64 py] 58)).cell? ⟨wr.heap.size,1,none⟩=some (.int .i64 py):=hN.cell (i:=1) rfl
   have hlN:=hN.lt
   have l0:=Low.fact x0
   have l1:=Low.fact x1
   have HN:=Lib.hid hBn
   clear hN hBn x0 x1 e0 e1
   generalize wr.alloc (.cells #[.int .i64 px,.int .i64 py] 58)=w3 at *
   (refine wp_region_low (by kernel_rfl) (by kernel_rfl) ?_;(iterate 12 (apply quiet_want;(case hw=>rfl);(case hval=>(intro w1 hw1;have hcx:=Low.cells hw1;simp only [Oper.quietAt];go_simp;first | done | (first | (go_at_call 209;exact Low.calls hw1 (hf.out _))) | rfl | exact⟨rfl,rfl⟩));simp only [Act.put,List.setIfInBounds_toArray,List.set_cons_zero,List.set_cons_succ]));refine wpQuiet_nil ?_;intro w2 hw2)
   have HF:=Lib.hid (HN.out.trans (hw2.out.mono HN.out.size))
   clear hw2 l0 l1
   go_wp2
   go_roundw
   case rel=>exact⟨k+1,by omega,by go_num,by rw [hs.out.1],by rw [hs.out.2],HF.out⟩
   case measure=>simp [intOf];omega
  ·obtain rfl:k=l.length:=by omega
   have dk:decide ((l.length:Int)<(l.length:Int))=false:=by simp
   go_wp2
   go_ret2
   exact⟨rfl,hB⟩
end Go.Proofs.YtpimbaaahcemhaaGreat
namespace Go.Proofs.YtpimbaaahcemhaaGreat
open Go.RowKit
attribute [local irreducible] wpQuiet
theorem tdiv_wd (a b:Int) (h1:-4000000000000000000≤a) (h2:a≤4000000000000000000):-4000000000000000000≤a.tdiv b∧a.tdiv b≤4000000000000000000:=by
 have h:=Int.natAbs_tdiv a b
 have h':a.natAbs.div b.natAbs≤a.natAbs:=Nat.div_le_self a.natAbs b.natAbs
 rw [← h] at h'
 omega
theorem fdiv_wd (a b:Int) (h1:-4000000000000000000≤a) (h2:a≤4000000000000000000) (hb:b≠0):-4000000000000000001≤a.fdiv b∧a.fdiv b≤4000000000000000000:=by
 rcases fdiv_cases a b hb with h | h
 ·have:=tdiv_wd a b h1 h2;omega
 ·have:=tdiv_wd a b h1 h2;omega
theorem cturn_any (ax ay bx by' cx cy:Int) (w:World) (a1:-1000000≤ax) (a2:ax≤1000000) (a3:-1000000≤ay) (a4:ay≤1000000)
  (b1:-1000000≤bx) (b2:bx≤1000000) (b3:-1000000≤by') (b4:by'≤1000000) (c1:-1000000≤cx) (c2:cx≤1000000) (c3:-1000000≤cy) (c4:cy≤1000000) :
  Calls Tryz.prog 218 #[.agg #[.int .i64 ax,.int .i64 ay],.agg #[.int .i64 bx,.int .i64 by'],.agg #[.int .i64 cx,.int .i64 cy]] w fun e w'=>e=.returned (.int .i64 (turnV ax ay bx by' cx cy))∧Below w.heap.size w w':=by
 have p:=prod_bd (a:=bx - ax) (b:=cy - ay) (m:=2000000) (n:=2000000) (by omega) (by omega) (by omega) (by omega)
 have q:=prod_bd (a:=by' - ay) (b:=cx - ax) (m:=2000000) (n:=2000000) (by omega) (by omega) (by omega) (by omega)
 have p':IntKind.i64.wrap ((bx - ax)*(cy - ay))=(bx - ax)*(cy - ay):=IntWalk.i64_in _ (by omega)
 have q':IntKind.i64.wrap ((by' - ay)*(cx - ax))=(by' - ay)*(cx - ax):=IntWalk.i64_in _ (by omega)
 have r':IntKind.i64.wrap ((bx - ax)*(cy - ay) - (by' - ay)*(cx - ax))=(bx - ax)*(cy - ay) - (by' - ay)*(cx - ax):=IntWalk.i64_in _ (by omega)
 clear p q
 unfold turnV
 go_enter Tryz.func218,Tryz.ntmps218
 go_wp2
 go_ret
 exact⟨rfl,by repeat (first | exact Below.refl _ _ | assumption | apply Below.drew | refine Below.setCell ?_ (by first | omega | (simp;done) | (simp;omega)) _ | refine Below.alloc ?_ (by first | omega | (simp;done) | (simp;omega)) _ | refine Below.call (by assumption) ?_ (by first | omega | (simp;done) | (simp;omega)))⟩
def crossB (s t:Int):Bool:=decide (s<0∧0<t∨0<s∧t<0)
theorem crosses_any (s t : Int) (w : World) :
  Calls Tryz.prog 219 #[.int .i64 s,.int .i64 t] w fun e w'=>e=.returned (.bool (crossB s t))∧w=w':=by
 by_cases h1:s<0
 ·have d1:decide (s<0)=true:=decide_eq_true h1
  have d3:decide (s>0)=false:=by rw [decide_eq_false_iff_not];omega
  by_cases h2:0<t
  ·have d2:decide (t>0)=true:=decide_eq_true h2
   have e:crossB s t=true:=decide_eq_true (.inl ⟨h1,h2⟩)
   rw [e];clear e
   go_enter Tryz.func219,Tryz.ntmps219
   go_wp2
   go_ret
   exact⟨rfl,rfl⟩
  ·have d2:decide (t>0)=false:=by rw [decide_eq_false_iff_not];omega
   have e:crossB s t=false:=decide_eq_false (by omega)
   rw [e];clear e
   go_enter Tryz.func219,Tryz.ntmps219
   go_wp2
   go_ret
   exact⟨rfl,rfl⟩
 ·have d1:decide (s<0)=false:=decide_eq_false h1
  by_cases h3:0<s
  ·have d3:decide (s>0)=true:=decide_eq_true h3
   by_cases h4:t<0
   ·have d4:decide (t<0)=true:=decide_eq_true h4
    have e:crossB s t=true:=decide_eq_true (.inr ⟨h3,h4⟩)
    rw [e];clear e
    go_enter Tryz.func219,Tryz.ntmps219
    go_wp2
    go_ret
    exact⟨rfl,rfl⟩
   ·have d4:decide (t<0)=false:=decide_eq_false h4
    have e:crossB s t=false:=decide_eq_false (by omega)
    rw [e];clear e
    go_enter Tryz.func219,Tryz.ntmps219
    go_wp2
    go_ret
    exact⟨rfl,rfl⟩
  ·have d3:decide (s>0)=false:=decide_eq_false h3
   have e:crossB s t=false:=decide_eq_false (by omega)
   rw [e];clear e
   go_enter Tryz.func219,Tryz.ntmps219
   go_wp2
   go_ret
   exact⟨rfl,rfl⟩
theorem floor_walk (a b q r q' : Int) (w : World) (hq : IntKind.i64.wrap (a.tdiv b) = q) (hr : a.tmod b = r) (h5 : ¬ b = 0) (q1 : -5000000000000000000 ≤ q) (q2 : q ≤ 5000000000000000000)
  (hc:r=0∧q=q'∨¬ r=0∧((a<0↔b<0)∧q=q'∨¬ (a<0↔b<0)∧q - 1=q')) :
  Calls Tryz.prog 233 #[.int .i64 a,.int .i64 b] w fun e w'=>e=.returned (.int .i64 q')∧w=w':=by
 have hw:IntKind.i64.wrap (q - 1)=q - 1:=IntWalk.i64_in _ (by omega)
 have hb0:(b == 0)=false:=by simpa using h5
 rcases hc with⟨h,e1⟩ | ⟨h,hc⟩
 ·subst e1
  have d1:(r != 0)=false:=by simp [h]
  clear h
  go_enter Tryz.func233,Tryz.ntmps233
  go_wp2
  go_ret
  exact⟨rfl,rfl⟩
 ·have d1:(r != 0)=true:=by simpa [bne_iff_ne] using h
  by_cases ha:a<0
  ·have d2:decide (a<0)=true:=decide_eq_true ha
   by_cases hb:b<0
   ·have d3:decide (b<0)=true:=decide_eq_true hb
    rcases hc with⟨_,e1⟩ | ⟨h1,_⟩
    ·subst e1
     go_enter Tryz.func233,Tryz.ntmps233
     go_wp2
     go_ret
     exact⟨rfl,rfl⟩
    ·exact absurd (by simp [ha,hb]) h1
   ·have d3:decide (b<0)=false:=decide_eq_false hb
    rcases hc with⟨h1,_⟩ | ⟨_,e1⟩
    ·exact absurd (h1.1 ha) hb
    ·subst e1
     go_enter Tryz.func233,Tryz.ntmps233
     go_wp2
     go_ret
     exact⟨rfl,rfl⟩
  ·have d2:decide (a<0)=false:=decide_eq_false ha
   by_cases hb:b<0
   ·have d3:decide (b<0)=true:=decide_eq_true hb
    rcases hc with⟨h1,_⟩ | ⟨_,e1⟩
    ·exact absurd (h1.2 hb) ha
    ·subst e1
     go_enter Tryz.func233,Tryz.ntmps233
     go_wp2
     go_ret
     exact⟨rfl,rfl⟩
   ·have d3:decide (b<0)=false:=decide_eq_false hb
    rcases hc with⟨_,e1⟩ | ⟨h1,_⟩
    ·subst e1
     go_enter Tryz.func233,Tryz.ntmps233
     go_wp2
     go_ret
     exact⟨rfl,rfl⟩
    ·exact absurd (by simp [ha,hb]) h1
theorem cfloor_any (a b:Int) (w:World) (h1:-4000000000000000000≤a) (h2:a≤4000000000000000000) (h3:-8000000000000≤b) (h4:b≤8000000000000) (h5:¬ b=0) :
  Calls Tryz.prog 233 #[.int .i64 a,.int .i64 b] w fun e w'=>e=.returned (.int .i64 (a.fdiv b))∧w=w':=by
 have d:=tdiv_wd a b h1 h2
 have sg:¬ a.tmod b=0→((a.tmod b<0∧a<0)∨(0<a.tmod b∧0<a)):=by
  intro h
  rcases Int.lt_trichotomy a 0 with ha | ha | ha
  ·have:=Int.tmod_nonneg (a:=-a) b (by omega)
   rw [Int.neg_tmod] at this
   omega
  ·subst ha;simp at h
  ·have:=Int.tmod_nonneg (a:=a) b (by omega)
   omega
 refine floor_walk a b _ _ _ w (IntWalk.i64_in _ (by omega)) rfl h5 (by omega) (by omega) ?_
 rcases fdiv_cases a b h5 with h | h
 ·by_cases hz:a.tmod b=0
  ·exact Or.inl ⟨hz,h.2.1⟩
  ·refine Or.inr ⟨hz,Or.inl ⟨?_,h.2.1⟩⟩
   have:=sg hz
   omega
 ·have hz:¬ a.tmod b=0:=by omega
  refine Or.inr ⟨hz,Or.inr ⟨?_,h.2.1⟩⟩
  have:=sg hz
  omega
end Go.Proofs.YtpimbaaahcemhaaGreat
namespace Go.Proofs.YtpimbaaahcemhaaGreat
open Go.RowKit Go.Shelf
attribute [local go_sem] Oper.semAt_some
set_option maxRecDepth 100000 in
set_option maxHeartbeats 2000000 in
theorem csides1_in {α : Type} (encA : α → Array Value) (f : Nat → α) (n : Nat) (hn : 1 ≤ n) (p : Nat → Prop) (W : World) (l Bs b o cap : Nat) (ps : List Pt) (hlen : ps.length ≤ 70368744177663) (hb : p b) (hBs : p Bs) (hpp : ∀ b, p b → b < W.heap.size) (hf : ∀ i, i < ps.length → encA (f i) = encS (sideP ps i)) (J Jx : List α → World → Prop)
  (hJ:AbidesFrom W.heap.size J)
  (hY:∀ pre x W1,J pre W1→pre.length<ps.length→YieldAt Fence.wide (n - 1) Tryz.prog l (encA x) W1 fun e W' =>
   (e=.returned (.bool true)∧J (pre++[x]) W'∧KeepsP p W1 W')∨(e=.returned (.bool false)∧Jx (pre++[x]) W'))
  (hB:W.cell? ⟨Bs,0,none⟩=some (.slice (some ⟨b,o,none⟩) ps.length cap))
  (hc:∀ j,j<ps.length→W.cell? ⟨b,o+j*2,none⟩=some (.int .i64 (nth ps j).x)∧W.cell? ⟨b,o+j*2+1,none⟩=some (.int .i64 (nth ps j).y)) (h0:J [] W) :
  CallsIn Fence.wide n Tryz.prog 231 #[.func (.yield l) #[] #[],.pointer (some ⟨Bs,0,none⟩)] W fun e W'=>(∃ v,e=.returned v) ∧
   ((∃ ys,ys=upto f ps.length∧J ys W')∨(∃ pre,(∃ k,k≤ps.length∧pre=upto f k)∧Jx pre W')):=by
 refine callsIn_of_wp Tryz.func231 rfl trivial ?_ rfl
 simp only [Tryz.ntmps231,List.size_toArray,List.length_cons,List.length_nil,Nat.reduceAdd,Nat.reduceSub,Array.replicate_succ,Array.replicate_zero,List.push_toArray,List.append_toArray,List.nil_append,List.cons_append]
 gi_wp2
 gi_loopw [7] (fun i wr=>∃ k:Nat,k≤ps.length∧i=.int .i64 k∧J (upto f k) wr∧KeepsP p W wr)
  (fun i _=>ps.length - (intOf i).toNat)
 case atStart=>exact⟨0,Nat.zero_le _,rfl,h0,KeepsP.refl _ _⟩
 case round =>
  obtain⟨k,hk,rfl,hJs,hnx⟩:=hrel
  by_cases hlt:k<ps.length
  ·have hn0:0<ps.length:=by omega
   obtain⟨m,hm⟩:∃ m,(k+1) % ps.length=m:=⟨_,rfl⟩
   have hmlt:m<ps.length:=by rw [← hm];exact Nat.mod_lt _ hn0
   have hx:sideP ps k=(nth ps k,nth ps m):=by rw [sideP,hm]
   have b1:W.heap.size≤wr.heap.size:=hnx.1
   have hBl:=World.block_lt_of_cell? W _ hB
   have e0:wr.cell? ⟨Bs,0,none⟩=some (.slice (some ⟨b,o,none⟩) ps.length cap):=(hnx.cell (i:=0) hBs).trans hB
   have e1:=(hnx.cell (i:=o+k*2) hb).trans (hc k hlt).1
   have e2:=(hnx.cell (i:=o+k*2+1) hb).trans (hc k hlt).2
   have e3:=(hnx.cell (i:=o+m*2) hb).trans (hc m hmlt).1
   have e4:=(hnx.cell (i:=o+m*2+1) hb).trans (hc m hmlt).2
   have hJ1:J (upto f k) (wr.alloc (.cells #[.int .i64 (nth ps k).x,.int .i64 (nth ps k).y] 58)).drew :=
    hJ _ _ _ none (hJ _ _ _ none hJs (World.grownBy_alloc _ _ none) (fun r e=>by cases e)) (grown_drew _ none) (fun r e=>by cases e)
   obtain⟨fn,tmps,assign,body,hy,hR⟩:=hY _ (f k) _ hJ1 (by rw [upto_length];exact hlt)
   rw [hf k hlt,hx] at hy
   dsimp only [encS] at hy
   have hw1:IntKind.i64.wrap ((k:Int)+1)=(k:Int)+1:=IntWalk.i64_in _ (by omega)
   have hw2:((k:Int)+1).tmod (ps.length:Int)=(m:Int):=by
    have:((k:Int)+1).tmod (ps.length:Int)=(((k+1) % ps.length:Nat):Int):=by
     rw [Int.tmod_eq_emod_of_nonneg (by omega)];rfl
    rw [this,hm]
   have hbl:=World.block_lt_of_cell? wr _ e1
   have hB2:Below wr.heap.size wr (wr.alloc (.cells #[.int .i64 (nth ps k).x,.int .i64 (nth ps k).y] 58)):=(Below.refl _ wr).alloc (Nat.le_refl _) _
   have f0:=(hB2.cell (p:=⟨Bs,0,none⟩) (World.block_lt_of_cell? wr _ e0)).trans e0
   have f1:=(hB2.cell (p:=⟨b,o+k*2,none⟩) hbl).trans e1
   have f2:=(hB2.cell (p:=⟨b,o+k*2+1,none⟩) hbl).trans e2
   have f3:=(hB2.cell (p:=⟨b,o+m*2,none⟩) hbl).trans e3
   have f4:=(hB2.cell (p:=⟨b,o+m*2+1,none⟩) hbl).trans e4
   have hne:¬ ps=[]:=by intro h;rw [h] at hn0;simp at hn0
   have hc':=Lib.hid hc
   have hm':=Lib.hid hm
   have hx':=Lib.hid hx
   have hJ':=Lib.hid hJ1
   clear hc hm hx hB hJ1
   gi_wp2
   refine wpIn_region_still_tail (lets_wide _) 10 (by kernel_rfl) (by kernel_rfl) (by kernel_rfl) ?_
   simp only [List.take_succ_cons,List.take_zero,List.drop_succ_cons,List.drop_zero]
   iterate 10 (refine wpStill_step (fun K hK=>?_);go_simp;refine hK _ ?_;clear hK K)
   refine wpStill_nil ?_
   gi_wp2
   refine hR.mono ?_
   rintro e W3 (⟨rfl,hJ3,hk3⟩ | ⟨rfl,hJx3⟩)
   ·gi_wp2
    go_roundw
    case rel=>exact⟨k+1,by omega,by simp,by rw [upto_succ];exact hJ3,hnx.trans ((KeepsP.of_below (((Below.refl wr.heap.size wr).alloc (Nat.le_refl _) _).drew) (fun b hb=>Nat.lt_of_lt_of_le (hpp b hb) b1)).trans hk3)⟩
    case measure=>simp [intOf];omega
   ·gi_wp2
    refine bodyPost_ret (results_none rfl _ _ _) rfl ?_
    exact⟨⟨_,rfl⟩,.inr ⟨_,⟨k+1,by omega,(upto_succ _ _).symm⟩,hJx3⟩⟩
  ·obtain rfl:k=ps.length:=by omega
   gi_wp2
   go_end0
   exact⟨⟨_,rfl⟩,.inl ⟨_,rfl,hJs⟩⟩
set_option maxRecDepth 100000 in
set_option maxHeartbeats 1000000 in
theorem csides1_none_in {α:Type} (n:Nat) (l Bs cap:Nat) (a:Option Addr) (J:List α→World→Prop) (W:World) (hB:W.cell? ⟨Bs,0,none⟩=some (.slice a 0 cap)) (h0:J [] W) :
  CallsIn Fence.wide n Tryz.prog 231 #[.func (.yield l) #[] #[],.pointer (some ⟨Bs,0,none⟩)] W fun e W'=>(∃ v,e=.returned v)∧J [] W':=by
 refine callsIn_of_wp Tryz.func231 rfl trivial ?_ rfl
 simp only [Tryz.ntmps231,List.size_toArray,List.length_cons,List.length_nil,Nat.reduceAdd,Nat.reduceSub,Array.replicate_succ,Array.replicate_zero,List.push_toArray,List.append_toArray,List.nil_append,List.cons_append]
 gi_wp2
 gi_loopw [7] (fun i wr=>i=.int .i64 0∧J [] wr) (fun _ _=>0)
 case atStart=>exact⟨rfl,h0⟩
 case round =>
  obtain⟨rfl,hJs⟩:=hrel
  gi_wp2
  go_end0
  exact⟨⟨_,rfl⟩,hJs⟩
theorem csides_any (a:Option Addr) (len cap:Nat) (w:World) :
  Calls Tryz.prog 217 #[.slice a len cap] w fun e w'=>e=.returned (.func (.func 231) #[] #[.pointer (some ⟨w.heap.size,0,none⟩)])∧w.alloc (.cells #[.slice a len cap] 23)=w':=by
 go_enter Tryz.func217,Tryz.ntmps217
 go_wp2
 go_ret
 exact⟨rfl,rfl⟩
theorem csides_stops {α:Type} (encA:α→Array Value) (f:Nat→α) (n:Nat) (hn:1≤n) (p:Nat→Prop) (Bs n0:Nat) (sv:Value) (ps:List Pt) (w:World) (hBs:p Bs) (hp0:∀ b,b<n0→p b) (hpp:∀ b,p b→b<w.heap.size)
  (hc:w.cell? ⟨Bs,0,none⟩=some sv) (hI:PtsAt n0 w sv ps) (hf:∀ i,i<ps.length→encA (f i)=encS (sideP ps i)) :
  SeqStopsK Fence.wide n Tryz.prog 231 #[.pointer (some ⟨Bs,0,none⟩)] encA (KeepsP p) (fun ys=>ys=upto f ps.length)
   (fun pre=>∃ k,k≤ps.length∧pre=upto f k) ps.length w:=fun l J Jx W hW hJ _ hY h0=>by
 have hc':=(hW.cell (p:=⟨Bs,0,none⟩) (hpp Bs hBs)).trans hc
 have hsz:=hW.size
 have hn0:n0≤w.heap.size∨ps=[]:=by
  rcases hI.2 with⟨a,cap,_,h | ⟨b,o,_,hb,_⟩⟩
  ·exact .inr h
  ·refine .inl ?_
   rcases Nat.lt_or_ge w.heap.size n0 with h | h
   ·exact absurd (hpp _ (hp0 _ h)) (by omega)
   ·exact h
 rcases hn0 with hn0 | rfl
 ·obtain⟨hl,a,cap,rfl,hcs⟩:=hI.below (hW.mono hn0)
  rcases hcs with rfl | ⟨b,o,rfl,hb,hcs⟩
  ·exact (csides1_none_in n l Bs _ a J W hc' h0).mono fun e W' ⟨he,hj⟩=>⟨he,.inl ⟨_,rfl,hj⟩⟩
  ·exact csides1_in encA f n hn p W l Bs b o (ps.length+cap) ps hl (hp0 b hb) hBs (fun b hb=>Nat.lt_of_lt_of_le (hpp b hb) hsz) hf J Jx hJ hY hc' hcs h0
 ·obtain⟨hl,a,cap,rfl,hcs⟩:=hI
  exact (csides1_none_in n l Bs _ a J W hc' h0).mono fun e W' ⟨he,hj⟩=>⟨he,.inl ⟨_,rfl,hj⟩⟩
end Go.Proofs.YtpimbaaahcemhaaGreat
