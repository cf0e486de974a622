/- package plan: choices, the iterator over all choices of a list's elements. | package plan: choices, walked: what is handed out. -/
import Derived.Test.YtpimbaaahcemhaaGreatBin03
import Derived.Test.YtpimbaaahcemhaaGreatBin04
import Derived.Test.YtpimbaaahcemhaaGreatBin05
import Derived.Test.YtpimbaaahcemhaaGreatBin24
import Derived.Test.YtpimbaaahcemhaaGreatBin10
import Derived.Test.YtpimbaaahcemhaaGreatBin15
namespace Go.Proofs.YtpimbaaahcemhaaGreat
open Go.RowKit Go.Shelf
attribute [local go_sem] Oper.semAt_some
attribute [local irreducible] wpQuiet
def chOwn (s:List (Value × List Int)) (B r:Nat):Prop:=B≤r∧∀ x,x ∈ s→x.1.ownBlock≠some r
def chK (q:Nat→Prop) (B:Nat) (A C:World):Prop:=A.heap.size≤C.heap.size∧∀ b,(q b∨(B≤b∧b<A.heap.size))→C.heap[b]?=A.heap[b]?
theorem chOwn.less {s t:List (Value × List Int)} {B r:Nat} (h:chOwn (s++t) B r):chOwn s B r:=⟨h.1,fun x hx=>h.2 x (List.mem_append.2 (.inl hx))⟩
structure ChS (n1 Bc:Nat) (s:List (Value × List Int)) (xs:List Int) (v:Value) (W:World):Prop where
 box:Boxed W Bc 27 v
 row:W.ownsRow n1 3 1 v xs.length (xs.map (Value.int .i64))
 off:∀ x,x ∈ s→∀ r,x.1.ownBlock=some r→r<W.heap.size∧v.ownBlock≠some r∧r≠Bc
 lt:Bc<n1
 base:n1≤W.heap.size
theorem ChS.keep {n1 Bc:Nat} {s:List (Value × List Int)} {xs:List Int} {v:Value} {W X:World} (h:ChS n1 Bc s xs v W) (k:∀ b,b<W.heap.size→n1≤b∨b=Bc→X.heap[b]?=W.heap[b]?) (hz:W.heap.size≤X.heap.size):ChS n1 Bc s xs v X:=by
 have hb:=h.box.lt
 refine⟨(k Bc hb (.inr rfl)).trans h.box,?_,fun x hx r e=>⟨by have:=(h.off x hx r e).1;omega,(h.off x hx r e).2⟩,h.lt,Nat.le_trans h.base hz⟩
 refine⟨h.row.1,h.row.2.imp id ?_⟩
 rintro ⟨g,cap,cur,h1,h2,h3,h4⟩
 exact⟨g,cap,cur,h1,h2,(k g (Array.getElem?_eq_some_iff.1 h3).1 (.inl h2)).trans h3,h4⟩
section
variable {n1 Bc base:Nat} {s:List (Value × List Int)} {xs:List Int} {v:Value} {W:World} {J:List (Value × List Int)→World→Prop}
theorem ChS.push (hJ : ∀ s A B, J s A → MoveM (chOwn s base) A B → J s B) (h : ChS n1 Bc s xs v W) (hb : base ≤ Bc) (hJs : J s W) {tmp : Obj} {X2 : World} {v' : Value} {x : Int}
  (hg:(W.alloc tmp).grownBy X2 v.ownBlock) (hr:X2.ownsRow n1 3 1 v' (xs.length+1) (xs.map (Value.int .i64)++[.int .i64 x])) (ho:v'.ownBlock=v.ownBlock∨v'.ownBlock=some (W.alloc tmp).heap.size) :
  Boxed X2 Bc 27 v∧ChS n1 Bc s (xs++[x]) v' (X2.setCell ⟨Bc,0,none⟩ v')∧J s (X2.setCell ⟨Bc,0,none⟩ v')∧W.heap.size≤X2.heap.size∧(∀ b,b<n1→X2.heap[b]?=W.heap[b]?)∧∀ b,b<n1→b≠Bc→(X2.setCell ⟨Bc,0,none⟩ v').heap[b]?=W.heap[b]?:=by
 have hlt:=h.lt
 have hbs:=h.base
 have hsz:W.heap.size≤X2.heap.size:=Nat.le_trans (by simp) hg.size
 have hrow:∀ r,v.ownBlock=some r→n1≤r∧r<W.heap.size:=fun r e=>h.row.lt r e
 have hrow':∀ r,v'.ownBlock=some r→n1≤r∧r<X2.heap.size:=fun r e=>hr.lt r e
 have hbx:Boxed X2 Bc 27 v:=(h.box.alloc tmp).kept hg (fun e=>by have:=hrow Bc e.symm;omega)
 have hlow:∀ b,b<n1→X2.heap[b]?=W.heap[b]?:=fun b hb1=>by
  have h2:X2.heap[b]?=(W.alloc tmp).heap[b]?:=hg.block b (by simp;omega) (fun e=>by have:=hrow b e.symm;omega)
  exact h2.trans (Below.heap_alloc W tmp b (by omega))
 refine⟨hbx,⟨hbx.set v',?_,fun y hy r e=>?_,hlt,by simp only [World.size_setCell];omega⟩,?_,hsz,hlow,fun b hb1 hb2=>(Below.heap_setCell X2 ⟨Bc,0,none⟩ v' b hb2).trans (hlow b hb1)⟩
 ·have:X2.ownsRow n1 3 1 v' (xs++[x]).length ((xs++[x]).map (Value.int .i64)):=by simpa using hr
  exact this.kept (grownBy_setCell' X2 Bc v') (.inr fun e=>by have:=hrow' Bc e;omega)
 ·have o:=h.off y hy r e
  refine⟨by simp only [World.size_setCell];omega,fun e2=>?_,o.2.2⟩
  rcases ho with ho | ho
  ·exact o.2.1 (by rw [← ho];exact e2)
  ·rw [ho] at e2
   have:(W.alloc tmp).heap.size=r:=by simpa using e2
   simp at this
   omega
 ·have m1:J s (W.alloc tmp):=hJ _ _ _ hJs (MoveM.alloc _ _ _)
  have m2:J s X2:=by
   refine hJ _ _ _ m1 ⟨v.ownBlock,hg,fun r e=>?_⟩
   have hh:=hrow r e
   refine⟨⟨by omega,fun y hy e2=>(h.off y hy r e2).2.1 e⟩,?_⟩
   rcases (h.row.alloc tmp).2 with⟨rfl,_⟩ | ⟨g,cap,cur,rfl,_,hgb,_⟩
   ·simp [Value.ownBlock] at e
   ·obtain rfl:g=r:=by simpa [Value.ownBlock] using e
    exact⟨_,hgb,rfl⟩
  exact hJ _ _ _ m2 (MoveM.set ⟨by simpa using hb,fun y hy e=>(h.off y hy _ e).2.2 rfl⟩ hbx.cell)
end
end Go.Proofs.YtpimbaaahcemhaaGreat
namespace Go.Proofs.YtpimbaaahcemhaaGreat
open Go.RowKit Go.Shelf
attribute [local go_sem] Oper.semAt_some
attribute [local irreducible] wpQuiet
section
variable {P:Program} {ops:Array Oper}
end
theorem ChS.yield {n1 Bc:Nat} {s:List (Value × List Int)} {xs:List Int} {v y:Value} {W X0 X2:World} (h:ChS n1 Bc s xs v W) (h0:Below W.heap.size W X0) (hg:X0.grownBy X2 none) (hr:X2.ownsRow X0.heap.size 3 1 y xs.length (xs.map (Value.int .i64))) :
  Below W.heap.size W X2∧ChS n1 Bc (s++[(y,xs)]) xs v X2:=by
 have B2:Below W.heap.size W X2:=h0.grown hg h0.size (fun k e=>by cases e)
 refine⟨B2,?_⟩
 have S2:=h.keep (X:=X2) (fun b hb _=>B2.block b hb) B2.size
 have z0:=h0.size
 refine⟨S2.box,S2.row,fun x hx r e=>?_,S2.lt,S2.base⟩
 rcases List.mem_append.1 hx with hx | hx
 ·exact S2.off x hx r e
 ·obtain rfl:x=(y,xs):=by simpa using hx
  have o:=hr.lt r e
  have hb:=h.base
  have hl:=h.lt
  refine⟨o.2,fun e2=>?_,by omega⟩
  have:=(h.row.lt r e2).2
  omega
end Go.Proofs.YtpimbaaahcemhaaGreat
