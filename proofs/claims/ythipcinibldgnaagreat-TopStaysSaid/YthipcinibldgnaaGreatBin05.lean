/- Lists of integers in memory; a variable that collects them. -/
import Derived.RangeFuncBox
import Derived.OwnWalk
import Derived.Test.YthipcinibldgnaaGreatBin02
namespace Go.Proofs.YthipcinibldgnaaGreat
open Go.RowKit
def Z8 (n0 : Nat) (W : World) (v : Value) (l : List Int) : Prop :=
 l.length<=70368744177663/\∃ a cap,v=.slice a l.length (l.length+cap)/\(l=[]\/∃ b o,a=some ⟨b,o,none⟩/\b<n0 /\
  ∀ j,j<l.length->W.cell? ⟨b,o+j,none⟩=some (.int .i64 (l.getD j 0)))
theorem Z8.below {n0:Nat} {A B:World} (h:Below n0 A B) {v:Value} {l:List Int} (hp:Z8 n0 A v l):Z8 n0 B v l:=by
 obtain⟨i,a,c,e,d⟩:=hp;refine⟨i,a,c,e,d.imp id ?_⟩;rintro ⟨b,o,g,f,d⟩;exact⟨b,o,g,f,fun j hj=>(h.cell (p:=⟨b,o+j,none⟩) f).trans (d j hj)⟩
theorem Z8.mono {n0 n1:Nat} {W:World} {v:Value} {l:List Int} (hp:Z8 n0 W v l) (h:n0<=n1):Z8 n1 W v l:=by
 obtain⟨g,a,c,e,d⟩:=hp;refine⟨g,a,c,e,d.imp id ?_⟩;rintro ⟨b,o,f,i,d⟩;exact⟨b,o,f,by omega,d⟩
theorem Z8.nil (n0:Nat) (W:World):Z8 n0 W (.slice none 0 0) []:=⟨by simp,none,0,rfl,.inl rfl⟩
theorem Z8.own {W:World} {base n:Nat} {v:Value} {l:List Int} (h:W.ownsRow base 3 1 v n (l.map (Value.int .i64))) (hl:l.length<=70368744177663):Z8 W.heap.size W v l:=by
 have b:l.length=n:=by have:=h.1;simpa using this
 refine⟨hl,?_⟩;rcases h.2 with⟨rfl,c⟩ | ⟨g,a,f,rfl,_,d,i,_⟩
 ·exact⟨none,0,by rw [b,c],.inl (List.eq_nil_of_length_eq_zero (by omega))⟩
 ·refine⟨some ⟨g,0,none⟩,a-n,by rw [b,show n+(a-n)=a by omega],.inr ⟨g,0,rfl,(Array.getElem?_eq_some_iff.1 d).1,fun j hj=>?_⟩⟩
  have:=h.cells (g:=g) rfl j (.int .i64 (l.getD j 0)) (by simp [List.getD,List.getElem?_eq_getElem hj])
  have e:(⟨g,0,none⟩:Addr).add j=⟨g,0+j,none⟩:=by unfold Addr.add;split <;> simp_all
  rwa [e] at this
theorem intInfo:(Tryz.prog.info? 3).map (fun i=>(i.zero,i.size,i.bytes))=some (some (.int .i64 0),1,8):=by kernel_rfl
theorem Z8x {W w1:World} {base Bo m0:Nat} {t e:TypeId} {v v':Value} {k m:Nat} {xs ys:List Value} {tmp:Obj}
  (hv:Boxed W Bo t v) (hrow:W.ownsRow base e 1 v k xs) (hBo:Bo<base) (hbase:base<=W.heap.size) (hm:m0<=Bo)
  (hown':w1.ownsRow base e 1 v' m ys) (hgrow:(W.alloc tmp).grownBy w1 v.ownBlock) :
  Boxed w1 Bo t v/\Boxed (w1.setCell ⟨Bo,0,none⟩ v') Bo t v'/\(w1.setCell ⟨Bo,0,none⟩ v').ownsRow base e 1 v' m ys/\KeepsOthers W (w1.setCell ⟨Bo,0,none⟩ v')/\Below m0 W (w1.setCell ⟨Bo,0,none⟩ v') /\
   W.heap.size<=(w1.setCell ⟨Bo,0,none⟩ v').heap.size/\(∀ b,b<base->b≠Bo->(w1.setCell ⟨Bo,0,none⟩ v').heap[b]?=W.heap[b]?):=by
 have a:∀ {X:World} {u:Value} {n:Nat} {zs:List Value},X.ownsRow base e 1 u n zs->∀ b,b<base->some b≠u.ownBlock:=fun h b hb e'=>by have:=(h.lt b e'.symm).1;omega
 have c:Boxed w1 Bo t v:=(hv.alloc tmp).kept hgrow (a hrow Bo hBo);have i:W.heap.size<=w1.heap.size:=Nat.le_trans (by simp) hgrow.size
 have d:Below base W w1:=((Below.refl base W).alloc hbase tmp).grown hgrow (by simp;omega) (fun j ej=>(hrow.lt j ej).1)
 refine⟨c,c.set v',hown'.kept (grownBy_setCell' w1 Bo v') ?_,?_,(d.mono (by omega)).setCell (p:=⟨Bo,0,none⟩) hm v',by simpa [World.setCell] using i,fun b hb hbo=>?_⟩
 ·exact .inr (fun e'=>a hown' Bo hBo e'.symm)
 ·refine ((KeepsOthers.alloc W tmp).trans (KeepsOthers.of_grownBy hgrow fun j o ej hj=>?_)).trans (KeepsOthers.setCell _ _ _)
  rcases (hrow.alloc tmp).2 with⟨rfl,_⟩ | ⟨g,l,q,rfl,_,f,_⟩
  ·simp [Value.ownBlock] at ej
  ·obtain rfl:g=j:=by simpa [Value.ownBlock] using ej
   rw [f] at hj;cases hj;rfl
 ·exact (Below.heap_setCell w1 ⟨Bo,0,none⟩ v' b hbo).trans (d.block b hb)
end Go.Proofs.YthipcinibldgnaaGreat
