/- Lists of points in slices of the call's own. -/
import Derived.OwnWalk
import Derived.Laws.OwnMore
import Derived.Test.YthipcinibldgnaaGreatBin04
import Derived.Test.YthipcinibldgnaaGreatBin05
namespace Go.Proofs.YthipcinibldgnaaGreat
open Go.RowKit
theorem ptInfo:(Tryz.prog.info? 36).map (fun i=>(i.zero,i.size,i.bytes))=some (some (.agg #[.int .i64 0,.int .i64 0]),2,16):=by kernel_rfl
def Za (l:List Pt):List Value:=l.flatMap fun a=>[.int .i64 a.x,.int .i64 a.y]
theorem Zy:∀ l:List Pt,(Za l).length=l.length*2
 | []=>rfl
 | a :: l => by
  have:=Zy l;simp only [Za,List.flatMap_cons,List.length_append,List.length_cons,List.length_nil] at *;omega
theorem ZV (l m:List Pt):Za (l++m)=Za l++Za m:=by simp [Za]
theorem Z17:∀ l:List Pt,∀ u ∈ Za l,u.oneCell'=true
 | [],u,h=>by simp [Za] at h
 | a :: l, u, h => by
  simp only [Za,List.flatMap_cons,List.mem_append] at h;rcases h with h | h
  ·simp only [List.mem_cons,List.not_mem_nil,or_false] at h
   rcases h with rfl | rfl <;> rfl
  ·exact Z17 l u h
theorem Z0e:∀ (l:List Pt) (j:Nat),j<l.length->(Za l)[j*2]?=some (.int .i64 (nth l j).x)/\(Za l)[j*2+1]?=some (.int .i64 (nth l j).y)
 | [],j,h=>by simp at h
 | a::l,0,h=>by simp [Za,nth]
 | a :: l, j + 1, h => by
  have ih:=Z0e l j (by simpa using h)
  have e:∀ c,(Za (a::l))[(j+1)*2+c]?=(Za l)[j*2+c]?:=fun c=>by
   simp only [Za,List.flatMap_cons];rw [List.getElem?_append_right (by simp;omega)]
   congr 1
   simp;omega
  have e0:=e 0;simp only [Nat.add_zero] at e0;have w:nth (a::l) (j+1)=nth l j:=by simp [nth]
  rw [e0,e 1,w];exact ih
theorem Z7v {W:World} {b o:Nat} {l:List Pt} (h:∀ j,j<l.length->W.cell? ⟨b,o+j*2,none⟩=some (.int .i64 (nth l j).x)/\W.cell? ⟨b,o+j*2+1,none⟩=some (.int .i64 (nth l j).y)) :
  ∀ j u,(Za l)[j]?=some u->W.cell? ((⟨b,o,none⟩:Addr).add j)=some u:=by
 intro j u hu;have a:j<(Za l).length:=(List.getElem?_eq_some_iff.1 hu).1;rw [Zy] at a;have e:(⟨b,o,none⟩:Addr).add j=⟨b,o+j,none⟩:=by unfold Addr.add;split <;> simp_all
 rw [e];obtain⟨q,r,i,rfl⟩:∃ q r,r<2/\j=q*2+r:=⟨j / 2,j % 2,Nat.mod_lt _ (by omega),by omega⟩
 have c:q<l.length:=by omega
 obtain⟨g,d⟩:=Z0e l q c;obtain⟨k,f⟩:=h q c;rw [<- Nat.add_assoc]
 match r,i with
 | 0,_=>rw [Nat.add_zero] at hu ⊢;rw [g] at hu;rw [k];exact hu
 | 1,_=>rw [d] at hu;rw [f];exact hu
theorem Z0q {W W':World} {base n size:Nat} {e:TypeId} {v:Value} {xs:List Value} (h:W.ownsRow base e size v n xs) (hb:∀ g,v.ownBlock=some g->W'.heap[g]?=W.heap[g]?):W'.ownsRow base e size v n xs:=by
 rcases h.2 with b | ⟨d,a,c,b,f,j,i⟩
 ·exact⟨h.1,.inl b⟩
 ·subst b
  exact⟨h.1,.inr ⟨d,a,c,rfl,f,(hb d rfl).trans j,i⟩⟩
theorem Z8u {W:World} {base n size:Nat} {e:TypeId} {v:Value} {xs:List Value} (h:W.ownsRow base e size v n xs) (h0:0<n):∃ g cap,v=.slice (some ⟨g,0,none⟩) n cap:=by
 rcases h.2 with⟨_,a⟩ | ⟨g,cap,b,a,_⟩
 ·omega
 ·exact⟨g,cap,a⟩
theorem Zz {W W':World} {base n size:Nat} {e:TypeId} {v:Value} {xs:List Value} (h:W.ownsRow base e size v n xs) (hb:Below W.heap.size W W'):W'.ownsRow base e size v n xs :=
 Z0q h fun g hg=>hb.block g (h.lt g hg).2
theorem Z7.own {W:World} {base n:Nat} {v:Value} {l:List Pt} (h:W.ownsRow base 36 2 v n (Za l)) (hl:l.length<=70368744177663):Z7 W.heap.size W v l:=by
 have b:l.length=n:=by have:=h.1;rw [Zy] at this;omega
 refine⟨hl,?_⟩;rcases h.2 with⟨rfl,d⟩ | ⟨g,a,i,rfl,_,f,k,_⟩
 ·exact⟨none,0,by rw [b,d],.inl (List.eq_nil_of_length_eq_zero (by omega))⟩
 ·refine⟨some ⟨g,0,none⟩,a-n,by rw [b,show n+(a-n)=a by omega],.inr ⟨g,0,rfl,(Array.getElem?_eq_some_iff.1 f).1,fun j hj=>?_⟩⟩
  obtain⟨e,c⟩:=Z0e l j hj;rw [Nat.zero_add];exact⟨(h.cellAt (j*2) (by omega)).trans e,(h.cellAt (j*2+1) (by omega)).trans c⟩
theorem Z7.nil (n0:Nat) (W:World):Z7 n0 W (.slice none 0 0) []:=⟨by simp,none,0,rfl,.inl rfl⟩
theorem Z7.len {n0:Nat} {W:World} {v:Value} {l:List Pt} (h:Z7 n0 W v l):∃ a cap,v=.slice a l.length (l.length+cap):=by
 obtain⟨_,a,cap,e,_⟩:=h;exact⟨a,cap,e⟩
def PtsQ (l:List Pt) (w:World) (e:Ending) (w':World):Prop:=∃ v,e=.returned v/\Z7 w'.heap.size w' v l/\Below w.heap.size w w'
def PtsN (l:List Pt) (w:World) (e:Ending) (w':World):Prop:=∃ v,e=.returned v/\Z7 w'.heap.size w' v l/\Below w.heap.size w w'/\NewI w.heap.size v
end Go.Proofs.YthipcinibldgnaaGreat
