/- Arguments opened: lists of points, of ways, of polygons, of integers; missions. | Closed facts of the row of the law: A vehicle that is driven off .. -/
import Derived.ProofKit
import Derived.OpenShut
import Derived.ChangeOld
import Derived.SizedLaws
import Derived.Deep.Slices
import Derived.Deep.Fields
import Derived.Test.YthipcinibldgnaaGreatBin05
namespace Go.Proofs.YthipcinibldgnaaGreat
open Go.RowKit Go.ChangeShapes Go.WideShapes Go.Deep
set_option maxRecDepth 8000
instance openPt:Inhabited Pt:=⟨⟨0,0⟩⟩
theorem cellsPt:Tryz.prog.cellsOf 36=2:=by kernel_rfl
theorem bytesPt:Tryz.prog.bytesOf 36=16:=by kernel_rfl
theorem cellsWy:Tryz.prog.cellsOf 65=5:=by kernel_rfl
theorem bytesWy:Tryz.prog.bytesOf 65=40:=by kernel_rfl
theorem cellsPs:Tryz.prog.cellsOf 23=1:=by kernel_rfl
theorem bytesPs:Tryz.prog.bytesOf 23=24:=by kernel_rfl
theorem cellsInt:Tryz.prog.cellsOf 3=1:=by kernel_rfl
theorem bytesInt:Tryz.prog.bytesOf 3=8:=by kernel_rfl
theorem cellsMsn:Tryz.prog.cellsOf 26=11:=by kernel_rfl
theorem u8_bd {i:Int} (h:(Lit.int .u8 i).wf=true):∃ k:Nat,i=k/\k<=255:=by
 simp [Lit.wf,IntKind.min,IntKind.max,IntKind.signed,IntKind.bits] at h;exact⟨i.toNat,by omega,by omega⟩
theorem Z9S {i n:Nat} (h:0<n):∃ a:Nat,((i:Int)).tmod (n:Int)=(a:Int)/\a<n/\(i:Int) % (n:Int)=(a:Int):=by
 refine⟨i % n,?_,Nat.mod_lt _ h,rfl⟩;rw [Int.tmod_eq_emod_of_nonneg (by omega)];rfl
theorem Z34:reachBytes=140737488351232:=rfl
section
variable {H:Type} {enc:TypeId × Value->H} {w:World} {base:Nat} {spare:Nat->Bool} {held:Bool}
theorem Z3h {P:Program} {e:TypeId}:∀ {ds:List (DataW H)} {d:DataW H},d ∈ ds->∀ n ∈ d.weights P e,n ∈ DataW.weightsAll P e ds
 | d0 :: ds, d, hd, n, hn => by
  simp only [DataW.weightsAll,List.mem_append];rcases List.mem_cons.1 hd with rfl | h
  ·exact .inl hn
  ·exact .inr (Z3h h n hn)
theorem Z36 {t e:TypeId} {fuel:Nat} {v:Value} {x:DataW H × List MemPlace} (ht:Tryz.prog.underlying t=some (.slice e)) (hc:0<Tryz.prog.cellsOf e) (h:DataW.trod enc Tryz.prog w base spare held fuel t [v]=some x) (hz:∀ n ∈ x.1.weights Tryz.prog t,n<=reachBytes) :
  ∃ (a : Option Addr) (len cap : Nat) (C : Nat -> List Value) (D : Nat -> DataW H × List MemPlace), v = .slice a len (len + cap) /\ len * Tryz.prog.bytesOf e <= reachBytes /\ (len = 0 \/ ∃ b o, a = some ⟨b, o, none⟩ /\ b < w.heap.size /\
   ∀ i,i<len->(C i).length=Tryz.prog.cellsOf e/\(∃ n,DataW.trod enc Tryz.prog w base spare held n e (C i)=some (D i))/\(∀ n ∈ (D i).1.weights Tryz.prog e,n<=reachBytes)/\∀ j,j<Tryz.prog.cellsOf e->w.cell? ⟨b,o+i*Tryz.prog.cellsOf e+j,none⟩=(C i)[j]?):=by
 rcases open_slice ht h with⟨I,_⟩ | ⟨a,len,cap,m,n,D,K,I,S,T,R,A,rfl,Q⟩
 ·obtain rfl:v=.slice none 0 0:=by simpa using I
  exact⟨none,0,0,fun _=>[],fun _=>(.nil,[]),rfl,by simp,.inl rfl⟩
 ·obtain rfl:v=.slice (some a) len cap:=by simpa using I
  have G:len<=m:=by rw [A];split <;> omega
  have J:((List.range len).map D).length+((List.range (m-len)).map fun j=>D (len+j)).length=m:=by simp;omega
  simp only [DataW.weights,ht] at hz;have c:=hz _ (List.mem_cons_self ..);rw [J] at c;obtain⟨C,L⟩:=choose_lt (α:=List Value) (p:=fun i cs'=>w.cells? base (a.add (i*Tryz.prog.cellsOf e)) (Tryz.prog.cellsOf e)=some cs'/\DataW.trod enc Tryz.prog w base spare held n e cs'=some (D i,K i)) Q
  refine⟨some a,len,cap-len,C,fun i=>(D i,K i),by rw [show len+(cap-len)=cap by omega],Nat.le_trans (Nat.mul_le_mul_right _ G) c,?_⟩
  rcases Nat.eq_zero_or_pos len with N | M
  ·exact .inl N
  ·right
   obtain⟨b,o,s⟩:=a;obtain⟨y,_⟩:=L 0 (by omega)
   obtain⟨_,F,f⟩:=World.cells?_some y;have g:=f 0 hc;have z:∃ u,(C 0)[0]?=some u:=⟨_,List.getElem?_eq_getElem (by omega)⟩
   obtain⟨u,P⟩:=z;rw [P] at g;have q:((⟨b,o,s⟩:Addr).add (0*Tryz.prog.cellsOf e)).add 0=⟨b,o,s⟩:=by simp [Addr.add]
   rw [q] at g;obtain rfl:s=none:=World.cell?_spot g;have r:=World.block_lt_of_cell? w _ g;refine⟨b,o,rfl,r,fun i hil=>?_⟩
   obtain⟨B,E⟩:=L i (by omega)
   obtain⟨_,l,d⟩:=World.cells?_some B;refine⟨l,⟨n,E⟩,fun k hk=>hz k (List.mem_cons_of_mem _ (List.mem_append_left _ (Z3h (List.mem_map.2 ⟨i,List.mem_range.2 hil,rfl⟩) k hk))),fun j hj=>?_⟩
   have:=d j hj;rw [Go.Deep.add_add] at this;rw [<- this]
   congr 1
   unfold Addr.add
   split
   ·rename_i h;rw [show o+i*Tryz.prog.cellsOf e+j=o by omega]
   ·simp [Nat.add_assoc]
theorem Z9K {fuel:Nat} {cs:List Value} {x:DataW H × List MemPlace} (h:DataW.trod enc Tryz.prog w base spare held fuel 36 cs=some x):∃ p:Pt,cs=[.int .i64 p.x,.int .i64 p.y]:=by
 obtain⟨e,n,_,_,c,d,f⟩:=DataW.trod_struct Tryz.underlying36 h;rw [cellsPt] at c
 match cs,c with
 | [c0, c1], _ =>
  have m:=f 0 _ rfl;have k:=f 1 _ rfl;have j:e[0]?=some (e[0]'(by rw [d];decide)):=List.getElem?_eq_getElem _
  have l:e[1]?=some (e[1]'(by rw [d];decide)):=List.getElem?_eq_getElem _
  obtain⟨a,i,_⟩:=DataW.trod_int Tryz.underlying3 (m.trans j);obtain⟨b,g,_⟩:=DataW.trod_int Tryz.underlying3 (k.trans l);simp [cellsInt] at i g;exact⟨⟨a,b⟩,by rw [i,g]⟩
theorem ZcM {fuel:Nat} {cs:List Value} {x:DataW H × List MemPlace} (h:DataW.trod enc Tryz.prog w base spare held fuel 65 cs=some x):∃ a:Wy,cs=[.int .i64 a.x,.int .i64 a.y,.int .i64 a.fix,.int .i64 a.wait,.int .i64 a.back]:=by
 obtain⟨f,n,_,_,e,d,g⟩:=DataW.trod_struct Tryz.underlying65 h;rw [cellsWy] at e
 match cs,e with
 | [c0, c1, c2, c3, c4], _ =>
  have u:=g 0 _ rfl;have s:=g 1 _ rfl;have v:=g 2 _ rfl;have r:=g 3 _ rfl;have m:f[0]?=some (f[0]'(by rw [d];decide)):=List.getElem?_eq_getElem _
  have t:f[1]?=some (f[1]'(by rw [d];decide)):=List.getElem?_eq_getElem _
  have o:f[2]?=some (f[2]'(by rw [d];decide)):=List.getElem?_eq_getElem _
  have q:f[3]?=some (f[3]'(by rw [d];decide)):=List.getElem?_eq_getElem _
  obtain⟨p,i⟩:=Z9K (u.trans m);obtain⟨a,l,_⟩:=DataW.trod_int Tryz.underlying3 (s.trans t);obtain⟨b,j,_⟩:=DataW.trod_int Tryz.underlying3 (v.trans o);obtain⟨c,k,_⟩:=DataW.trod_int Tryz.underlying3 (r.trans q);simp [cellsInt,cellsPt] at i l j k;exact⟨⟨p.x,p.y,a,b,c⟩,by rw [i.1,i.2,l,j,k]⟩
theorem Z52 {fuel:Nat} {v:Value} {x:DataW H × List MemPlace} (h:DataW.trod enc Tryz.prog w base spare held fuel 23 [v]=some x) (hz:∀ n ∈ x.1.weights Tryz.prog 23,n<=reachBytes) :
  ∃ l:List Pt,Z7 w.heap.size w v l:=by
 obtain⟨a,d,f,C,D,rfl,g,t⟩:=Z36 Tryz.underlying23 (by rw [cellsPt];decide) h hz
 rw [bytesPt,Z34] at g;rcases t with rfl | ⟨b,o,rfl,r,k⟩
 ·exact⟨[],by simp,a,f,rfl,.inl rfl⟩
 ·obtain⟨p,m⟩:=choose_lt (α:=Pt) (p:=fun i p=>C i=[.int .i64 p.x,.int .i64 p.y]) (fun i hil=>by obtain⟨_,⟨n,s⟩,_⟩:=k i hil;exact Z9K s)
  have q:∀ i,i<d->nth ((List.range d).map p) i=p i:=fun i hil=>by simp [nth,List.getD,hil]
  refine⟨(List.range d).map p,by simp;omega,some ⟨b,o,none⟩,f,by simp,.inr ⟨b,o,rfl,r,fun j hj=>?_⟩⟩
  have e:j<d:=by simpa using hj
  obtain⟨_,_,_,c⟩:=k j e;rw [cellsPt,m j e] at c;rw [q j e];exact⟨c 0 (by decide),c 1 (by decide)⟩
theorem Z9J {fuel:Nat} {v:Value} {x:DataW H × List MemPlace} (h:DataW.trod enc Tryz.prog w base spare held fuel 22 [v]=some x) (hz:∀ n ∈ x.1.weights Tryz.prog 22,n<=reachBytes) :
  ∃ l:List Wy,WaysAt w.heap.size w v l:=by
 obtain⟨a,d,f,C,D,rfl,g,z⟩:=Z36 Tryz.underlying22 (by rw [cellsWy];decide) h hz
 rw [bytesWy,Z34] at g;rcases z with rfl | ⟨b,o,rfl,t,m⟩
 ·exact⟨[],by simp,a,f,rfl,.inl rfl⟩
 ·obtain⟨p,r⟩:=choose_lt (α:=Option Wy) (p:=fun i q=>∃ a:Wy,q=some a/\C i=[.int .i64 a.x,.int .i64 a.y,.int .i64 a.fix,.int .i64 a.wait,.int .i64 a.back]) (fun i hil=>by obtain⟨_,⟨n,u⟩,_⟩:=m i hil;obtain⟨a,k⟩:=ZcM u;exact⟨some a,a,rfl,k⟩)
  have s:∀ i,i<d->C i=[.int .i64 (wy ((List.range d).map fun i=>(p i).getD ⟨0,0,0,0,0⟩) i).x,.int .i64 (wy ((List.range d).map fun i=>(p i).getD ⟨0,0,0,0,0⟩) i).y,.int .i64 (wy ((List.range d).map fun i=>(p i).getD ⟨0,0,0,0,0⟩) i).fix,.int .i64 (wy ((List.range d).map fun i=>(p i).getD ⟨0,0,0,0,0⟩) i).wait,.int .i64 (wy ((List.range d).map fun i=>(p i).getD ⟨0,0,0,0,0⟩) i).back]:=fun i hil=>by
   obtain⟨a,k,A⟩:=r i hil;have:wy ((List.range d).map fun i=>(p i).getD ⟨0,0,0,0,0⟩) i=a:=by simp [wy,List.getD,hil,k]
   rw [this];exact A
  refine⟨(List.range d).map fun i=>(p i).getD ⟨0,0,0,0,0⟩,by simp;omega,some ⟨b,o,none⟩,f,by simp,.inr ⟨b,o,rfl,t,fun j hj=>?_⟩⟩
  have e:j<d:=by simpa using hj
  obtain⟨_,_,_,c⟩:=m j e;rw [cellsWy,s j e] at c;exact⟨c 0 (by decide),c 1 (by decide),c 2 (by decide),c 3 (by decide),c 4 (by decide)⟩
theorem Z8y {fuel : Nat} {v : Value} {x : DataW H × List MemPlace} (h : DataW.trod enc Tryz.prog w base spare held fuel 24 [v] = some x) (hz : ∀ n ∈ x.1.weights Tryz.prog 24, n <= reachBytes) :
  ∃ l:List (List Pt),Z6 w.heap.size w v l:=by
 obtain⟨a,e,g,C,D,rfl,k,A⟩:=Z36 Tryz.underlying24 (by rw [cellsPs];decide) h hz
 rw [bytesPs,Z34] at k;rcases A with rfl | ⟨b,o,rfl,z,B⟩
 ·exact⟨[],by simp,a,g,rfl,.inl rfl⟩
 ·obtain⟨p,t⟩:=choose_lt (α:=List Pt) (p:=fun i l=>∃ u,w.cell? ⟨b,o+i,none⟩=some u/\Z7 w.heap.size w u l) (fun i hil=>by
   obtain⟨s,⟨n,r⟩,m,d⟩:=B i hil;rw [cellsPs] at s d
   match hC:C i,s with
   | [c], _ =>
    rw [hC] at r d;obtain⟨l,q⟩:=Z52 r m;exact⟨l,c,by simpa using d 0 (by decide),q⟩)
  have y:∀ i,i<e->rk ((List.range e).map p) i=p i:=fun i hil=>by simp [rk,List.getD,hil]
  refine⟨(List.range e).map p,by simp;omega,some ⟨b,o,none⟩,g,by simp,.inr ⟨b,o,rfl,z,fun j hj=>?_⟩⟩
  have f:j<e:=by simpa using hj
  rw [y j f];exact t j f
theorem Z9L {fuel:Nat} {v:Value} {x:DataW H × List MemPlace} (h:DataW.trod enc Tryz.prog w base spare held fuel 29 [v]=some x) (hz:∀ n ∈ x.1.weights Tryz.prog 29,n<=reachBytes) :
  ∃ l:List Int,Z8 w.heap.size w v l:=by
 obtain⟨a,d,f,C,D,rfl,g,u⟩:=Z36 Tryz.underlying29 (by rw [cellsInt];decide) h hz
 rw [bytesInt,Z34] at g;rcases u with rfl | ⟨b,o,rfl,s,y⟩
 ·exact⟨[],by simp,a,f,rfl,.inl rfl⟩
 ·obtain⟨p,q⟩:=choose_lt (α:=Int) (p:=fun i n=>w.cell? ⟨b,o+i,none⟩=some (.int .i64 n)) (fun i hil=>by
   obtain⟨z,⟨n,t⟩,r,c⟩:=y i hil;obtain⟨k,m,_⟩:=DataW.trod_int Tryz.underlying3 t;rw [cellsInt,m] at c;exact⟨k,by simpa using c 0 (by decide)⟩)
  refine⟨(List.range d).map p,by simp;omega,some ⟨b,o,none⟩,f,by simp,.inr ⟨b,o,rfl,s,fun j hj=>?_⟩⟩
  have e:j<d:=by simpa using hj
  rw [q j e];simp [List.getD,e]
theorem ZbA {b0:Nat} {v:Value} {d:DataW H} {p:List MemPlace} (hv:Value.okWide Tryz.prog w .any b0 26 v) (h:DataW.Trod enc Tryz.prog w base spare held 26 v d p) (hz:∀ n ∈ d.weights Tryz.prog 26,n<=reachBytes) :
  ∃ (m:Msn) (vw vh vr:Value),v=.agg (Zc m vw vh vr)/\MsnAt w.heap.size w m vw vh vr:=by
 obtain⟨Q,rfl,o⟩:=okWide_struct Tryz.underlying26 hv;obtain⟨l⟩:=Q;rw [cellsMsn] at o;obtain⟨z,I⟩:=h;obtain⟨T,n,_,D,_,u,a⟩:=DataW.trod_struct Tryz.underlying26 I;simp only [Prod.mk.injEq] at D;obtain⟨rfl,rfl⟩:=D;simp only [DataW.weights,Tryz.underlying26] at hz
 match l,o with
 | [c0, c1, c2, c3, c4, c5, c6, c7, c8, c9, c10], _ =>
  match T,u with
  | [x0, x1, x2, x3, x4, x5, x6, x7, x8, x9, x10], _ =>
   have M:=a 0 _ rfl;have K:=a 1 _ rfl;have U:=a 3 _ rfl;have t:=fun k hk=>hz k (DataW.weights_mem_each (j:=0) rfl rfl k hk)
   have s:=fun k hk=>hz k (DataW.weights_mem_each (j:=1) rfl rfl k hk)
   have r:=fun k hk=>hz k (DataW.weights_mem_each (j:=3) rfl rfl k hk)
   obtain⟨g,c⟩:=Z9J M t;obtain⟨q,f⟩:=Z52 K s;obtain⟨e,b⟩:=Z8y U r;obtain⟨R,E,_⟩:=DataW.trod_int Tryz.underlying3 (a 2 _ rfl);obtain⟨S,B,_⟩:=DataW.trod_int Tryz.underlying3 (a 4 _ rfl);obtain⟨J,F,_⟩:=DataW.trod_int Tryz.underlying3 (a 5 _ rfl);obtain⟨P,A,_⟩:=DataW.trod_int Tryz.underlying3 (a 6 _ rfl);obtain⟨N,C,_⟩:=DataW.trod_int Tryz.underlying3 (a 7 _ rfl);obtain⟨V,G,_⟩:=DataW.trod_int Tryz.underlying3 (a 8 _ rfl);obtain⟨L,y,_⟩:=DataW.trod_int Tryz.underlying3 (a 9 _ rfl);obtain⟨x,i,_⟩:=DataW.trod_int Tryz.underlying3 (a 10 _ rfl);simp [cellsInt,Value.cells] at E B F A C G y i;exact⟨⟨g,q,R,e,S,J,P,N,V,L,x⟩,c0,c1,c3,by rw [E,B,F,A,C,G,y,i];rfl,c,f,b⟩
theorem Z53 {b0:Nat} {v:Value} {d:DataW H} {p:List MemPlace} (hv:Value.okWide Tryz.prog w .any b0 29 v) (h:DataW.Trod enc Tryz.prog w base spare held 29 v d p) (hz:∀ n ∈ d.weights Tryz.prog 29,n<=reachBytes) :
  ∃ l:List Int,Z8 w.heap.size w v l:=by
 obtain⟨b,c⟩:=h;obtain⟨a,n,m,rfl⟩:=okWide_slice Tryz.underlying29 hv;exact Z9L (x:=(d,p)) (by simpa [Value.cells] using c) hz
theorem Z5T {b0:Nat} {v:Value} {d:DataW H} {p:List MemPlace} (hv:Value.okWide Tryz.prog w .any b0 23 v) (h:DataW.Trod enc Tryz.prog w base spare held 23 v d p) (hz:∀ n ∈ d.weights Tryz.prog 23,n<=reachBytes) :
  ∃ l:List Pt,Z7 w.heap.size w v l:=by
 obtain⟨b,c⟩:=h;obtain⟨a,n,m,rfl⟩:=okWide_slice Tryz.underlying23 hv;exact Z52 (x:=(d,p)) (by simpa [Value.cells] using c) hz
end
end Go.Proofs.YthipcinibldgnaaGreat
namespace Go.Proofs.YthipcinibldgnaaGreat.topStays
section
open Go.ChangeShapes Go.WideShapes Go.ChangeAt Go.RowKit
set_option maxRecDepth 100000 in
theorem Z8C:(Rows.topStaysRow.inPlace == Tryz.pinned.checked.prog.inPlace 4)=true:=by kernel_rfl
set_option maxRecDepth 100000 in
theorem Z5f:(Rows.topStaysRow.unfollowed == Tryz.pinned.checked.prog.unfollowed 4)=true:=by kernel_rfl
set_option maxRecDepth 100000 in
theorem Z6T:(Rows.topStaysRow.recurses == Tryz.pinned.checked.prog.recurses 4)=true:=by kernel_rfl
set_option maxRecDepth 100000 in
theorem ZbL:(Rows.topStaysRow.named == Tryz.pinned.checked.prog.varsNamed 4)=true:=by kernel_rfl
set_option maxRecDepth 100000 in
set_option maxHeartbeats 4000000 in
theorem jf:joinedFacts Tryz.pinned.checked.prog 4 Tryz.f4 Rows.topStaysSpec Rows.topStaysRow=true:=by
 unfold joinedFacts;rw [Z8C,Z5f,Z6T,ZbL];simp only [Bool.and_eq_true]
 repeat' apply And.intro
 all_goals (first | exact True.intro | (as_aux_lemma=>kernel_rfl))
end
end Go.Proofs.YthipcinibldgnaaGreat.topStays
