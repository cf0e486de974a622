/- Arguments opened: lists of points, of ways, of polygons, of integers; missions. | Scenes opened. | Closed facts of the row of the law: The place of .. -/
import Derived.ProofKit
import Derived.OpenShut
import Derived.ChangeOld
import Derived.SizedLaws
import Derived.Deep.Slices
import Derived.Deep.Fields
import Derived.Test.YtdolkgihppgpcaaGreatBin05
namespace Go.Proofs.YtdolkgihppgpcaaGreat
section
open Go.RowKit Go.ChangeShapes Go.WideShapes Go.Deep
set_option maxRecDepth 8000
instance openPt:Inhabited Pt:=⟨⟨0,0⟩⟩
theorem cellsPt:Tryz.prog.cellsOf 31=2:=by kernel_rfl
theorem bytesPt:Tryz.prog.bytesOf 31=16:=by kernel_rfl
theorem cellsWy:Tryz.prog.cellsOf 52=5:=by kernel_rfl
theorem bytesWy:Tryz.prog.bytesOf 52=40:=by kernel_rfl
theorem cellsPs:Tryz.prog.cellsOf 23=1:=by kernel_rfl
theorem bytesPs:Tryz.prog.bytesOf 23=24:=by kernel_rfl
theorem cellsInt:Tryz.prog.cellsOf 3=1:=by kernel_rfl
theorem bytesInt:Tryz.prog.bytesOf 3=8:=by kernel_rfl
theorem cellsMsn:Tryz.prog.cellsOf 26=11:=by kernel_rfl
theorem Z29:reachBytes=140737488351232:=rfl
section
variable {H:Type} {enc:TypeId × Value→H} {w:World} {base:Nat} {spare:Nat→Bool} {held:Bool}
theorem Z2i {P:Program} {e:TypeId}:∀ {ds:List (DataW H)} {d:DataW H},d ∈ ds→∀ n ∈ d.weights P e,n ∈ DataW.weightsAll P e ds
 | d0 :: ds, d, hd, n, hn => by
  simp only [DataW.weightsAll,List.mem_append];rcases List.mem_cons.1 hd with rfl | h
  ·exact .inl hn
  ·exact .inr (Z2i h n hn)
theorem Z2a {t e:TypeId} {fuel:Nat} {v:Value} {x:DataW H × List MemPlace} (ht:Tryz.prog.underlying t=some (.slice e)) (hc:0<Tryz.prog.cellsOf e) (h:DataW.trod enc Tryz.prog w base spare held fuel t [v]=some x) (hz:∀ n ∈ x.1.weights Tryz.prog t,n≤reachBytes) :
  ∃ (a : Option Addr) (len cap : Nat) (C : Nat → List Value) (D : Nat → DataW H × List MemPlace), v = .slice a len (len + cap) ∧ len * Tryz.prog.bytesOf e ≤ reachBytes ∧ (len = 0 ∨ ∃ b o, a = some ⟨b, o, none⟩ ∧ b < w.heap.size ∧
   ∀ i,i<len→(C i).length=Tryz.prog.cellsOf e∧(∃ n,DataW.trod enc Tryz.prog w base spare held n e (C i)=some (D i))∧(∀ n ∈ (D i).1.weights Tryz.prog e,n≤reachBytes)∧∀ j,j<Tryz.prog.cellsOf e→w.cell? ⟨b,o+i*Tryz.prog.cellsOf e+j,none⟩=(C i)[j]?):=by
 rcases open_slice ht h with⟨h1,_⟩ | ⟨a,len,cap,m,n,D,Pl,h1,hb,hl,hm,hmm,rfl,hi⟩
 ·obtain rfl:v=.slice none 0 0:=by simpa using h1
  exact⟨none,0,0,fun _=>[],fun _=>(.nil,[]),rfl,by simp,.inl rfl⟩
 ·obtain rfl:v=.slice (some a) len cap:=by simpa using h1
  have hlm:len≤m:=by rw [hmm];split <;> omega
  have hw1:((List.range len).map D).length+((List.range (m-len)).map fun j=>D (len+j)).length=m:=by simp;omega
  simp only [DataW.weights,ht] at hz;have hbytes:=hz _ (List.mem_cons_self ..);rw [hw1] at hbytes;obtain⟨C,hC⟩:=choose_lt (α:=List Value) (p:=fun i cs'=>w.cells? base (a.add (i*Tryz.prog.cellsOf e)) (Tryz.prog.cellsOf e)=some cs'∧DataW.trod enc Tryz.prog w base spare held n e cs'=some (D i,Pl i)) hi
  refine⟨some a,len,cap-len,C,fun i=>(D i,Pl i),by rw [show len+(cap-len)=cap by omega],Nat.le_trans (Nat.mul_le_mul_right _ hlm) hbytes,?_⟩
  rcases Nat.eq_zero_or_pos len with h0 | hpos
  ·exact .inl h0
  ·right
   obtain⟨b,o,sp⟩:=a;obtain⟨hc0,_⟩:=hC 0 (by omega)
   obtain⟨_,hlen0,hcell0⟩:=World.cells?_some hc0;have h00:=hcell0 0 hc;have hex:∃ u,(C 0)[0]?=some u:=⟨_,List.getElem?_eq_getElem (by omega)⟩
   obtain⟨u,hu⟩:=hex;rw [hu] at h00;have hadd:((⟨b,o,sp⟩:Addr).add (0*Tryz.prog.cellsOf e)).add 0=⟨b,o,sp⟩:=by simp [Addr.add]
   rw [hadd] at h00;obtain rfl:sp=none:=World.cell?_spot h00;have hblt:=World.block_lt_of_cell? w _ h00;refine⟨b,o,rfl,hblt,fun i hil=>?_⟩
   obtain⟨hci,hti⟩:=hC i (by omega)
   obtain⟨_,hleni,hcelli⟩:=World.cells?_some hci;refine⟨hleni,⟨n,hti⟩,fun k hk=>hz k (List.mem_cons_of_mem _ (List.mem_append_left _ (Z2i (List.mem_map.2 ⟨i,List.mem_range.2 hil,rfl⟩) k hk))),fun j hj=>?_⟩
   have:=hcelli j hj;rw [Go.Deep.add_add] at this;rw [← this]
   congr 1
   unfold Addr.add
   split
   ·rename_i h;rw [show o+i*Tryz.prog.cellsOf e+j=o by omega]
   ·simp [Nat.add_assoc]
theorem Z50 {fuel:Nat} {cs:List Value} {x:DataW H × List MemPlace} (h:DataW.trod enc Tryz.prog w base spare held fuel 31 cs=some x):∃ p:Pt,cs=[.int .i64 p.x,.int .i64 p.y]:=by
 obtain⟨xs,n,_,_,hlen,hxl,hf⟩:=DataW.trod_struct Tryz.underlying31 h;rw [cellsPt] at hlen
 match cs,hlen with
 | [c0, c1], _ =>
  have g0:=hf 0 _ rfl;have g1:=hf 1 _ rfl;have l0:xs[0]?=some (xs[0]'(by rw [hxl];decide)):=List.getElem?_eq_getElem _
  have l1:xs[1]?=some (xs[1]'(by rw [hxl];decide)):=List.getElem?_eq_getElem _
  obtain⟨a,ha,_⟩:=DataW.trod_int Tryz.underlying3 (g0.trans l0);obtain⟨b,hb,_⟩:=DataW.trod_int Tryz.underlying3 (g1.trans l1);simp [cellsInt] at ha hb;exact⟨⟨a,b⟩,by rw [ha,hb]⟩
theorem Z9T {fuel:Nat} {cs:List Value} {x:DataW H × List MemPlace} (h:DataW.trod enc Tryz.prog w base spare held fuel 52 cs=some x):∃ a:Wy,cs=[.int .i64 a.x,.int .i64 a.y,.int .i64 a.fix,.int .i64 a.wait,.int .i64 a.back]:=by
 obtain⟨xs,n,_,_,hlen,hxl,hf⟩:=DataW.trod_struct Tryz.underlying52 h;rw [cellsWy] at hlen
 match cs,hlen with
 | [c0, c1, c2, c3, c4], _ =>
  have g0:=hf 0 _ rfl;have g1:=hf 1 _ rfl;have g2:=hf 2 _ rfl;have g3:=hf 3 _ rfl;have l0:xs[0]?=some (xs[0]'(by rw [hxl];decide)):=List.getElem?_eq_getElem _
  have l1:xs[1]?=some (xs[1]'(by rw [hxl];decide)):=List.getElem?_eq_getElem _
  have l2:xs[2]?=some (xs[2]'(by rw [hxl];decide)):=List.getElem?_eq_getElem _
  have l3:xs[3]?=some (xs[3]'(by rw [hxl];decide)):=List.getElem?_eq_getElem _
  obtain⟨p,hp⟩:=Z50 (g0.trans l0);obtain⟨a,ha,_⟩:=DataW.trod_int Tryz.underlying3 (g1.trans l1);obtain⟨b,hb,_⟩:=DataW.trod_int Tryz.underlying3 (g2.trans l2);obtain⟨c,hc,_⟩:=DataW.trod_int Tryz.underlying3 (g3.trans l3);simp [cellsInt,cellsPt] at hp ha hb hc;exact⟨⟨p.x,p.y,a,b,c⟩,by rw [hp.1,hp.2,ha,hb,hc]⟩
theorem Z5Q {fuel:Nat} {v:Value} {x:DataW H × List MemPlace} (h:DataW.trod enc Tryz.prog w base spare held fuel 23 [v]=some x) (hz:∀ n ∈ x.1.weights Tryz.prog 23,n≤reachBytes) :
  ∃ l:List Pt,Z8 w.heap.size w v l:=by
 obtain⟨a,len,cap,C,D,rfl,hlen,hr⟩:=Z2a Tryz.underlying23 (by rw [cellsPt];decide) h hz
 rw [bytesPt,Z29] at hlen;rcases hr with rfl | ⟨b,o,rfl,hb,hi⟩
 ·exact⟨[],by simp,a,cap,rfl,.inl rfl⟩
 ·obtain⟨p,hp⟩:=choose_lt (α:=Pt) (p:=fun i p=>C i=[.int .i64 p.x,.int .i64 p.y]) (fun i hil=>by obtain⟨_,⟨n,ht⟩,_⟩:=hi i hil;exact Z50 ht)
  have hn:∀ i,i<len→nth ((List.range len).map p) i=p i:=fun i hil=>by simp [nth,List.getD,hil]
  refine⟨(List.range len).map p,by simp;omega,some ⟨b,o,none⟩,cap,by simp,.inr ⟨b,o,rfl,hb,fun j hj=>?_⟩⟩
  have hj':j<len:=by simpa using hj
  obtain⟨_,_,_,hcell⟩:=hi j hj';rw [cellsPt,hp j hj'] at hcell;rw [hn j hj'];exact⟨hcell 0 (by decide),hcell 1 (by decide)⟩
theorem Z7n {fuel:Nat} {v:Value} {x:DataW H × List MemPlace} (h:DataW.trod enc Tryz.prog w base spare held fuel 22 [v]=some x) (hz:∀ n ∈ x.1.weights Tryz.prog 22,n≤reachBytes) :
  ∃ l:List Wy,WaysAt w.heap.size w v l:=by
 obtain⟨a,len,cap,C,D,rfl,hlen,hr⟩:=Z2a Tryz.underlying22 (by rw [cellsWy];decide) h hz
 rw [bytesWy,Z29] at hlen;rcases hr with rfl | ⟨b,o,rfl,hb,hi⟩
 ·exact⟨[],by simp,a,cap,rfl,.inl rfl⟩
 ·obtain⟨p,hp⟩:=choose_lt (α:=Option Wy) (p:=fun i q=>∃ a:Wy,q=some a∧C i=[.int .i64 a.x,.int .i64 a.y,.int .i64 a.fix,.int .i64 a.wait,.int .i64 a.back]) (fun i hil=>by obtain⟨_,⟨n,ht⟩,_⟩:=hi i hil;obtain⟨a,ha⟩:=Z9T ht;exact⟨some a,a,rfl,ha⟩)
  have hn:∀ i,i<len→C i=[.int .i64 (wy ((List.range len).map fun i=>(p i).getD ⟨0,0,0,0,0⟩) i).x,.int .i64 (wy ((List.range len).map fun i=>(p i).getD ⟨0,0,0,0,0⟩) i).y,.int .i64 (wy ((List.range len).map fun i=>(p i).getD ⟨0,0,0,0,0⟩) i).fix,.int .i64 (wy ((List.range len).map fun i=>(p i).getD ⟨0,0,0,0,0⟩) i).wait,.int .i64 (wy ((List.range len).map fun i=>(p i).getD ⟨0,0,0,0,0⟩) i).back]:=fun i hil=>by
   obtain⟨a,ha,hc⟩:=hp i hil;have:wy ((List.range len).map fun i=>(p i).getD ⟨0,0,0,0,0⟩) i=a:=by simp [wy,List.getD,hil,ha]
   rw [this];exact hc
  refine⟨(List.range len).map fun i=>(p i).getD ⟨0,0,0,0,0⟩,by simp;omega,some ⟨b,o,none⟩,cap,by simp,.inr ⟨b,o,rfl,hb,fun j hj=>?_⟩⟩
  have hj':j<len:=by simpa using hj
  obtain⟨_,_,_,hcell⟩:=hi j hj';rw [cellsWy,hn j hj'] at hcell;exact⟨hcell 0 (by decide),hcell 1 (by decide),hcell 2 (by decide),hcell 3 (by decide),hcell 4 (by decide)⟩
theorem Z6x {fuel : Nat} {v : Value} {x : DataW H × List MemPlace} (h : DataW.trod enc Tryz.prog w base spare held fuel 24 [v] = some x) (hz : ∀ n ∈ x.1.weights Tryz.prog 24, n ≤ reachBytes) :
  ∃ l:List (List Pt),Z7 w.heap.size w v l:=by
 obtain⟨a,len,cap,C,D,rfl,hlen,hr⟩:=Z2a Tryz.underlying24 (by rw [cellsPs];decide) h hz
 rw [bytesPs,Z29] at hlen;rcases hr with rfl | ⟨b,o,rfl,hb,hi⟩
 ·exact⟨[],by simp,a,cap,rfl,.inl rfl⟩
 ·obtain⟨p,hp⟩:=choose_lt (α:=List Pt) (p:=fun i l=>∃ u,w.cell? ⟨b,o+i,none⟩=some u∧Z8 w.heap.size w u l) (fun i hil=>by
   obtain⟨hl,⟨n,ht⟩,hw',hcell⟩:=hi i hil;rw [cellsPs] at hl hcell
   match hC:C i,hl with
   | [c], _ =>
    rw [hC] at ht hcell;obtain⟨l,hl'⟩:=Z5Q ht hw';exact⟨l,c,by simpa using hcell 0 (by decide),hl'⟩)
  have hn:∀ i,i<len→rk ((List.range len).map p) i=p i:=fun i hil=>by simp [rk,List.getD,hil]
  refine⟨(List.range len).map p,by simp;omega,some ⟨b,o,none⟩,cap,by simp,.inr ⟨b,o,rfl,hb,fun j hj=>?_⟩⟩
  have hj':j<len:=by simpa using hj
  rw [hn j hj'];exact hp j hj'
theorem Z7o {fuel:Nat} {v:Value} {x:DataW H × List MemPlace} (h:DataW.trod enc Tryz.prog w base spare held fuel 27 [v]=some x) (hz:∀ n ∈ x.1.weights Tryz.prog 27,n≤reachBytes) :
  ∃ l:List Int,Z9 w.heap.size w v l:=by
 obtain⟨a,len,cap,C,D,rfl,hlen,hr⟩:=Z2a Tryz.underlying27 (by rw [cellsInt];decide) h hz
 rw [bytesInt,Z29] at hlen;rcases hr with rfl | ⟨b,o,rfl,hb,hi⟩
 ·exact⟨[],by simp,a,cap,rfl,.inl rfl⟩
 ·obtain⟨p,hp⟩:=choose_lt (α:=Int) (p:=fun i n=>w.cell? ⟨b,o+i,none⟩=some (.int .i64 n)) (fun i hil=>by
   obtain⟨hl,⟨n,ht⟩,hw',hcell⟩:=hi i hil;obtain⟨k,hk,_⟩:=DataW.trod_int Tryz.underlying3 ht;rw [cellsInt,hk] at hcell;exact⟨k,by simpa using hcell 0 (by decide)⟩)
  refine⟨(List.range len).map p,by simp;omega,some ⟨b,o,none⟩,cap,by simp,.inr ⟨b,o,rfl,hb,fun j hj=>?_⟩⟩
  have hj':j<len:=by simpa using hj
  rw [hp j hj'];simp [List.getD,hj']
theorem Z8T {b0:Nat} {v:Value} {d:DataW H} {p:List MemPlace} (hv:Value.okWide Tryz.prog w .any b0 26 v) (h:DataW.Trod enc Tryz.prog w base spare held 26 v d p) (hz:∀ n ∈ d.weights Tryz.prog 26,n≤reachBytes) :
  ∃ (m:Msn) (vw vh vr:Value),v=.agg (Zc m vw vh vr)∧MsnAt w.heap.size w m vw vh vr:=by
 obtain⟨cs,rfl,hsz⟩:=okWide_struct Tryz.underlying26 hv;obtain⟨l⟩:=cs;rw [cellsMsn] at hsz;obtain⟨fuel,hf⟩:=h;obtain⟨xs,n,_,hx,_,hxl,hg⟩:=DataW.trod_struct Tryz.underlying26 hf;simp only [Prod.mk.injEq] at hx;obtain⟨rfl,rfl⟩:=hx;simp only [DataW.weights,Tryz.underlying26] at hz
 match l,hsz with
 | [c0, c1, c2, c3, c4, c5, c6, c7, c8, c9, c10], _ =>
  match xs,hxl with
  | [x0, x1, x2, x3, x4, x5, x6, x7, x8, x9, x10], _ =>
   have g0:=hg 0 _ rfl;have g1:=hg 1 _ rfl;have g3:=hg 3 _ rfl;have hw0:=fun k hk=>hz k (DataW.weights_mem_each (j:=0) rfl rfl k hk)
   have hw1:=fun k hk=>hz k (DataW.weights_mem_each (j:=1) rfl rfl k hk)
   have hw3:=fun k hk=>hz k (DataW.weights_mem_each (j:=3) rfl rfl k hk)
   obtain⟨ways,hways⟩:=Z7n g0 hw0;obtain⟨home,hhome⟩:=Z5Q g1 hw1;obtain⟨rocks,hrocks⟩:=Z6x g3 hw3;obtain⟨k2,h2,_⟩:=DataW.trod_int Tryz.underlying3 (hg 2 _ rfl);obtain⟨k4,h4,_⟩:=DataW.trod_int Tryz.underlying3 (hg 4 _ rfl);obtain⟨k5,h5,_⟩:=DataW.trod_int Tryz.underlying3 (hg 5 _ rfl);obtain⟨k6,h6,_⟩:=DataW.trod_int Tryz.underlying3 (hg 6 _ rfl);obtain⟨k7,h7,_⟩:=DataW.trod_int Tryz.underlying3 (hg 7 _ rfl);obtain⟨k8,h8,_⟩:=DataW.trod_int Tryz.underlying3 (hg 8 _ rfl);obtain⟨k9,h9,_⟩:=DataW.trod_int Tryz.underlying3 (hg 9 _ rfl);obtain⟨k10,h10,_⟩:=DataW.trod_int Tryz.underlying3 (hg 10 _ rfl);simp [cellsInt,Value.cells] at h2 h4 h5 h6 h7 h8 h9 h10;exact⟨⟨ways,home,k2,rocks,k4,k5,k6,k7,k8,k9,k10⟩,c0,c1,c3,by rw [h2,h4,h5,h6,h7,h8,h9,h10];rfl,hways,hhome,hrocks⟩
end
theorem cellsScn:Tryz.prog.cellsOf 33=6:=by kernel_rfl
section
variable {H:Type} {enc:TypeId × Value→H} {w:World} {base:Nat} {spare:Nat→Bool} {held:Bool}
theorem Z8S {b0:Nat} {v:Value} {d:DataW H} {p:List MemPlace} (hv:Value.okWide Tryz.prog w .any b0 33 v) (h:DataW.Trod enc Tryz.prog w base spare held 33 v d p) (hz:∀ n ∈ d.weights Tryz.prog 33,n≤reachBytes) :
  ∃ (l:List Int) (a b c:Int) (q:Pt) (vs:Value),v=.agg #[vs,.int .i64 a,.int .i64 b,.int .i64 c,.int .i64 q.x,.int .i64 q.y]∧Z9 w.heap.size w vs l:=by
 obtain⟨cs,rfl,hsz⟩:=okWide_struct Tryz.underlying33 hv;obtain⟨l⟩:=cs;rw [cellsScn] at hsz;obtain⟨fuel,hf⟩:=h;obtain⟨xs,n,_,hx,_,hxl,hg⟩:=DataW.trod_struct Tryz.underlying33 hf;simp only [Prod.mk.injEq] at hx;obtain⟨rfl,rfl⟩:=hx;simp only [DataW.weights,Tryz.underlying33] at hz
 match l,hsz with
 | [c0, c1, c2, c3, c4, c5], _ =>
  match xs,hxl with
  | [x0, x1, x2, x3, x4], _ =>
   obtain⟨s,hs⟩:=Z7o (hg 0 _ rfl) (fun k hk=>hz k (DataW.weights_mem_each (j:=0) rfl rfl k hk))
   obtain⟨k1,h1,_⟩:=DataW.trod_int Tryz.underlying3 (hg 1 _ rfl);obtain⟨k2,h2,_⟩:=DataW.trod_int Tryz.underlying3 (hg 2 _ rfl);obtain⟨k3,h3,_⟩:=DataW.trod_int Tryz.underlying3 (hg 3 _ rfl);obtain⟨q,hq⟩:=Z50 (hg 4 _ rfl);simp [cellsInt,cellsPt,Value.cells] at h1 h2 h3 hq;exact⟨s,k1,k2,k3,q,c0,by rw [h1,h2,h3,hq.1,hq.2],hs⟩
end
end
end Go.Proofs.YtdolkgihppgpcaaGreat
namespace Go.Proofs.YtdolkgihppgpcaaGreat.scenePlaces
section
open Go.ChangeShapes Go.WideShapes Go.ChangeAt Go.RowKit
set_option maxRecDepth 100000 in
theorem Z6z:(Rows.scenePlacesRow.inPlace == Tryz.pinned.checked.prog.inPlace 4)=true:=by kernel_rfl
set_option maxRecDepth 100000 in
theorem Z3H:(Rows.scenePlacesRow.unfollowed == Tryz.pinned.checked.prog.unfollowed 4)=true:=by kernel_rfl
set_option maxRecDepth 100000 in
theorem Z5c:(Rows.scenePlacesRow.recurses == Tryz.pinned.checked.prog.recurses 4)=true:=by kernel_rfl
set_option maxRecDepth 100000 in
theorem Z95:(Rows.scenePlacesRow.named == Tryz.pinned.checked.prog.varsNamed 4)=true:=by kernel_rfl
set_option maxRecDepth 100000 in
set_option maxHeartbeats 4000000 in
theorem jf:joinedFacts Tryz.pinned.checked.prog 4 Tryz.f4 Rows.scenePlacesSpec Rows.scenePlacesRow=true:=by
 unfold joinedFacts;rw [Z6z,Z3H,Z5c,Z95];simp only [Bool.and_eq_true]
 repeat' apply And.intro
 all_goals (first | exact True.intro | (as_aux_lemma=>kernel_rfl))
end
end Go.Proofs.YtdolkgihppgpcaaGreat.scenePlaces
