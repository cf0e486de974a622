/- slices.SortFunc at points, in a row of the call's own. | hull.around: sorted, without doubles, two chains. | hull.Hull; package mink: isPlace, areP .. -/
import Derived.Test.YthipcinibldgnaaGreatBin22
import Derived.Test.YthipcinibldgnaaGreatBin19
open Go.Value renaming int->O,pointer->qP,slice->qS
open Go.Ending renaming returned->qR
open Go.Obj renaming cells->qC
open Go.IntKind renaming wrap->qW,i64->qL
open Go.Lib renaming hid->qH
open Go.RowKit.Below renaming refl->qK
open Nat renaming le_refl->qN
open And renaming intro->qI
open Go renaming undef->qD
set_option linter.unusedSimpArgs false
set_option maxRecDepth 8000
set_option maxHeartbeats 4000000
namespace Go.Proofs.YthipcinibldgnaaGreat
section
attribute [local irreducible] wpQuiet
open Go.RowKit Go.Shelf
instance:Inhabited Pt:=⟨⟨0,0⟩⟩
def encPt (p:Pt):List Value:=[O qL p.x,O qL p.y]
theorem Z8J {w w':World} (h:Below w.heap.size w w') (hd:w.drawn<=w'.drawn):∃ q os,w'=Go.Sort.grow (w.drewN q) os:=by
 refine⟨w'.drawn-w.drawn,w'.heap.extract w.heap.size w'.heap.size,?_⟩;have e:w'.heap=w.heap++w'.heap.extract w.heap.size w'.heap.size:=by
  apply Array.ext_getElem?
  intro i;rw [Array.getElem?_append]
  split
  ·rename_i hi;exact h.block i hi
  ·rename_i hi
   rw [Array.getElem?_extract]
   split
   ·congr 1;omega
   ·exact Array.getElem?_eq_none (by omega)
 obtain⟨h1,h2,h3,h4,h5⟩:=h;cases w;cases w';simp only [Go.Sort.grow,World.drewN,World.mk.injEq] at *;exact⟨e,h2,by omega,h1,h3⟩
theorem Z62 (ax ay bx by':Int) (w:World) :
  Calls Tryz.prog 113 #[.agg #[O qL ax,O qL ay],.agg #[O qL bx,O qL by']] w fun e w'=>e=qR (O qL (cmpV ax ay bx by'))/\Below w.heap.size w w'/\w.drawn<=w'.drawn:=by
 go_enter Tryz.func113,Tryz.ntmps113;go_wp2
 go_region_held3 (fun w'=>w'.cell? ⟨w.heap.size,0,none⟩=some (O qL ax)/\w'.cell? ⟨w.heap.size,1,none⟩=some (O qL ay)/\w'.cell? ⟨w.heap.size+1,0,none⟩=some (O qL bx)/\w'.cell? ⟨w.heap.size+1,1,none⟩=some (O qL by'))
  (go_keep)
  (first | (go_at_call 158;refine (Z1n _ _ _).mono ?_;rintro e w' ⟨rfl,rfl⟩) | (go_at_call 157;refine Calls.mono (Z9f (w.heap.size+1+1) (cmpI ax bx) (cmpI ay by') _ ?c0 ?c1) ?_;(case c0=>simp [go_sem]);(case c1=>simp [go_sem]);rintro e w' ⟨rfl,rfl⟩))
 all_goals go_wp2
 go_ret;exact⟨rfl,zB2,Nat.le_succ _⟩
theorem Zbt (x y:Pt) (w:World) :
  Calls Tryz.prog 179 #[.agg (encPt x).toArray,.agg (encPt y).toArray] w fun e w'=>e=qR (O qL (cmpP x y))/\∃ q os,w'=Go.Sort.grow (w.drewN q) os:=by
 obtain⟨ax,ay⟩:=x;obtain⟨bx,by'⟩:=y
 have hr:cmpP ⟨ax,ay⟩ ⟨bx,by'⟩=cmpV ax ay bx by':=rfl
 rw [hr];have f:=qH (fun w1=>Z62 ax ay bx by' w1)
 generalize cmpV ax ay bx by'=r at *
 change Calls Tryz.prog 179 #[.agg #[O qL ax,O qL ay],.agg #[O qL bx,O qL by']] w _
 clear hr;go_enter Tryz.func179,Tryz.ntmps179;go_wp2_with fail;refine (f.out _).mono ?_;rintro e w1 ⟨rfl,b1,d1⟩;have BB:=((((qK w.heap.size w).alloc (qN _) (qC #[O qL ax,O qL ay] 36)).alloc (by simp) (qC #[O qL bx,O qL by'] 36))).trans (b1.mono (by simp;omega))
 have HG:=qH (Z8J BB d1);clear b1 d1 BB;go_wp2;go_ret;exact⟨rfl,HG.out⟩
theorem Z7q (x y:Pt):ltOf cmpP x y=decide (LexLt x y):=by unfold ltOf;rw [decide_eq_decide];exact Zan
theorem swoPt:Go.Sort.SWO (ltOf cmpP) where
 irrefl x:=by rw [Z7q];simp;exact fun h=>h.irrefl
 trans x y z h1 h2:=by rw [Z7q] at *;simp at *;exact h1.trans h2
 ntrans x y z h1 h2:=by
  rw [Z7q] at *;simp at *;intro h;rcases LexLt.tri x y with c | c | c
  ·exact h1 c
  ·exact h2 (c ▸ h)
  ·exact h2 (c.trans h)
theorem Z6z (d:Array Pt) (i:Nat):d[i]! = nth d.toList i:=by
 by_cases h:i<d.size
 ·simp [nth,List.getD_eq_getElem?_getD,h]
 ·simp [nth,List.getD_eq_getElem?_getD,h];rfl
theorem Z7w (d:Array Pt):Go.Sort.flatK encPt 2 d=(Za d.toList).toArray:=by
 refine Go.Sort.ext_get! (by simp [Zx]) fun t ht=>?_
 have ht':t<d.size*2:=by simpa using ht
 rw [Go.Sort.get_flatK _ _ _ t ht',Z6z];obtain⟨q,r,hr,rfl⟩:∃ q r,r<2/\t=q*2+r:=⟨t / 2,t % 2,Nat.mod_lt _ (by omega),by omega⟩
 have hq:q<d.toList.length:=by simp;omega
 obtain⟨f0,f1⟩:=Z09 d.toList q hq;rw [show (q*2+r) / 2=q by omega,show (q*2+r) % 2=r by omega]
 match r,hr with
 | 0,_=>simp [encPt,f0]
 | 1,_=>simp [encPt,f1]
theorem ZaK (base g cap : Nat) (l : List Pt) (w : World) (hr : w.ownsRow base 36 2 (qS (some ⟨g, 0, none⟩) l.length cap) l.length (Za l)) (hsz : l.length <= 1000000) :
  Calls Tryz.prog 178 #[qS (some ⟨g,0,none⟩) l.length cap,.func (.func 179) #[] #[]] w fun e w'=>e=qR (.tuple #[])/\∃ m:List Pt,m.length=l.length/\(∀ x,x ∈ m↔x ∈ l)/\(∀ i j,i<j->j<m.length->¬ LexLt (nth m j) (nth m i)) /\
   w'.ownsRow base 36 2 (qS (some ⟨g,0,none⟩) l.length cap) l.length (Za m)/\w.grownBy w' (some g):=by
 have hlt:=hr.lt g rfl;have hH:Go.Sort.HoldsK encPt 2 w g 0 l.toArray:=by
  intro j hj;rw [Z7w] at hj ⊢;have hj':j<l.length*2:=by simpa [Zx] using hj
  rw [Nat.zero_add];refine⟨(hr.cellAt j hj').trans ?_,hr.frozenAt j⟩;have:j<(Za l).length:=by rw [Zx];exact hj'
  simp [this]
 have hcon:=AnyQ.slices_SortFunc sortPts 2 Tryz.isAgg36 Tryz.sizeOf36 encPt (fun _=>rfl) (fun x v hv=>by simp [encPt] at hv;rcases hv with rfl | rfl <;> rfl) cmpP swoPt 179 #[] g 0 cap l.toArray w
  (enters_of Tryz.func179 (by kernel_rfl) rfl) (fun m os dk _ x y=>Zbt x y _) hH hlt.2 (by simp;omega)
 change Calls Tryz.prog 178 #[qS (some ⟨g,0,none⟩) l.length cap,_] w _ at hcon
 refine hcon.mono ?_;rintro e w' ⟨rfl,d',n,os,hp,hs,rfl⟩;have hsz':d'.size=l.length:=by have:=hp.1;simpa using this
 refine⟨rfl,d'.toList,by simpa using hsz',fun x=>?_,fun i j hij hj=>?_,?_,?_⟩
 ·have h3:=hp.2.2
  have e1:d'.extract 0 l.toArray.size=d':=by rw [List.size_toArray,<- hsz'];exact Array.extract_size
  have e2:l.toArray.extract 0 l.toArray.size=l.toArray:=Array.extract_size;rw [e1,e2] at h3;exact h3.mem_iff
 ·have:=hs i j (Nat.zero_le _) hij (by simp at hj ⊢;omega)
  rw [Z7q,Z6z,Z6z] at this
  simpa using this
 ·rcases hr.2 with⟨h',_⟩ | ⟨g',cap',cur,h',hb,hg,hnc,hcm,hcs,htake⟩
  ·simp at h'
  ·simp only [Value.slice.injEq,Option.some.injEq,Addr.mk.injEq,and_true,true_and] at h'
   obtain⟨rfl,rfl⟩:=h';refine⟨by rw [Zx];simp;omega,.inr ⟨g,cap,Go.Sort.putCells id 0 (Go.Sort.flatK encPt 2 d') cur,rfl,hb,?_,hnc,hcm,?_,?_⟩⟩
   ·unfold Go.Proofs.sortWorldK Go.Sort.putRowK Go.Sort.putRow
    rw [Go.Sort.heap_grow_old _ _ (by simp [Go.Sort.mapBlock,Go.Sort.ahead];exact hlt.2)]
    simp only [Go.Sort.mapBlock,Go.Sort.ahead,Array.getElem?_modify,if_true];rw [hg]
    rfl
   ·simp [Go.Sort.putCells,hcs]
   ·rw [Z7w]
    apply List.ext_getElem?
    intro i;rw [List.getElem?_take]
    split
    ·rename_i hi
     have hi2:i<(Za d'.toList).length:=by rw [Zx];simp;omega
     have hi3:i<cur.size:=by have:l.length*2<=cap*2:=Nat.mul_le_mul_right 2 hnc;omega
     simp [Go.Sort.putCells,hi2,hi3]
    ·rename_i hi
     rw [List.getElem?_eq_none];rw [Zx];simp;omega
 ·refine⟨rfl,rfl,rfl,?_,fun k hk hne=>?_⟩
  ·simp [Go.Proofs.sortWorldK,Go.Sort.putRowK,Go.Sort.putRow,Go.Sort.mapBlock,Go.Sort.grow,Go.Sort.ahead]
  ·unfold Go.Proofs.sortWorldK Go.Sort.putRowK Go.Sort.putRow
   rw [Go.Sort.heap_grow_old _ _ (by simpa [Go.Sort.mapBlock,Go.Sort.ahead] using hk)]
   simp only [Go.Sort.mapBlock,Go.Sort.ahead,Array.getElem?_modify];rw [if_neg (fun h=>hne (by rw [h]))]
end
section
attribute [local go_sem] Oper.semAt_some
attribute [local irreducible] wpQuiet
open Go.RowKit Go.Shelf
theorem Z1I {P:Program} {F:Fence} {nF:Nat} {w w':World} {ops:Array Oper} {rest:List Oper} {o:Oper} {a:Act} {Q:Exit->Act->World->Prop} (hgd:o.guard=none) (s x:Operand) (t:TypeId)
  (ho:o.op=.call { callee:=.builtin .append,args:=#[s,x],argTypes:=#[t,t] }) {vs vx v':Value} (hs:a.eval s=vs) (hx:a.eval x=vx) (hr:(Builtin.append_ #[t,t] o.type #[vs,vx]).run P w=.ok v' w')
  (h:wpListIn F nF P ops Q rest (a.put o.dst v') w'):wpListIn F nF P ops Q (o::rest) a w:=by
 refine wpListIn_plain hgd fun K hK=>?_
 unfold Oper.wpIn;refine⟨by simp [Oper.about,ho,resolve,Target.leads,Sem.run_pure],?_⟩
 rw [Oper.semAt_plain F _ _ (by rw [ho];intro c hc';cases hc')]
 simp [execOp,ho,resolve,invoke,builtin,hs,hx,hr,Result.andThen];exact hK _ _ h
structure LS (Bc n1:Nat) (L:List Pt) (w0 W:World):Prop where
 row:∃ v,Has W Bc #[v] 211/\W.ownsRow n1 36 2 v L.length (Za L)
 grown:w0.grownBy W (some Bc)
theorem Pushed.ls {Bc n1:Nat} {vc:Value} {L L':List Pt} {w0 W W':World} (h:Pushed Bc n1 vc L' W W') (hr:W.ownsRow n1 36 2 vc L.length (Za L)) (hg:w0.grownBy W (some Bc)) (hn:w0.heap.size<=n1):LS Bc n1 L' w0 W':=by
 obtain⟨v',h1,h2,_⟩:=h.row;refine⟨⟨v',h1,h2⟩,h.os.trans hg.os,h.tape.trans hg.tape,h.output.trans hg.output,Nat.le_trans hg.size h.size,fun k hk hne=>?_⟩
 have hz:=hg.size;rw [h.kept k (by omega) (fun e=>hne (by rw [e])) (fun e=>by have:=(hr.lt _ e).1;omega)]
 exact hg.block k hk hne
theorem Z1P (s:List Pt):∀ k,k<=s.length->∀ x,x ∈ chainTo s k->x ∈ s
 | 0,_,x,h=>by simp [chainTo] at h
 | k + 1, hk, x, h => by
  simp only [chainTo,pushP,List.mem_append,List.mem_singleton] at h;rcases h with h | h
  ·exact Z1P s k (by omega) x (List.mem_of_mem_take h)
  ·rw [h];exact nth_mem' hk
theorem Z9Q {base n g cap:Nat} {w w1:World} {xs:List Value} {b0:Nat} (hr:w.ownsRow base 36 2 (qS (some ⟨g,0,none⟩) n cap) n xs) (hg:w.grownBy w1 (some g)) (h0:b0<=base) (hb:b0<=w.heap.size):Below b0 w w1 :=
 (qK b0 w).grown hg hb fun j ej=>by cases ej;exact Nat.le_trans h0 (hr.lt g rfl).1
theorem Z8X (W:World) (c1 c2 c3:Array Value) (t1 t2 t3:TypeId):Has (((W.alloc (qC c1 t1)).alloc (qC c2 t2)).alloc (qC c3 t3)) W.heap.size c1 t1/\Has (((W.alloc (qC c1 t1)).alloc (qC c2 t2)).alloc (qC c3 t3)) (W.heap.size+1) c2 t2/\Has (((W.alloc (qC c1 t1)).alloc (qC c2 t2)).alloc (qC c3 t3)) (W.heap.size+2) c3 t3 /\
  Below W.heap.size W (((W.alloc (qC c1 t1)).alloc (qC c2 t2)).alloc (qC c3 t3))/\(((W.alloc (qC c1 t1)).alloc (qC c2 t2)).alloc (qC c3 t3)).heap.size=W.heap.size+3:=by
 have h1:=((Has.new W c1 t1).below ((qK (W.heap.size+1) _).alloc (by simp) (qC c2 t2)) (by omega)).below ((qK (W.heap.size+1) _).alloc (by simp) (qC c3 t3)) (by omega)
 have h2:=(Has.new (W.alloc (qC c1 t1)) c2 t2).below ((qK (W.heap.size+2) _).alloc (by simp) (qC c3 t3)) (by simp)
 have h3:=Has.new ((W.alloc (qC c1 t1)).alloc (qC c2 t2)) c3 t3;simp only [World.size_alloc] at h2 h3;exact⟨h1,h2,h3,(((qK W.heap.size W).alloc (qN _) _).alloc (by simp) _).alloc (by simp;omega) _,by simp⟩
theorem Z2J {s t:List Pt}:∀ k,(∀ i,i<k->nth s i=nth t i)->chainTo s k=chainTo t k
 | 0,_=>rfl
 | k + 1, h => by
  simp only [chainTo];rw [Z2J k (fun i hi=>h i (by omega)),h k (by omega)]
theorem Z6Z (L:List Pt) (x:Pt):chainP (L++[x])=pushP (chainP L) x:=by
 unfold chainP;rw [List.length_append,List.length_singleton];simp only [chainTo];rw [Z11,Z2J (s:=L++[x]) (t:=L) L.length (fun i hi=>Z10 hi)]
theorem Zar {s:List Pt} (hs:Inc s) (h2:2<=s.length):2<=(chainP s).length/\2<=(chainP s.reverse).length:=by
 have low:=Z1o hs s.length (by omega) (qN _)
 have hr:Inc (s.reverse.map ng):=fun i j hij hj=>by
  simp only [List.length_map,List.length_reverse] at hj;rw [Z0d,Z0d,Z9p,Z0w (by omega),Z0w (by omega)]
  exact hs _ _ (by omega) (by omega)
 have high:=Z1o hr s.length (by omega) (by simp)
 rw [Z2y] at high;have el:chainTo s s.length=chainP s:=rfl;have eh:chainTo s.reverse s.length=chainP s.reverse:=by unfold chainP;rw [List.length_reverse]
 rw [el] at low;rw [eh] at high;have hne:nth s 0≠nth s (s.length-1):=(hs 0 (s.length-1) (by omega) (by omega)).ne
 constructor
 ·rcases Nat.lt_or_ge (chainP s).length 2 with h | h
  ·have:=low.last
   rw [show (chainP s).length-1=0 by have:=low.pos;omega,low.first] at this
   exact absurd this hne
  ·exact h
 ·rcases Nat.lt_or_ge (chainP s.reverse).length 2 with h | h
  ·have hp:=high.pos
   have:=high.last;simp only [List.length_map] at hp this;rw [show (chainP s.reverse).length-1=0 by omega] at this
   have hf:=high.first
   rw [hf,Z0d,Z0d,Z0w (by omega),Z0w (by omega)] at this
   have:=Z7l this;rw [show s.length-1-0=s.length-1 by omega,show s.length-1-(s.length-1)=0 by omega] at this
   exact absurd this.symm hne
  ·exact h
abbrev IPt:={ p:Nat × Pt // Z3 p.2=true }
def encI (x:IPt):Array Value:=#[O qL (x.1.1:Int),.agg #[O qL x.1.2.x,O qL x.1.2.y]]
def ptsOf (pre:List IPt):List Pt:=pre.map fun x=>x.1.2
theorem Z8c (pre:List IPt) (x:IPt):ptsOf (pre++[x])=ptsOf pre++[x.1.2]:=by simp [ptsOf]
theorem Z6s {pre:List IPt} {x:Pt} (h:x ∈ ptsOf pre):Z3 x=true:=by
 obtain⟨y,_,rfl⟩:=List.mem_map.1 h;exact y.2
theorem Z8d (s:List Pt) (h:∀ i,Z3 (nth s i)=true):ptsOf (upto (fun i=>(⟨(s.length-1-i,nth s (s.length-1-i)),h _⟩:IPt)) s.length)=s.reverse:=by
 refine Za4 (by simp [ptsOf,upto]) fun i hi=>?_
 have hi':i<s.length:=by simpa [ptsOf,upto] using hi
 rw [Z0w hi'];simp [ptsOf,upto,nth,List.getD_eq_getElem?_getD,hi']
theorem ZbK {β:Type} {Bc n1 B:Nat} {w0:World} (f:β->List Pt) (hB:w0.heap.size<=B):OwnFrom B (fun (s:β) W=>LS Bc n1 (f s) w0 W):=by
 intro s X Y row h hg hr;obtain⟨v,h1,h2⟩:=h.row;obtain⟨v',h3,h4,_⟩:=holdsRow_own n1 Bc 211 36 2 (fun (s:β)=>(f s).length) (fun s=>Za (f s)) (fun _ _=>True) s X Y row ⟨v,h1,h2,trivial⟩ hg (fun r e=>(hr r e).2)
 have hz:=h.grown.size;exact⟨⟨v',h3,h4⟩,hg.os.trans h.grown.os,hg.tape.trans h.grown.tape,hg.output.trans h.grown.output,Nat.le_trans hz hg.size,fun k hk hne=>(hg.block k (by omega) (fun e=>by have:=(hr k e.symm).1;omega)).trans (h.grown.block k hk hne)⟩
set_option linter.unusedVariables false in
set_option maxRecDepth 100000 in
theorem Z6J (v : Value) (l : List Pt) (w : World) (hp : Z7 w.heap.size w v l) (h0 : 0 < l.length) (hsz : l.length <= 10000) (hpl : ∀ k, k < l.length -> Z3 (nth l k) = true) :
  Calls Tryz.prog 166 #[v] w (PtsN (hullP l) w):=by
 have c1:=qH (Zap v l w hp h0 (by omega))
 have PL:=qH (fun x (hx:x ∈ l)=>by obtain⟨k,hk,e⟩:=mem_nth' hx;rw [<- e];exact hpl k hk:∀ x,x ∈ l->Z3 x=true)
 obtain⟨a,cap,rfl⟩:=hp.len;clear hp hpl;refine (callsIn_wide (n:=9)).1 ?_;refine callsIn_of_wp_marks Tryz.func166 rfl trivial ?_ rfl;simp only [Tryz.ntmps166,List.size_toArray,List.length_cons,List.length_nil,Nat.reduceAdd,Nat.reduceSub,Array.replicate_succ,Array.replicate_zero,List.push_toArray,List.append_toArray,List.nil_append,List.cons_append];refine wpIn_wide.2 ?_;go_wp2_with fail;refine c1.out.mono ?_;rintro e w1 ⟨v1,rfl,r1,b1⟩;obtain⟨g,gc,rfl⟩:=Z0E r1 h0;have c2:=qH (ZaK w.heap.size g gc l w1 r1 (by omega))
 have R1:=qH r1;have B1:=qH b1;clear r1 b1 c1;go_wp2_with fail;refine c2.out.mono ?_;rintro e w2 ⟨rfl,m,hml,hmem,hsort,r2,g2⟩;rw [<- hml] at r2;have c3:=qH (Z6U w.heap.size g gc m w2 r2 (by omega) (by omega))
 have B2:=qH (B1.out.trans (Z9Q R1.out g2 (qN _) B1.out.size));have HH:=qH (Z6E hsort hmem);have hinc:=(Z53 hsort m.length (qN _)).2.1;have hms:=qH (fun x (hx:x ∈ ddP m)=>by
  obtain⟨j,hj,e⟩:=((Z53 hsort m.length (qN _)).2.2 x).1 hx;exact PL.out x ((hmem x).1 (by rw [<- e];exact nth_mem' hj)):∀ x,x ∈ ddP m->Z3 x=true)
 have hpos:=Zcy (m:=m) (by omega)
 have hlen:=Z7D m m.length;rw [<- hml];have HML:=qH hml;clear hml;have R2:=qH r2;have hml2:m.length<=10000:=by have:=HML.out;omega
 clear c2 r2 g2 hsort hmem;go_wp2_with fail;refine c3.out.mono ?_;rintro e w3 ⟨rfl,r3,g3⟩;have B3:=qH (B2.out.trans (Z9Q R2.out g3 (qN _) B2.out.size))
 change (ddP m).length<=m.length at hlen
 have hinc':Inc (ddP m):=hinc;clear hinc;obtain⟨s,hs⟩:∃ s,ddP m=s:=⟨_,rfl⟩;rw [hs] at HH r3 hms hpos hlen hinc' ⊢;have R3:=qH r3;clear c3 r3 g3 hs R1 R2;by_cases h3:s.length<3
 ·have d1:decide ((s.length:Int)<3)=true:=by simp;omega
  have e:goHull s=s:=by unfold goHull;rw [if_pos h3]
  rw [e] at HH;clear e;have PS:=qH (Z7.own R3.out (by omega))
  have HE:=qH HH.out.symm;clear hinc';go_wp2;exact⟨qS (some ⟨g,0,none⟩) s.length gc,by simp [results,Tryz.f166,go_sem],_,rfl,by rw [HE.out];exact PS.out,B3.out,fun b' o' n' c' e'=>by cases e';exact (R3.out.lt g rfl).1⟩
 have d1:decide ((s.length:Int)<3)=false:=by simp;omega
 have e:goHull s=twoP s:=by unfold goHull;rw [if_neg h3]
 rw [e] at HH;clear e;have h3w:=Z8X w3 #[qS none 0 0] #[qS none 0 0] #[.func (.func 181) #[qP (some ⟨w3.heap.size,0,none⟩)] #[]] 211 211 212;obtain⟨W4,hW4⟩:∃ W4,((w3.alloc (qC #[qS none 0 0] 211)).alloc (qC #[qS none 0 0] 211)).alloc (qC #[.func (.func 181) #[qP (some ⟨w3.heap.size,0,none⟩)] #[]] 212)=W4:=⟨_,rfl⟩;rw [hW4] at h3w;have HW4:=qH hW4;have H4:=qH h3w;have hs10:s.length<=10000:=by omega
 have hg3:=(R3.out.lt g rfl).2;have hw3:=B3.out.size;have S0:Hid (LS w3.heap.size (w3.heap.size+3) [] W4 W4):=⟨⟨_,h3w.1,World.ownsRow_nil _ _ _ _⟩,World.grownBy.refl _ _⟩;have INC:=qH hinc';clear hW4 h3w hinc' hml2 hlen;go_wp2;rw [HW4.out]
 go_loopw [24] (fun i wr=>∃ k:Nat,k<=s.length/\i=O qL (k:Int)/\LS w3.heap.size (w3.heap.size+3) (chainTo s k) W4 wr) (fun i _=>s.length-(intOf i).toNat)
 case atStart=>exact⟨0,by omega,rfl,S0.out⟩
 case round =>
  clear S0;obtain⟨k,hk,rfl,hS⟩:=hrel;obtain⟨a1,a2,a3,a4,a5⟩:=H4.out;have z4:=hS.grown.size;have old:∀ b,b<w3.heap.size+3->b≠w3.heap.size->wr.heap[b]?=W4.heap[b]?:=fun b h1 h2=>hS.grown.block b (by omega) (fun e=>h2 (by cases e;rfl))
  have rg:wr.ownsRow w.heap.size 36 2 (qS (some ⟨g,0,none⟩) s.length gc) s.length (Za s):=Z0j R3.out fun b hb=>by cases hb;rw [old g (by omega) (by omega)];exact a4.block g hg3
  have pv:Has wr (w3.heap.size+2) #[.func (.func 181) #[qP (some ⟨w3.heap.size,0,none⟩)] #[]] 212:=(old _ (by omega) (by omega)).trans a3
  by_cases hlt:k<s.length
  ·obtain⟨q0,q1⟩:=Z3b rg hlt
   have hpk:=hms.out _ (nth_mem' hlt);have hch:Hid (chainTo s (k+1)=pushP (chainTo s k) (nth s k)):=rfl;obtain⟨⟨px,py⟩,hpx⟩:∃ p,nth s k=p:=⟨_,rfl⟩;rw [hpx] at q0 q1 hpk hch;simp only at q0 q1;have AX:=(qK wr.heap.size wr).alloc (qN _) (qC #[O qL px,O qL py] 36);have NX:=Has.new wr #[O qL px,O qL py] 36;have x0:=NX.cell (i:=0) rfl;have x1:=NX.cell (i:=1) rfl;have f0:=(pv.below AX pv.lt).cell (i:=0) rfl;obtain⟨v,hv1,hv2⟩:=hS.row;have hcl:=Z0A s k;have zz:(wr.alloc (qC #[O qL px,O qL py] 36)).heap.size=wr.heap.size+1:=by simp
   have cp:=qH (Z7c w3.heap.size (w3.heap.size+3) v (chainTo s k) ⟨px,py⟩ _ (hv1.below AX hv1.lt) (Zy hv2 AX) (by omega) (fun e=>by have:=(hv2.lt _ e).1;omega) (fun j hj=>hms.out _ (Z1P s k hk _ (nth_mem' hj))) hpk (by omega))
   have HL:Hid (∀ w6,Pushed w3.heap.size (w3.heap.size+3) v (pushP (chainTo s k) ⟨px,py⟩) (wr.alloc (qC #[O qL px,O qL py] 36)) w6->LS w3.heap.size (w3.heap.size+3) (chainTo s (k+1)) W4 w6):=fun w6 h=>by
    rw [hch.out];exact h.ls (Zy hv2 AX) ⟨AX.os.trans hS.grown.os,AX.tape.trans hS.grown.tape,AX.output.trans hS.grown.output,by omega,fun b hb hne=>(AX.block b (by omega)).trans (hS.grown.block b hb hne)⟩ (by omega)
   have i1:(k:Int)<s.length:=by omega
   have i2:(0:Int)<=k:=by omega
   have dk:decide ((k:Int)<(s.length:Int))=true:=by simp;omega
   clear a1 a2 a3 a4 a5 rg pv AX NX hv1 hv2 hS hpx old hpk z4;go_wp2_with fail;refine cp.out.mono ?_;rintro e w6 ⟨rfl,hpu⟩;have HP:=qH (HL.out w6 hpu);clear hpu cp HL x0 x1 f0 q0 q1;go_wp2;go_roundw
   case rel=>exact⟨k+1,by omega,by go_num,HP.out⟩
   case measure=>simp [intOf];omega
  ·obtain rfl:k=s.length:=by omega
   have dk:decide ((s.length:Int)<(s.length:Int))=false:=by simp
   have p0:=pv.cell (i:=0) rfl;have p1:=Ze pv 0;have HS:=qH hS;have HO:=qH (qI rg pv);have OLD:=qH old;clear a1 a2 a3 a4 a5 rg pv hS old;go_wp2_with (go_at_call 182;refine (Z69 _ _ _ _).mono ?_;rintro e w' ⟨rfl,rfl⟩);have z4:=HS.out.grown.size;obtain⟨a1,a2,a3,a4,a5⟩:=H4.out;have hw:∀ b,b<wr.heap.size->b≠w3.heap.size+1+1->((wr.setCell ⟨w3.heap.size+1+1,0,none⟩ (.func (.func 181) #[qP (some ⟨w3.heap.size+1,0,none⟩)] #[])).alloc (qC #[qS (some ⟨g,0,none⟩) s.length gc] 23)).heap[b]?=wr.heap[b]?:=fun b h1 h2 =>
    (Below.heap_alloc _ _ _ (by simpa [World.setCell] using h1)).trans (Below.heap_setCell _ _ _ _ h2)
   have hz8:((wr.setCell ⟨w3.heap.size+1+1,0,none⟩ (.func (.func 181) #[qP (some ⟨w3.heap.size+1,0,none⟩)] #[])).alloc (qC #[qS (some ⟨g,0,none⟩) s.length gc] 23)).heap.size=wr.heap.size+1:=by simp [World.setCell]
   have hbs:=Has.new (wr.setCell ⟨w3.heap.size+1+1,0,none⟩ (.func (.func 181) #[qP (some ⟨w3.heap.size+1,0,none⟩)] #[])) #[qS (some ⟨g,0,none⟩) s.length gc] 23;have hsc:(wr.setCell ⟨w3.heap.size+1+1,0,none⟩ (.func (.func 181) #[qP (some ⟨w3.heap.size+1,0,none⟩)] #[])).heap.size=wr.heap.size:=by simp [World.setCell]
   rw [hsc] at hbs;have hpv:=(HO.out.2.set 0 (.func (.func 181) #[qP (some ⟨w3.heap.size+1,0,none⟩)] #[])).below ((qK (wr.setCell ⟨w3.heap.size+2,0,none⟩ (.func (.func 181) #[qP (some ⟨w3.heap.size+1,0,none⟩)] #[])).heap.size _).alloc (qN _) (qC #[qS (some ⟨g,0,none⟩) s.length gc] 23)) (by rw [hsc];omega)
   have hos:wr.grownBy ((wr.setCell ⟨w3.heap.size+1+1,0,none⟩ (.func (.func 181) #[qP (some ⟨w3.heap.size+1,0,none⟩)] #[])).alloc (qC #[qS (some ⟨g,0,none⟩) s.length gc] 23)) (some (w3.heap.size+2)):=⟨rfl,rfl,rfl,by omega,fun k hk hne=>hw k hk (fun e=>hne (by rw [e]))⟩
   obtain⟨W8,hW8⟩:∃ W8,(wr.setCell ⟨w3.heap.size+1+1,0,none⟩ (.func (.func 181) #[qP (some ⟨w3.heap.size+1,0,none⟩)] #[])).alloc (qC #[qS (some ⟨g,0,none⟩) s.length gc] 23)=W8:=⟨_,rfl⟩;rw [hW8] at hw hz8 hbs hos ⊢;have hpv8:Has W8 (w3.heap.size+1+1) #[.func (.func 181) #[qP (some ⟨w3.heap.size+1,0,none⟩)] #[]] 212:=by rw [<- hW8];exact hpv
   clear hpv hW8 p0 p1 hsc;have hB8:Below w.heap.size w W8:=by
    refine B3.out.trans ⟨?_,?_,?_,by omega,fun b hb=>?_⟩
    ·exact (hos.os.trans HS.out.grown.os).trans a4.os
    ·exact (hos.tape.trans HS.out.grown.tape).trans a4.tape
    ·exact (hos.output.trans HS.out.grown.output).trans a4.output
    ·rw [hw b (by omega) (by omega),OLD.out b (by omega) (by omega)]
     exact a4.block b (by omega)
   have hg8:W8.ownsRow w.heap.size 36 2 (qS (some ⟨g,0,none⟩) s.length gc) s.length (Za s):=Z0j HO.out.1 fun b hb=>by cases hb;exact hw g (by omega) (by omega)
   have hh8:Has W8 (w3.heap.size+1) #[qS none 0 0] 211:=(hw _ (by omega) (by omega)).trans ((OLD.out _ (by omega) (by omega)).trans a2)
   obtain⟨vl,hl1,hl2⟩:=HS.out.row;have hl8:Has W8 w3.heap.size #[vl] 211:=(hw _ (by omega) (by omega)).trans hl1
   have hr8:W8.ownsRow (w3.heap.size+3) 36 2 vl (chainTo s s.length).length (Za (chainTo s s.length)):=Z0j hl2 fun b hb=>by have:=hl2.lt b hb;exact hw b (by omega) (by omega)
   have hplc:∀ i,Z3 (nth s i)=true:=fun i=>Z0c (fun k hk=>hms.out _ (nth_mem' hk)) i
   have z44:W4.heap.size=w3.heap.size+3:=a5;have H8:=qH (qI hg8 (qI hl8 (qI hr8 hB8)));clear hg8 hl8 hr8 hB8 hl1 hl2 a1 a2 a3 a4 a5 hw hos;refine (wpIn_wide (n:=9)).1 ?_;refine wpIn_rangeFunc_ownH rfl (by omega) (gf:=191) (lb:=#[qP (some ⟨wr.heap.size,0,none⟩)]) rfl trivial (enters_of Tryz.func191 (by kernel_rfl) rfl)
    (Z8M encI (fun i=>⟨(s.length-1-i,nth s (s.length-1-i)),hplc _⟩) 8 (by omega) (fun b=>b=wr.heap.size\/b=g) wr.heap.size g gc s W8 (.inl rfl) (.inr rfl) (fun b hb=>by omega) (by omega) (hbs.cell (i:=0) rfl) (fun j hj=>Z3b H8.out.1 hj) (fun i hi=>rfl))
    (fun h k=>h.trans k) (fun W' l' o o' hl' _ _ _=>KeepsP.putObj o' (fun b hb=>by omega)) (qK _ _) (fun _=>rfl)
    (fun pre X=>LS (w3.heap.size+1) W8.heap.size (chainP (ptsOf pre)) W8 X)
    (fun _ _ _=>False)
    (ZbK (fun pre=>chainP (ptsOf pre)) (qN _))
    (fun c=>ownFrom_pure _ (fun _=>False))
    ⟨⟨_,hh8,World.ownsRow_nil _ _ _ _⟩,World.grownBy.refl _ _⟩
    (fun x a' X=>∃ B1,Has X B1 #[O qL x.1.2.x,O qL x.1.2.y] 36/\a'={ tmps:=#[qS a m.length (m.length+cap),qD,qS none 0 0,qS (some ⟨g,0,none⟩) s.length gc,qP (some ⟨w3.heap.size,0,none⟩),qP (some ⟨w3.heap.size+1,0,none⟩),qP (some ⟨w3.heap.size+1+1,0,none⟩),qD,u8,qD,qP (some ⟨B1,0,none⟩),qS a m.length (m.length+cap),qS (some ⟨g,0,none⟩) m.length gc,qS (some ⟨g,0,none⟩) m.length gc,.tuple #[],qS (some ⟨g,0,none⟩) m.length gc,qS (some ⟨g,0,none⟩) s.length gc,qS (some ⟨g,0,none⟩) s.length gc,O qL (s.length:Int),.bool false,qD,.func (.func 181) #[qP (some ⟨w3.heap.size,0,none⟩)] #[],qS (some ⟨g,0,none⟩) s.length gc,O qL (s.length:Int),O qL (s.length:Int),.bool false,u26,u27,u28,u29,u30,u31,.func (.func 181) #[qP (some ⟨w3.heap.size+1,0,none⟩)] #[],qS (some ⟨g,0,none⟩) s.length gc,.func (.func 191) #[] #[qP (some ⟨wr.heap.size,0,none⟩)],O qL (x.1.1:Int),.agg #[O qL x.1.2.x,O qL x.1.2.y],qD,qD,qD,qD,qD,qD,qD,qD,qD,qD,qD,qD,qD,qD,qD,qD,qD],defers:=[] })
    (fun x a' _ X Y row hs hg hr=>by obtain⟨B1,g1,g2⟩:=hs;exact⟨B1,Z0o g1 hg (fun r e=>(hr r e).2),g2⟩)
    ?assign ?body ?done ?stop
   case assign =>
    rintro ll pre x X K hI hK;unfold encI;gi_wp2;have AX:=(qK X.heap.size X).alloc (qN _) (qC #[O qL x.1.2.x,O qL x.1.2.y] 36);have hz:=hI.grown.size;exact hK _ _ ((KeepsOthers.alloc _ _).from _) (KeepsP.of_below AX (fun b hb=>by omega)) ((ZbK (fun pre=>chainP (ptsOf pre)) (qN W8.heap.size)).alloc _ hI) ⟨X.heap.size,Has.new _ _ _,rfl⟩
   case body =>
    rintro ll pre ⟨⟨ix,⟨px,py⟩⟩,hpx⟩ a' X hll ⟨r,hr⟩ hI ⟨B1,g1,rfl⟩ hlt;have hll':=qH hll;have hr':=qH hr;have hlt':=qH hlt;have hI':=qH hI;have hzX:=hI.grown.size;have hch:=qH (Z6Z (ptsOf pre) ⟨px,py⟩);have hps:=qH (Z8c pre ⟨(ix,⟨px,py⟩),hpx⟩);obtain⟨v,hv1,hv2⟩:=hI.row;have pv:Has X (w3.heap.size+1+1) #[.func (.func 181) #[qP (some ⟨w3.heap.size+1,0,none⟩)] #[]] 212:=(hI.grown.block _ (by omega) (fun e=>by simp only [Option.some.injEq] at e;omega)).trans hpv8
    have f0:=pv.cell (i:=0) rfl;have x0:=g1.cell (i:=0) rfl;have x1:=g1.cell (i:=1) rfl;have hcl:(chainP (ptsOf pre)).length<=10000:=by
     have h1:=Z0A (ptsOf pre) (ptsOf pre).length;have h2:(ptsOf pre).length=pre.length:=by simp [ptsOf]
     have h3:(chainP (ptsOf pre)).length<=(ptsOf pre).length:=h1;omega
    have cp:=qH (Z7c (w3.heap.size+1) W8.heap.size v (chainP (ptsOf pre)) ⟨px,py⟩ X hv1 hv2 hzX (fun e=>by have:=(hv2.lt _ e).1;omega) (fun j hj=>Z6s (Z1P (ptsOf pre) _ (qN _) _ (nth_mem' hj))) hpx (by omega))
    have HV:=qH (qI hv1 hv2);simp only at x0 x1;clear hll hr hlt hI hv1 hv2 pv g1
    gi_wp2_with (refine⟨trivial,?_⟩;gi_at_call 181;refine (CallsIn.inRound ll (callsIn_wide.2 cp.out)).mono ?_;rintro e w6 ⟨rfl,hpu⟩)
    have own6:∀ b,v.ownBlock=some b->W8.heap.size<=b:=fun b hb=>(HV.out.2.lt b hb).1
    refine⟨⟨hpu.size,fun k o hk1 hk2 hk3=>?_⟩,⟨hpu.size,fun b hb=>hpu.kept b (by omega) (by omega) (fun e=>by have:=own6 b e;omega)⟩,?_⟩
    ·have hkl:=(Array.getElem?_eq_some_iff.1 hk2).1
     refine (hpu.kept k hkl (fun e=>?_) (fun e=>?_)).trans hk2
     ·subst e
      have:=HV.out.1;rw [show X.heap[w3.heap.size+1]?=_ from this] at hk2
      cases hk2;cases hk3
     ·rcases HV.out.2.2 with⟨h',_⟩ | ⟨g',cap',cur,h',_,hg',_⟩
      ·rw [h'] at e;simp [Value.ownBlock] at e
      ·rw [h'] at e
       simp only [Value.ownBlock,Option.some.injEq] at e;subst e;rw [hg'] at hk2;cases hk2;cases hk3
    ·show LS (w3.heap.size+1) W8.heap.size (chainP (ptsOf (pre++[⟨(ix,⟨px,py⟩),hpx⟩]))) W8 w6
     rw [hps.out,hch.out];exact hpu.ls HV.out.2 hI'.out.grown (qN _)
   case stop=>rintro D c pre X hD _ h;exact h.elim
   case done =>
    rintro D ys X hD rfl hI hK;replace hI:LS (w3.heap.size+1) W8.heap.size (chainP s.reverse) W8 X:=by rw [<- Z8d s hplc];exact hI
    have hct:=Zar INC.out (by omega)
    have hcA:chainTo s s.length=chainP s:=rfl;obtain⟨hg8,hl8,hr8,hB8⟩:=H8.out;rw [hcA] at hr8;obtain⟨gl,cl,hvl⟩:=Z0E hr8 (by omega)
    obtain⟨vh,hh1,hh2⟩:=hI.row;obtain⟨gh,ch,hvh⟩:=Z0E hh2 (by omega)
    subst hvl;subst hvh;have hzX:=hI.grown.size;have hgl:=hr8.lt gl rfl;have blk:∀ b,b<W8.heap.size->b≠w3.heap.size+1->X.heap[b]?=W8.heap[b]?:=fun b h1 h2=>hI.grown.block b h1 (fun e=>h2 (by cases e;rfl))
    have lX:Has X w3.heap.size #[qS (some ⟨gl,0,none⟩) (chainP s).length cl] 211:=(blk _ (by omega) (by omega)).trans hl8
    have rX:X.ownsRow (w3.heap.size+3) 36 2 (qS (some ⟨gl,0,none⟩) (chainP s).length cl) (chainP s).length (Za (chainP s)):=Z0j hr8 fun b hb=>by cases hb;exact blk gl (by omega) (by omega)
    have BX:Below w.heap.size w X:=hB8.trans ⟨hI.grown.os,hI.grown.tape,hI.grown.output,hzX,fun b hb=>blk b (by omega) (by omega)⟩
    have l0:=Low.fact (lX.cell (i:=0) rfl);have h0':=Low.fact (hh1.cell (i:=0) rfl);have la:=Z0A s s.length;have lb:=Z0A s.reverse s.reverse.length;rw [List.length_reverse] at lb;have lbe:chainTo s.reverse s.length=chainP s.reverse:=by unfold chainP;rw [List.length_reverse]
    rw [hcA] at la;rw [lbe] at lb;have htw:Hid (twoP s=(chainP s).take ((chainP s).length-1)++(chainP s.reverse).take ((chainP s.reverse).length-1)):=by
     show _=_
     unfold twoP;rw [List.dropLast_eq_take,List.dropLast_eq_take]
    have hcl1:=(Z0q rX).resolve_left (by simp)
    have hcl2:=(Z0q hh2).resolve_left (by simp)
    obtain⟨_,_,e1,hcl1⟩:=hcl1;obtain⟨_,_,e2,hcl2⟩:=hcl2;simp only [Value.slice.injEq,true_and] at e1 e2;rw [<- e1.2] at hcl1;rw [<- e2.2] at hcl2;clear e1 e2 hcA lbe;obtain⟨A,hA⟩:∃ A,chainP s=A:=⟨_,rfl⟩;obtain⟨B,hB⟩:∃ B,chainP s.reverse=B:=⟨_,rfl⟩;rw [hA] at l0 la htw hct rX lX hcl1;rw [hB] at h0' lb htw hct hh1 hh2 hcl2;have HX:=qH (qI rX (qI hh2 (qI BX hK)));have k1:qW qL ((A.length:Int)-1)=(A.length:Int)-1:=zW2;have k2:qW qL ((B.length:Int)-1)=(B.length:Int)-1:=zW2;have k3:(0:Int)<=(A.length:Int)-1:=by omega
    have k4:(0:Int)<=(B.length:Int)-1:=by omega
    have k5:((A.length:Int)-1).toNat=A.length-1:=by omega
    have k6:((B.length:Int)-1).toNat=B.length-1:=by omega
    have k7:(A.length:Int)-1<=(cl:Int):=by omega
    have k8:(B.length:Int)-1<=(ch:Int):=by omega
    have k9:A.length-1<=cl:=by omega
    have k10:B.length-1<=ch:=by omega
    have k11:(1:Int)<=A.length:=by omega
    have k12:(1:Int)<=B.length:=by omega
    clear hI hg8 hl8 hr8 hB8 hh1 hh2 hK lX rX BX blk hA hB hgl;go_wp2
    (refine (wpIn_wide (n:=9)).1 ?_;refine Zn (Zk _) 13 (by kernel_rfl) (by kernel_rfl) (by kernel_rfl) ?_;simp only [List.take_succ_cons,List.take_zero,List.drop_succ_cons,List.drop_zero];(iterate 13 (apply Zf;(case hw=>rfl);(case hval=>(intro w1 hw1;have hcx:=Low.cells hw1;simp only [Oper.quietAt];go_simp;first | done | rfl | exact⟨rfl,rfl⟩));simp only [Act.put,zq4,zr4,zs4]));refine wpQuiet_nil ?_;intro w2 hw2)
    obtain⟨i0,hi,hz0',hz1',hz2'⟩:=info_parts ptInfo;obtain⟨rX,rH,BX,hK⟩:=HX.out;have rX2:=Z6q (m:=A.length-1) (Zy rX hw2.out) (by omega)
    have rH2:=Z6q (m:=B.length-1) (Zy rH hw2.out) (by omega)
    have hlA:(A.take (A.length-1)).length=A.length-1:=by rw [List.length_take];omega
    have hlB:(B.take (B.length-1)).length=B.length-1:=by rw [List.length_take];omega
    obtain⟨v',w9,hap,r9,g9⟩:=run_append_arg_grows (P:=Tryz.prog) w2 211 211 36 i0 (.agg #[.int .i64 0,.int .i64 0]) 2 16 Tryz.underlying211 hi hz0' hz1' hz2' rfl (by decide) ⟨gl,0,none⟩ (A.length-1) (A.length-1) (Za (A.take (A.length-1))) (by rw [Zx,hlA]) (rX2.cells rfl) ⟨gh,0,none⟩ (B.length-1) ch (Za (B.take (B.length-1))) (by rw [Zx,hlB]) (rH2.cells rfl) (by omega) (by unfold maxLen;omega) (by omega)
    have hD2:=(hw2.out.block D (Array.getElem?_eq_some_iff.1 hK).1).trans hK;have hD9:=(g9.block D (Array.getElem?_eq_some_iff.1 hD2).1 (fun e=>by cases e)).trans hD2
    have B9:Below w.heap.size w w9:=BX.trans ((hw2.out.mono BX.size).trans ((qK w.heap.size w2).grown g9 (Nat.le_trans BX.size hw2.out.size) (fun k e=>by cases e)))
    have HK:=qH hD9;have R9:=qH r9;have HB9:=qH B9;have HZ2:=qH (Nat.le_trans BX.size hw2.out.size);clear hw2 l0 h0' rX rH BX hK rX2 rH2 g9 hD2 hD9 B9 r9;refine Z1I rfl (.tmp 47) (.tmp 52) 211 rfl rfl rfl hap ?_;simp only [Act.put,zq4,zr4,zs4];clear hap;obtain⟨gv,cv,rfl⟩:=Z0E R9.out (by omega)
    have hne:gv≠D:=fun e=>by
     rcases R9.out.2 with⟨h',_⟩ | ⟨g',cap',cur,h',_,hg',_⟩
     ·cases h'
     ·simp only [Value.slice.injEq,Option.some.injEq,Addr.mk.injEq,and_true,true_and] at h'
      rw [<- h'.1,e,HK.out] at hg';cases hg'
    have PF:Z7 (w9.putObj D (.deferred none)).heap.size (w9.putObj D (.deferred none)) (qS (some ⟨gv,0,none⟩) (A.length-1+(B.length-1)) cv) (twoP s):=by
     refine Z7.own (base:=w2.heap.size) (n:=A.length-1+(B.length-1)) ?_ ?_
     ·rw [htw.out,ZR]
      exact Z0j R9.out fun b hb=>by cases hb;exact World.putObj_heap_other hne
     ·rw [htw.out,List.length_append,hlA,hlB];omega
    have PFF:=qH PF;have BF:=qH (HB9.out.trans (belowK_b (w:=w) (qN _) _ D _ (.deferred none) (by omega) HK.out rfl rfl))
    clear PF;gi_wp2;go_wp2;refine⟨by simp,.inl ⟨_,_,rfl,run_takeDeferred HK.out,?_⟩⟩
    refine⟨qS (some ⟨gv,0,none⟩) (A.length-1+(B.length-1)) cv,by simp [results,Tryz.f166,go_sem],_,rfl,?_,BF.out,fun b' o' n' c' e'=>by cases e';exact Nat.le_trans HZ2.out (R9.out.lt gv rfl).1⟩
    rw [<- HH.out];exact PFF.out
end
section
attribute [local irreducible] wpQuiet
open Go.RowKit
theorem Z8q (x y:Int) (w:World) :
  Calls Tryz.prog 165 #[.agg #[O qL x,O qL y]] w fun e w'=>e=qR (.bool (!placeB x y))/\Below w.heap.size w w':=by
 have f:=qH (fun w1=>Z1M x y w1)
 generalize placeB x y=b at *;go_enter Tryz.func165,Tryz.ntmps165;go_wp2_with (go_at_call 64;refine (f.out _).mono ?_;rintro e w1 ⟨rfl,hb1⟩;have hz1:=hb1.size;try simp at hz1)
 go_ret;exact⟨rfl,zB2⟩
def FindQ (b:Bool) (w:World) (e:Ending) (w':World):Prop:=∃ r:Int,e=qR (O qL r)/\-1<=r/\r<=9223372036854775807/\decide (0<=r)=b/\Below w.heap.size w w'
theorem Z5N (v : Value) (l : List Pt) (w : World) (hp : Z7 w.heap.size w v l) :
  Calls Tryz.prog 176 #[v,.func (.func 165) #[] #[]] w (FindQ (!allPl l) w):=by
 obtain⟨hl,a,cap,rfl,hc⟩:=hp;go_enter Tryz.func176,Tryz.ntmps176;go_wp2
 go_loopw [8] (fun i wr=>∃ k:Nat,k<=l.length/\i=O qL k/\(∀ j,j<k->Z3 (nth l j)=true)/\Below w.heap.size w wr) (fun i _=>l.length-(intOf i).toNat)
 case atStart=>exact⟨0,Nat.zero_le _,rfl,fun j h=>by omega,qK _ _⟩
 case round =>
  obtain⟨k,hk,rfl,hall,hB⟩:=hrel;by_cases hlt:k<l.length
  ·rcases hc with rfl | ⟨b,o,rfl,hb,hc⟩
   ·simp at hlt
   have c1:=(hB.cell (p:=⟨b,o+k*2,none⟩) hb).trans (hc k hlt).1;have c2:=(hB.cell (p:=⟨b,o+k*2+1,none⟩) hb).trans (hc k hlt).2;have hall':=qH hall;have hc':=qH hc;clear hall hc;have hz:=hB.size;have f:=qH (fun w1=>Z8q (nth l k).x (nth l k).y w1)
   cases hpl:placeB (nth l k).x (nth l k).y
   ·rw [hpl] at f
    have hr:Hid (allPl l=false):=by
     show allPl l=false
     simp only [allPl,decide_eq_false_iff_not];intro h;have:=h k hlt;rw [Z3,hpl] at this;cases this
    go_wp2_with (go_at_call 165;refine (f.out _).mono ?_;rintro e w1 ⟨rfl,hb1⟩;have hz1:=hb1.size;try simp at hz1)
    go_ret;exact⟨k,rfl,by omega,by omega,by rw [hr.out];simp,zB2⟩
   ·rw [hpl] at f
    go_wp2_with (go_at_call 165;refine (f.out _).mono ?_;rintro e w1 ⟨rfl,hb1⟩;have hz1:=hb1.size;try simp at hz1)
    go_roundw
    case rel =>
     refine⟨k+1,by omega,by go_num,fun j hj=>?_,zB2⟩
     by_cases e:j=k
     ·rw [e];exact hpl
     ·exact hall'.out j (by omega)
    case measure=>simp [intOf];omega
  ·have hr:Hid (allPl l=true):=by
    show allPl l=true
    simp only [allPl,decide_eq_true_eq];intro j hj;exact hall j (by omega)
   clear hall;go_wp2;go_ret;exact⟨-1,rfl,by omega,by omega,by rw [hr.out];simp,hB⟩
theorem Z3I (v:Value) (l:List Pt) (w:World) (hp:Z7 w.heap.size w v l) :
  Calls Tryz.prog 164 #[v,.func (.func 165) #[] #[]] w fun e w'=>e=qR (.bool (!allPl l))/\Below w.heap.size w w':=by
 go_enter Tryz.func164,Tryz.ntmps164;go_wp2_with (go_at_call 176;refine (Z5N _ _ _ hp).mono ?_;rintro e w1 ⟨r,rfl,r1,r2,r3,hb⟩);go_ret;exact⟨by first | rfl | exact Zs r3,hb⟩
theorem Z2f {l:List Pt}:allPl l=true↔∀ k,k<l.length->Z3 (nth l k)=true:=by simp [allPl]
noncomputable def hulE (l:List Pt):Int:=if 4000<l.length then 2 else if l.length=0\/allPl l=false then 1 else if 64<(hullP l).length then 2 else 0
noncomputable def hulL (l:List Pt):List Pt:=if hulE l=0 then hullP l else []
theorem Z7t (v:Value) (l:List Pt) (w:World) (hp:Z7 w.heap.size w v l) :
  Calls Tryz.prog 142 #[v] w fun e w'=>∃ u,e=qR (.tuple #[u,O qL (hulE l)])/\Z7 w'.heap.size w' u (hulL l)/\Below w.heap.size w w'/\NewI w.heap.size u:=by
 have f1:=qH (Z3I v l w hp);have f2:=qH (fun w1 (B:Below w.heap.size w w1) h0 hs hpl=>Z6J v l w1 ((hp.below B).mono B.size) h0 hs hpl)
 obtain⟨a,cap,rfl⟩:=hp.len;clear hp;by_cases h1:4000<l.length
 ·have d1:decide ((l.length:Int)>4000)=true:=by simp;omega
  have HE:Hid (hulE l=2):=if_pos h1;have HL:Hid (hulL l=[]):=if_neg (by rw [HE.out];omega)
  go_enter Tryz.func142,Tryz.ntmps142;go_wp2;go_ret2;exact⟨qS none 0 0,by rw [HE.out];rfl,by rw [HL.out];exact Z7.nil _ _,qK _ _,NewI.nil _⟩
 have d1:decide ((l.length:Int)>4000)=false:=by simp;omega
 by_cases h2:l.length=0
 ·have d2:((l.length:Int) == 0)=true:=by rw [beq_iff_eq];omega
  have HE:Hid (hulE l=1):=(if_neg h1).trans (if_pos (.inl h2));have HL:Hid (hulL l=[]):=if_neg (by rw [HE.out];omega)
  go_enter Tryz.func142,Tryz.ntmps142;go_wp2;go_ret2;exact⟨qS none 0 0,by rw [HE.out];rfl,by rw [HL.out];exact Z7.nil _ _,qK _ _,NewI.nil _⟩
 have d2:((l.length:Int) == 0)=false:=by rw [beq_eq_false_iff_ne];omega
 cases h3:allPl l
 ·rw [h3] at f1
  have HE:Hid (hulE l=1):=(if_neg h1).trans (if_pos (.inr h3));have HL:Hid (hulL l=[]):=if_neg (by rw [HE.out];omega)
  clear h3;go_enter Tryz.func142,Tryz.ntmps142;go_wp2_with fail;refine f1.out.mono ?_;rintro e w1 ⟨rfl,b1⟩;have B1:=qH b1;clear b1;go_wp2;go_ret2;exact⟨qS none 0 0,by rw [HE.out];rfl,by rw [HL.out];exact Z7.nil _ _,B1.out,NewI.nil _⟩
 rw [h3] at f1;have F2:=qH (fun w1 B=>f2.out w1 B (by omega) (by omega) (Z2f.1 h3))
 have HE:Hid (hulE l=if 64<(hullP l).length then 2 else 0):=(if_neg h1).trans (if_neg (by rintro (h | h);exact h2 h;rw [h3] at h;cases h))
 have hhl:=Z27 l;clear h3 f2;go_enter Tryz.func142,Tryz.ntmps142;go_wp2_with fail;refine f1.out.mono ?_;rintro e w1 ⟨rfl,b1⟩;have B1:=qH b1;clear b1;go_wp2_with fail;refine (F2.out _ B1.out).mono ?_;rintro e w2 ⟨v2,rfl,p2,b2,n2⟩;have B2:=zAf B1 b2;have P2:=qH p2;have N2:=qH (n2.mono B1.out.size);obtain⟨a2,c2,rfl⟩:=p2.len;clear p2 b2 n2;by_cases h4:64<(hullP l).length
 ·have d4:decide (((hullP l).length:Int)>64)=true:=by simp;omega
  rw [if_pos h4] at HE;have HL:Hid (hulL l=[]):=if_neg (by rw [HE.out];omega)
  go_wp2;go_ret2;exact⟨qS none 0 0,by rw [HE.out];rfl,by rw [HL.out];exact Z7.nil _ _,B2.out,NewI.nil _⟩
 ·have d4:decide (((hullP l).length:Int)>64)=false:=by simp;omega
  rw [if_neg h4] at HE;have HL:Hid (hulL l=hullP l):=if_pos HE.out;go_wp2;go_ret2;exact⟨qS a2 (hullP l).length ((hullP l).length+c2),by rw [HE.out];rfl,by rw [HL.out];exact P2.out,B2.out,N2.out⟩
theorem Z7u (v:Value) (l:List Pt) (w:World) (hp:Z7 w.heap.size w v l) :
  Calls Tryz.prog 142 #[v] w fun e w'=>∃ u,e=qR (.tuple #[u,O qL (hulE l)])/\Z7 w'.heap.size w' u (hulL l)/\Below w.heap.size w w':=(Z7t v l w hp).mono fun _ _ ⟨u,a,b,c,_⟩=>⟨u,a,b,c⟩
theorem Z9c (W:World) (x y:Int):Z7 (W.alloc (qC #[O qL x,O qL y] 36)).heap.size (W.alloc (qC #[O qL x,O qL y] 36)) (qS (some ⟨W.heap.size,0,none⟩) 1 1) [⟨x,y⟩] :=
 Zc8 (l:=[⟨x,y⟩]) (Has.new W #[O qL x,O qL y] 36) (by simp)
theorem Zbb (p:Pt):hulE [p]=if Z3 p=true then 0 else 1:=by
 have h:hullP [p]=[p]:=(Z2W (Z7g p)).symm;have ha:allPl [p]=Z3 p:=by
  rw [Bool.eq_iff_iff,Z2f];exact⟨fun h=>h 0 (by simp),fun h k hk=>by obtain rfl:k=0:=(by simpa using hk);exact h⟩
 unfold hulE;rw [h,ha];cases Z3 p <;> simp
theorem Z6a (v:Value) (l:List Pt) (w:World) (hp:Z7 w.heap.size w v l) :
  Calls Tryz.prog 167 #[v] w fun e w'=>e=qR (.bool (!Zb l))/\Below w.heap.size w w':=by
 have f:=qH (Zp v l w hp);clear hp;generalize Zb l=b at *;go_enter Tryz.func167,Tryz.ntmps167;go_wp2_with (go_at_call 63;refine (f.out).mono ?_;rintro e w1 ⟨rfl,hb1⟩;have hz1:=hb1.size;try simp at hz1)
 go_ret;exact⟨rfl,zB2⟩
theorem Z3V (v : Value) (l : List (List Pt)) (w : World) (hr : Z6 w.heap.size w v l) :
  Calls Tryz.prog 161 #[v,.func (.func 167) #[] #[]] w (FindQ (!polysB l) w):=by
 obtain⟨hl,a,cap,rfl,hc⟩:=hr;go_enter Tryz.func161,Tryz.ntmps161;go_wp2
 go_loopw [8] (fun i wr=>∃ k:Nat,k<=l.length/\i=O qL k/\(∀ j,j<k->Zb (rk l j)=true)/\Below w.heap.size w wr) (fun i _=>l.length-(intOf i).toNat)
 case atStart=>exact⟨0,Nat.zero_le _,rfl,fun j h=>by omega,qK _ _⟩
 case round =>
  obtain⟨k,hk,rfl,hall,hB⟩:=hrel;by_cases hlt:k<l.length
  ·rcases hc with rfl | ⟨b,o,rfl,hb,hc⟩
   ·simp at hlt
   obtain⟨u,hu,hpu⟩:=hc k hlt;have c1:=(hB.cell (p:=⟨b,o+k,none⟩) hb).trans hu;have f:=qH (Z6a u (rk l k) wr ((hpu.below hB).mono hB.size));have hall':=qH hall;have hc':=qH hc;clear hall hc hu hpu;have hz:=hB.size;cases hpl:Zb (rk l k)
   ·rw [hpl] at f
    have hr:Hid (polysB l=false):=by
     show polysB l=false
     simp only [polysB,decide_eq_false_iff_not];intro h;have:=h k hlt;rw [hpl] at this;cases this
    go_wp2_with (go_at_call 167;refine (f.out).mono ?_;rintro e w1 ⟨rfl,hb1⟩;have hz1:=hb1.size;try simp at hz1)
    go_ret;exact⟨k,rfl,by omega,by omega,by rw [hr.out];simp,zB2⟩
   ·rw [hpl] at f
    go_wp2_with (go_at_call 167;refine (f.out).mono ?_;rintro e w1 ⟨rfl,hb1⟩;have hz1:=hb1.size;try simp at hz1)
    go_roundw
    case rel =>
     refine⟨k+1,by omega,by go_num,fun j hj=>?_,zB2⟩
     by_cases e:j=k
     ·rw [e];exact hpl
     ·exact hall'.out j (by omega)
    case measure=>simp [intOf];omega
  ·have hr:Hid (polysB l=true):=by
    show polysB l=true
    simp only [polysB,decide_eq_true_eq];intro j hj;exact hall j (by omega)
   clear hall;go_wp2;go_ret;exact⟨-1,rfl,by omega,by omega,by rw [hr.out];simp,hB⟩
theorem Z2w (v:Value) (l:List (List Pt)) (w:World) (hr:Z6 w.heap.size w v l) :
  Calls Tryz.prog 127 #[v,.func (.func 167) #[] #[]] w fun e w'=>e=qR (.bool (!polysB l))/\Below w.heap.size w w':=by
 go_enter Tryz.func127,Tryz.ntmps127;go_wp2_with (go_at_call 161;refine (Z3V _ _ _ hr).mono ?_;rintro e w1 ⟨r,rfl,r1,r2,r3,hb⟩);go_ret;exact⟨by first | rfl | exact Zs r3,hb⟩
theorem Z2L (v:Value) (l:List (List Pt)) (w:World) (hr:Z6 w.heap.size w v l) :
  Calls Tryz.prog 143 #[v] w fun e w'=>e=qR (.bool (polysB l))/\Below w.heap.size w w':=by
 have f:=qH (Z2w v l w hr);clear hr;generalize polysB l=b at *;go_enter Tryz.func143,Tryz.ntmps143;go_wp2_with (go_at_call 127;refine (f.out).mono ?_;rintro e w1 ⟨rfl,hb1⟩;have hz1:=hb1.size;try simp at hz1)
 go_ret;exact⟨Zs (by simp),zB2⟩
end
theorem Zcd {d x:Pt} {l:List Pt}:x ∈ mvL d l↔∃ y,y ∈ l/\mvP d y=x:=by simp [mvL]
def oct0 (n k:Int):List Pt:=[⟨n,-k⟩,⟨n,k⟩,⟨k,n⟩,⟨-k,n⟩,⟨-n,k⟩,⟨-n,-k⟩,⟨-k,-n⟩,⟨k,-n⟩]
def octG (n k:Int):List Pt:=[⟨-n,-k⟩,⟨-k,-n⟩,⟨-n,k⟩,⟨-k,n⟩,⟨n,-k⟩,⟨k,-n⟩,⟨n,k⟩,⟨k,n⟩]
theorem Z7j (n k:Int):∀ x,x ∈ octG n k↔x ∈ oct0 n k:=by
 intro x;simp only [octG,oct0,List.mem_cons,List.not_mem_nil,or_false];constructor
 ·rintro (h | h | h | h | h | h | h | h) <;> simp [h]
 ·rintro (h | h | h | h | h | h | h | h) <;> simp [h]
noncomputable def Z4 (n:Nat):List Pt:=hullP (oct0 n (octK n))
theorem diskG (n:Nat):hullP (octG n (octK n))=Z4 n:=Z6F (Z7j _ _)
theorem Z5D {n:Nat} (h:n<=100000) {x:Pt} (hx:x ∈ oct0 n (octK n)):(-(n:Int)<=x.x/\x.x<=n/\-(n:Int)<=x.y/\x.y<=n)/\Z3 x=true:=by
 have k:=Z6v n;rw [Z1d];simp only [oct0,List.mem_cons,List.not_mem_nil,or_false] at hx;rcases hx with rfl | rfl | rfl | rfl | rfl | rfl | rfl | rfl
 all_goals (simp only;omega)
theorem Z13 (n:Nat):(Z4 n).length<=8:=Z27 _
theorem Z1C {n:Nat} (h:n<=100000):GoValid (Z4 n):=Z4j (Z1z _) (by simp [oct0]) (by have:=Z13 n;omega) fun _ hx=>(Z5D h hx).2
theorem Z1B {l:List Pt} (d:Pt) (h:GoValid l):Zb (mvL d l)=allPl (mvL d l):=by
 rw [Bool.eq_iff_iff,Z2f];constructor
 ·intro hv k hk
  exact ((Z0K hv).2.2.1 k hk).1
 ·intro hp
  refine Z0V ⟨by rw [Z0k];exact h.1,by rw [Z0k];exact h.2.1,fun k hk=>⟨hp k hk,fun h0=>?_⟩,fun h3 i hi j hj n1 n2=>?_⟩
  ·rw [Z0k] at hk
   rw [Z3m d (by omega),Z3m d hk,cmp_mv]
   exact (h.2.2.1 k hk).2 h0
  ·rw [Z0k] at h3 hi hj
   rw [Zc2 d hi,Z3m d hj] at n1 n2 ⊢;have:=h.2.2.2 h3 i hi j hj (fun e=>n1 (by rw [e];rfl)) (fun e=>n2 (by rw [e];rfl))
   show 0<Z5 (mvP d _) (mvP d _) (mvP d _)
   rw [ZbZ];exact this
noncomputable def shE (l:List Pt) (d:Pt):Int:=if Zb l=true/\Z3 d=true then (if allPl (mvL d l)=true then 0 else 3) else 1
noncomputable def shL (l:List Pt) (d:Pt):List Pt:=if shE l d=0 then mvL d l else []
def radOk (n:Int):Bool:=decide (0<=n/\n<=100000)
noncomputable def corE (a:Pt) (u:Int) (b:Pt) (v:Int):Int :=
 if Z3 a=true/\Z3 b=true/\radOk u=true/\radOk v=true then (if allPl (mvL a (Z4 u.toNat))=true/\allPl (mvL b (Z4 v.toNat))=true then 0 else 3) else 1
noncomputable def corH (a:Pt) (u:Nat) (b:Pt) (v:Nat):List Pt:=hullP (mvL a (Z4 u)++mvL b (Z4 v))
noncomputable def corL (a:Pt) (u:Int) (b:Pt) (v:Int):List Pt:=if corE a u b v=0 then corH a u.toNat b v.toNat else []
theorem Z7G (a:Pt) (u:Nat) (b:Pt) (v:Nat):(corH a u b v).length<=16:=by
 have h:=Z27 (mvL a (Z4 u)++mvL b (Z4 v));rw [List.length_append,Z0k,Z0k] at h;have:=Z13 u;have:=Z13 v;unfold corH;omega
theorem Zbu {l:List Pt} {x:Pt}:x ∈ l↔∃ k,k<l.length/\nth l k=x:=⟨mem_nth',fun ⟨_,hk,e⟩=>e ▸ nth_mem' hk⟩
theorem Z2e {l:List Pt}:allPl l=true↔∀ x,x ∈ l->Z3 x=true:=by
 rw [Z2f];exact⟨fun h x hx=>by obtain⟨k,hk,rfl⟩:=Zbu.1 hx;exact h k hk,fun h k hk=>h _ (nth_mem' hk)⟩
theorem ZbS {a:Pt} {u:Nat} {b:Pt} {v:Nat}:mvL a (Z4 u)++mvL b (Z4 v)≠[]:=by
 have h1:=(Z1z (oct0 u (octK u))).some (by simp [oct0])
 intro h;have h2:=congrArg List.length h;rw [List.length_append,Z0k] at h2;unfold Z4 at h2;simp at h2;rw [h2.1] at h1;simp at h1
theorem Z1m {a:Pt} {u:Int} {b:Pt} {v:Int} (h:corE a u b v=0):(Z3 a=true/\Z3 b=true/\0<=u/\u<=100000/\0<=v/\v<=100000)/\allPl (mvL a (Z4 u.toNat))=true/\allPl (mvL b (Z4 v.toNat))=true:=by
 unfold corE at h
 split at h
 ·rename_i h1
  have r1:0<=u/\u<=100000:=by simpa [radOk] using h1.2.2.1
  have r2:0<=v/\v<=100000:=by simpa [radOk] using h1.2.2.2
  split at h
  ·rename_i h2
   exact⟨⟨h1.1,h1.2.1,r1.1,r1.2,r2.1,r2.2⟩,h2⟩
  ·cases h
 ·cases h
theorem Z60 {a:Pt} {u:Int} {b:Pt} {v:Int} (h:corE a u b v=0):GoValid (corH a u.toNat b v.toNat):=by
 obtain⟨_,h1,h2⟩:=Z1m h;rw [Z2e] at h1 h2;refine Z4j (Z1z _) ZbS (by have:=Z7G a u.toNat b v.toNat;omega) fun x hx=>?_
 rcases List.mem_append.1 hx with h | h
 ·exact h1 x h
 ·exact h2 x h
theorem Zb1 {n:Nat} {x:Pt} (hx:x ∈ oct0 n (octK n)):(-(n:Int)<=x.x/\x.x<=n/\-(n:Int)<=x.y/\x.y<=n)/\(x.x+x.y<=n+octK n/\x.x-x.y<=n+octK n/\-x.x+x.y<=n+octK n/\-x.x-x.y<=n+octK n):=by
 have k:=Z6v n;simp only [oct0,List.mem_cons,List.not_mem_nil,or_false] at hx;rcases hx with rfl | rfl | rfl | rfl | rfl | rfl | rfl | rfl
 all_goals (simp only;omega)
theorem Zbr {a:Pt} {u:Int} {b:Pt} {v:Int} (ha:-400000<=a.x/\a.x<=400000/\-400000<=a.y/\a.y<=400000) (hb:-400000<=b.x/\b.x<=400000/\-400000<=b.y/\b.y<=400000) (hu:0<=u/\u<=100000) (hv:0<=v/\v<=100000):corE a u b v=0:=by
 have pl:∀ {c:Pt} {n:Nat},n<=100000->(-400000<=c.x/\c.x<=400000/\-400000<=c.y/\c.y<=400000)->allPl (mvL c (Z4 n))=true:=fun {c n} hn hc=>by
  rw [Z2e];intro x hx;obtain⟨y,hy,rfl⟩:=Zcd.1 hx;have o:=(Zb1 (Z9I hy)).1;rw [Z1d];unfold mvP;simp only;omega
 unfold corE;rw [if_pos ⟨Z1d.2 (by omega),Z1d.2 (by omega),by simp [radOk];omega,by simp [radOk];omega⟩,if_pos ⟨pl (by omega) ha,pl (by omega) hb⟩]
section
attribute [local irreducible] hulE hulL
attribute [local irreducible] wpQuiet
open Go.RowKit
theorem Z2E (x y:Int) (w:World) :
  Calls Tryz.prog 144 #[.agg #[O qL x,O qL y]] w fun e w'=>e=qR (.bool (placeB x y))/\Below w.heap.size w w':=by
 have hA:=(qK w.heap.size w).alloc (qN _) (qC #[O qL x,O qL y] 36);have hs:(w.alloc (qC #[O qL x,O qL y] 36)).heap.size=w.heap.size+1:=by simp
 have f:=Z7u _ _ _ (Z9c (w.alloc (qC #[O qL x,O qL y] 36)) x y);rw [hs] at f;have B0:=qH (hA.alloc hA.size (qC #[O qL x,O qL y] 36));have he:hulE [⟨x,y⟩]=if placeB x y=true then 0 else 1:=Zbb ⟨x,y⟩
 rw [he] at f;have f:=qH f;clear hA he hs;cases hp:placeB x y
 ·rw [hp] at f
  go_enter Tryz.func144,Tryz.ntmps144;go_wp2_with fail;refine f.out.mono ?_;rintro e w1 ⟨u,rfl,_,b1⟩;have B1:=zAf B0 b1;clear b1;go_wp2;go_ret;exact⟨rfl,B1.out⟩
 ·rw [hp] at f
  go_enter Tryz.func144,Tryz.ntmps144;go_wp2_with fail;refine f.out.mono ?_;rintro e w1 ⟨u,rfl,_,b1⟩;have B1:=zAf B0 b1;clear b1;go_wp2;go_ret;exact⟨rfl,B1.out⟩
theorem Z5r {W:World} {v:Value} {l:List Pt} (n:Nat) (hn:n=W.heap.size) (hp:Z7 W.heap.size W v l):Z6 (W.alloc (qC #[v] 23)).heap.size (W.alloc (qC #[v] 23)) (qS (some ⟨n,0,none⟩) 1 1) [l]:=by
 subst hn;have h:=Has.new W #[v] 23;have B:=(qK W.heap.size W).alloc (qN _) (qC #[v] 23);refine⟨by simp,some ⟨W.heap.size,0,none⟩,0,rfl,.inr ⟨W.heap.size,0,rfl,by simp,fun j hj=>?_⟩⟩
 obtain rfl:j=0:=by simpa using hj
 exact⟨v,h.cell (i:=0) rfl,(hp.below B).mono B.size⟩
theorem Z5x (l:List Pt):polysB [l]=Zb l:=by
 rw [Bool.eq_iff_iff,Z8f];exact⟨fun h=>h 0 (by simp),fun h j hj=>by obtain rfl:j=0:=(by simpa using hj);exact h⟩
theorem ZbI {l:List Pt} {d:Pt} (h:Zb l=false\/Z3 d=false):shE l d=1/\shL l d=[]:=by
 have:shE l d=1:=if_neg (by rintro ⟨a,b⟩;rcases h with h | h <;> simp_all)
 exact⟨this,if_neg (by rw [this];omega)⟩
theorem Z0R (v:Value) (l:List Pt) (d:Pt) (w:World) (hp:Z7 w.heap.size w v l) :
  Calls Tryz.prog 85 #[v,.agg #[O qL d.x,O qL d.y]] w fun e w'=>∃ u,e=qR (.tuple #[u,O qL (shE l d)])/\Z7 w'.heap.size w' u (shL l d)/\Below w.heap.size w w':=by
 have fP:=fun n w1 (hn:n=w1.heap.size) (B:Below w.heap.size w w1)=>Z2L (qS (some ⟨n,0,none⟩) 1 1) [l] (w1.alloc (qC #[v] 23)) (Z5r n hn ((hp.below B).mono B.size))
 rw [Z5x] at fP;have HP:=qH hp;have HA:=qH ((qK w.heap.size w).alloc (qN _) (qC #[O qL d.x,O qL d.y] 36));have HN:=qH (Has.new w #[O qL d.x,O qL d.y] 36);obtain⟨a,cap,hvv⟩:=hp.len;subst hvv;clear hp;have BB:=qH (fun w1 (B:Below w.heap.size w w1)=>B.alloc B.size (qC #[qS a l.length (l.length+cap)] 23))
 cases hv:Zb l
 ·rw [hv] at fP
  obtain⟨e1,e2⟩:=ZbI (d:=d) (.inl hv);have HE:=qH e1;have HL:=qH e2;have fP:=qH fP;clear hv e1 e2;go_enter Tryz.func85,Tryz.ntmps85;go_wp2_with fail;refine (fP.out _ _ (by simp) HA.out).mono ?_
  rintro e w1 ⟨rfl,b1⟩;have B1:=qH ((BB.out _ HA.out).trans (b1.mono (BB.out _ HA.out).size));clear b1;go_wp2;go_ret2;exact⟨qS none 0 0,by rw [HE.out];rfl,by rw [HL.out];exact Z7.nil _ _,B1.out⟩
 rw [hv] at fP;have fP:=qH fP;have GV:=qH (Z0K hv);have HV:=qH hv;clear hv;cases hd:Z3 d
 ·obtain⟨e1,e2⟩:=ZbI (l:=l) (.inr hd)
  have HE:=qH e1;have HL:=qH e2;have fI:=fun w1=>Z2E d.x d.y w1
  rw [show placeB d.x d.y=false from hd] at fI
  have fI:=qH fI;clear hd e1 e2;go_enter Tryz.func85,Tryz.ntmps85;go_wp2_with fail;refine (fP.out _ _ (by simp) HA.out).mono ?_
  rintro e w1 ⟨rfl,b1⟩;have B1:=qH ((BB.out _ HA.out).trans (b1.mono (BB.out _ HA.out).size));have N1:=(HN.out.below ((qK _ _).alloc (qN _) _) (by simp)).below b1 (by simp;omega)
  have x0:=N1.cell (i:=0) rfl;have x1:=N1.cell (i:=1) rfl;clear b1 N1;go_wp2_with fail;refine (fI.out _).mono ?_;rintro e w2 ⟨rfl,b2⟩;have B2:=zAf B1 b2;clear b2 x0 x1;go_wp2;go_ret2;exact⟨qS none 0 0,by rw [HE.out];rfl,by rw [HL.out];exact Z7.nil _ _,B2.out⟩
 have HE:Hid (shE l d=if allPl (mvL d l)=true then 0 else 3):=if_pos ⟨HV.out,hd⟩
 have fI:=fun w1=>Z2E d.x d.y w1
 rw [show placeB d.x d.y=true from hd] at fI
 have fI:=qH fI;have fE:=qH (fun w1 (B:Below w.heap.size w w1) (N:Has w1 w.heap.size #[O qL d.x,O qL d.y] 36)=>Zbn (qS a l.length (l.length+cap)) l w.heap.size d w1 ((HP.out.below B).mono B.size) N GV.out.2.1 (fun k hk=>(GV.out.2.2.1 k hk).1) hd)
 have fQ:=fun u n w1 (hn:n=w1.heap.size) (P:Z7 w1.heap.size w1 u (mvL d l))=>Z2L (qS (some ⟨n,0,none⟩) 1 1) [mvL d l] (w1.alloc (qC #[u] 23)) (Z5r n hn P)
 rw [Z5x,Z1B d GV.out] at fQ;have fQ:=qH fQ;clear hd;go_enter Tryz.func85,Tryz.ntmps85;go_wp2_with fail;refine (fP.out _ _ (by simp) HA.out).mono ?_
 rintro e w1 ⟨rfl,b1⟩;have B1:=qH ((BB.out _ HA.out).trans (b1.mono (BB.out _ HA.out).size));have N1:=(HN.out.below ((qK _ _).alloc (qN _) _) (by simp)).below b1 (by simp;omega)
 have x0:=N1.cell (i:=0) rfl;have x1:=N1.cell (i:=1) rfl;have HN1:=qH N1;clear b1 N1;go_wp2_with fail;refine (fI.out _).mono ?_;rintro e w2 ⟨rfl,b2⟩;have B2:=zAf B1 b2;have HN2:=qH (HN1.out.below b2 HN1.out.lt);clear b2 x0 x1;go_wp2_with fail;refine (fE.out _ B2.out HN2.out).mono ?_;rintro e w3 ⟨u,rfl,p3,b3⟩;have B3:=zAf B2 b3;have P3:=qH p3;obtain⟨a3,c3,hu⟩:=p3.len;subst hu;have BA:=qH ((qK w3.heap.size w3).alloc (qN _) (qC #[qS a3 (mvL d l).length ((mvL d l).length+c3)] 23));clear p3 b3;cases hal:allPl (mvL d l)
 ·rw [hal] at fQ
  have HE2:Hid (shE l d=3):=HE.out.trans (if_neg (by rw [hal];simp))
  have HL:Hid (shL l d=[]):=if_neg (by rw [HE2.out];omega)
  clear hal;go_wp2_with fail;refine (fQ.out _ _ _ rfl P3.out).mono ?_;rintro e w4 ⟨rfl,b4⟩;have B4:=qH (B3.out.trans ((BA.out.trans (b4.mono BA.out.size)).mono B3.out.size));clear b4;go_wp2;go_ret2;exact⟨qS none 0 0,by rw [HE2.out];rfl,by rw [HL.out];exact Z7.nil _ _,B4.out⟩
 ·rw [hal] at fQ
  have HE2:Hid (shE l d=0):=HE.out.trans (if_pos hal);have HL:Hid (shL l d=mvL d l):=if_pos HE2.out;clear hal;go_wp2_with fail;refine (fQ.out _ _ _ rfl P3.out).mono ?_;rintro e w4 ⟨rfl,b4⟩;have C4:=BA.out.trans (b4.mono BA.out.size);have B4:=zAf B3 C4;have P4:=qH ((P3.out.below C4).mono C4.size);clear b4 C4;go_wp2;go_ret2;exact⟨_,by rw [HE2.out];rfl,by rw [HL.out];exact P4.out,B4.out⟩
theorem Z9O {W:World} {B base size n:Nat} {cs:Array Value} {t e:TypeId} {v:Value} {xs:List Value} (h:Has W B cs t) (hr:W.ownsRow base e size v n xs) (hne:t≠e):v.ownBlock≠some B:=by
 intro e';rcases hr.2 with⟨rfl,_⟩ | ⟨g,cap,cur,rfl,_,hg,_⟩
 ·simp [Value.ownBlock] at e'
 ·obtain rfl:g=B:=by simpa [Value.ownBlock] using e'
  rw [show W.heap[g]?=_ from h] at hg
  cases hg;exact hne rfl
def octTo (n k:Int):Nat->List Pt
 | 0=>[]
 | 1=>[⟨-n,-k⟩,⟨-k,-n⟩]
 | 2=>[⟨-n,-k⟩,⟨-k,-n⟩,⟨-n,k⟩,⟨-k,n⟩]
 | 3=>[⟨-n,-k⟩,⟨-k,-n⟩,⟨-n,k⟩,⟨-k,n⟩,⟨n,-k⟩,⟨k,-n⟩]
 | _=>octG n k
theorem ZbY (W:World) (e:TypeId) (a b c d:Value):∀ j u,([a,b,c,d]:List Value)[j]?=some u->(W.alloc (qC #[a,b,c,d] e)).cell? ((⟨W.heap.size,0,none⟩:Addr).add j)=some u:=by
 intro j u hu;have h:=Has.new W #[a,b,c,d] e;have e':(⟨W.heap.size,0,none⟩:Addr).add j=⟨W.heap.size,j,none⟩:=by unfold Addr.add;split <;> simp_all
 rw [e'];exact h.cell (by simpa using hu)
theorem diskE (n:Nat) (h:n<=100000):hulE (octG n (octK n))=0/\hulL (octG n (octK n))=Z4 n:=by
 have e:hulE (octG n (octK n))=0:=by
  unfold hulE;have hp:allPl (octG n (octK n))=true:=by
   rw [Z2e];exact fun x hx=>(Z5D h ((Z7j _ _ x).1 hx)).2
  have hl:=Z27 (octG (n:Int) (octK n));rw [if_neg (by simp [octG]),if_neg (by rw [hp];simp [octG]),if_neg (by have:(octG (n:Int) (octK n)).length=8:=rfl;omega)]
 refine⟨e,?_⟩;unfold hulL;rw [if_pos e];exact diskG n
noncomputable def dskE (n:Int):Int:=if radOk n=true then 0 else 1
noncomputable def dskL (n:Int):List Pt:=if radOk n=true then Z4 n.toNat else []
theorem Zb3 (n:Int) (w:World) (h:radOk n=false) :
  Calls Tryz.prog 84 #[O qL n] w fun e w'=>e=qR (.tuple #[qS none 0 0,O qL 1])/\Below w.heap.size w w':=by
 by_cases h1:n<0
 ·have d1:decide (n<0)=true:=by simpa using h1
  clear h1 h;go_enter Tryz.func84,Tryz.ntmps84;go_wp2;go_ret2;exact⟨rfl,qK _ _⟩
 ·have d1:decide (n<0)=false:=by simpa using h1
  have d2:decide (n>100000)=true:=by simp [radOk] at h;simp;omega
  clear h1 h;go_enter Tryz.func84,Tryz.ntmps84;go_wp2;go_ret2;exact⟨rfl,qK _ _⟩
theorem Z8j (n k:Int):(Za (octTo n k 0)++[O qL (-n),O qL (-k),O qL (-k),O qL (-n)]=Za (octTo n k 1))/\(Za (octTo n k 1)++[O qL (-n),O qL k,O qL (-k),O qL n]=Za (octTo n k 2)) /\
  (Za (octTo n k 2)++[O qL n,O qL (-k),O qL k,O qL (-n)]=Za (octTo n k 3))/\(Za (octTo n k 3)++[O qL n,O qL k,O qL k,O qL n]=Za (octTo n k 4)):=⟨rfl,rfl,rfl,rfl⟩
theorem Z3p (n : Nat) (w : World) (hn : n <= 100000) :
  Calls Tryz.prog 84 #[O qL n] w fun e w'=>∃ u,e=qR (.tuple #[u,O qL 0])/\Z7 w'.heap.size w' u (Z4 n)/\Below w.heap.size w w':=by
 have hsp:=Z2j n;have hw1:=Z72 n;have hw2:=Z5c n;have hkb:=Z6v n;have hk:octK n=(wideN n:Int)-n:=rfl;have fH:=qH (fun v w1 (h:Z7 w1.heap.size w1 v (octG n (octK n)))=>Z7u v (octG n (octK n)) w1 h)
 have HE:=qH (diskE n hn);have HST:=qH (Z8j n (octK n));have HG:Hid (octTo n (octK n) 4=octG n (octK n)):=rfl;obtain⟨W,hW⟩:∃ W,wideN n=W:=⟨_,rfl⟩;rw [hW] at hsp hw1 hw2 hk;have HSP:=qH hsp;obtain⟨k,hkk⟩:∃ k,octK n=k:=⟨_,rfl⟩;rw [hkk] at hk hkb fH HE HST HG;obtain⟨i0,hi,hz0',hz1',hz2'⟩:=info_parts ptInfo;have w4:qW qL (2*(n:Int))=2*n:=zW2;have pn:=ZX (a:=2*(n:Int)) (b:=n) (m:=200000) (n:=100000) (by omega) (by omega) (by omega) (by omega)
 have w5:qW qL (2*(n:Int)*n)=2*n*n:=zW2;have w6:qW qL ((W:Int)-n)=k:=by rw [hk];exact zW2
 have dn:decide ((n:Int)<0)=false:=by simp
 have dn2:decide ((n:Int)>100000)=false:=by simp;omega
 have HK:=qH hk;clear hsp hW hkk hk;go_enter Tryz.func84,Tryz.ntmps84;go_wp2
 go_loopw [4,5] (fun lo hi wr=>∃ a b:Nat,lo=O qL (a:Int)/\hi=O qL (b:Int)/\n<=a/\a<=W/\W<=b/\b<=2*n/\wr=w) (fun lo hi _=>(intOf hi).toNat-(intOf lo).toNat)
 case atStart=>exact⟨n,2*n,rfl,by simp,by omega,by omega,by omega,by omega,rfl⟩
 case round =>
  obtain⟨a,b,rfl,rfl,ha,haW,hWb,hb,rfl⟩:=hrel;by_cases hab:a<b
  ·have dab:decide ((a:Int)<(b:Int))=true:=by simp;omega
   obtain⟨q,hq⟩:∃ q,(a+b) / 2=q:=⟨_,rfl⟩;have w1:qW qL ((a:Int)+b)=a+b:=zW2;have w2:qW qL (((a:Int)+b).tdiv 2)=q:=by
    rw [Int.tdiv_eq_ediv_of_nonneg (by omega),show ((a:Int)+b) / 2=q by omega]
    exact zW2
   have pq:=ZX (a:=(q:Int)) (b:=q) (m:=200000) (n:=200000) (by omega) (by omega) (by omega) (by omega)
   have w3:qW qL ((q:Int)*q)=q*q:=zW2;have hc:(2*(n:Int)*n<=(q:Int)*q)↔W<=q:=by
    have h1:(2*(n:Int)*n<=(q:Int)*q)↔2*n*n<=q*q:=by
     rw [<- Int.ofNat_le];simp
    rw [h1];constructor
    ·intro h
     rcases Nat.lt_or_ge q W with h2 | h2
     ·have:=HSP.out.2 q h2;omega
     ·exact h2
    ·intro h
     exact Nat.le_trans HSP.out.1 (Nat.mul_le_mul h h)
   have hqa:a<=q:=by omega
   have hqb:q<b:=by omega
   clear hq;by_cases hWq:W<=q
   ·have d1:decide ((q:Int)*q>=2*(n:Int)*n)=true:=by rw [decide_eq_true_eq];exact hc.2 hWq
    clear hc pq pn;go_wp2;go_roundw
    case rel=>exact⟨a,q,rfl,rfl,by omega,by omega,by omega,by omega,trivial⟩
    case measure=>simp [intOf];omega
   ·have d1:decide ((q:Int)*q>=2*(n:Int)*n)=false:=by rw [decide_eq_false_iff_not];exact fun h=>hWq (hc.1 h)
    clear hc pq pn;go_wp2;go_roundw
    case rel=>exact⟨q+1,b,by go_num,rfl,by omega,by omega,by omega,by omega,trivial⟩
    case measure=>simp [intOf];omega
  ·have dab:decide ((a:Int)<(b:Int))=false:=by simp;omega
   obtain rfl:a=W:=by omega
   clear hWb hb haW ha pn;obtain⟨wq,rfl⟩:∃ x,x=wr:=⟨_,rfl⟩;have BA:=qH ((qK wq.heap.size wq).alloc (qN _) (qC #[O qL (-1),O qL 1] 3));have NA:=qH (Has.new wq #[O qL (-1),O qL 1] 3);go_wp2
   go_loopw [8,45] (fun v i wx=>∃ c:Nat,c<=2/\i=O qL (c:Int)/\wx.ownsRow (wq.heap.size+1) 36 2 v (4*c) (Za (octTo n k (2*c)))/\Has wx wq.heap.size #[O qL (-1),O qL 1] 3/\Below wq.heap.size wq wx) (fun _ i _=>2-(intOf i).toNat)
   case atStart=>exact⟨0,by omega,rfl,World.ownsRow_nil _ _ _ _,NA.out,BA.out⟩
   case round =>
    obtain⟨wx,rfl⟩:∃ x,x=wr:=⟨_,rfl⟩;obtain⟨c,hc,rfl,hrow,hN,hB⟩:=hrel;have hzB:=hB.size;have hnz:=hN.lt;by_cases hc2:c<2
    ·have dc:decide ((c:Int)<2)=true:=by simp;omega
     have x0:=hN.cell (i:=0) rfl;have x1:=hN.cell (i:=1) rfl;have xc:wx.cell? ⟨wq.heap.size,c,none⟩=some (O qL (if c=0 then -1 else 1)):=by
      rcases (show c=0\/c=1 by omega) with rfl | rfl
      ·exact x0
      ·exact x1
     have c0:(0:Int)<=c:=by omega
     have cl:(c:Int)<2:=by omega
     have BI:=(qK wx.heap.size wx).alloc (qN _) (qC #[O qL (-1),O qL 1] 3);have NI:=qH (Has.new wx #[O qL (-1),O qL 1] 3);have RI:=qH (Zy hrow BI);have NO:=qH (hN.below BI hnz);have BB:=qH (hB.trans (BI.mono hzB));obtain⟨sx,hsx⟩:∃ s:Int,(if c=0 then (-1:Int) else 1)=s:=⟨_,rfl⟩
     rw [hsx] at xc;have HSX:=qH hsx;clear hrow hN hB x0 x1 BI hsx;go_wp2
     go_loopw [8,51] (fun v i wy=>∃ e:Nat,e<=2/\i=O qL (e:Int)/\wy.ownsRow (wq.heap.size+1) 36 2 v (4*c+2*e) (Za (octTo n k (2*c+e)))/\Has wy wq.heap.size #[O qL (-1),O qL 1] 3/\Has wy wx.heap.size #[O qL (-1),O qL 1] 3/\Below wq.heap.size wq wy) (fun _ i _=>2-(intOf i).toNat)
     case atStart=>exact⟨0,by omega,rfl,RI.out,NO.out,NI.out,BB.out⟩
     case round =>
      obtain⟨wy,rfl⟩:∃ x,x=wr:=⟨_,rfl⟩;obtain⟨e,he,rfl,hrow,hN,hM,hB⟩:=hrel;have hzB:=hB.size;by_cases he2:e<2
      ·have de:decide ((e:Int)<2)=true:=by simp;omega
       have x0:=hM.cell (i:=0) rfl;have x1:=hM.cell (i:=1) rfl;have xe:wy.cell? ⟨wx.heap.size,e,none⟩=some (O qL (if e=0 then -1 else 1)):=by
        rcases (show e=0\/e=1 by omega) with rfl | rfl
        ·exact x0
        ·exact x1
       obtain⟨sy,hsy⟩:∃ s:Int,(if e=0 then (-1:Int) else 1)=s:=⟨_,rfl⟩
       rw [hsy] at xe;have bx:-1<=sx/\sx<=1:=by have:=HSX.out;split at this <;> omega
       have by':-1<=sy/\sy<=1:=by split at hsy <;> omega
       have p1:=ZX (a:=sx) (b:=(n:Int)) (m:=1) (n:=100000) (by omega) (by omega) (by omega) (by omega)
       have p2:=ZX (a:=sy) (b:=k) (m:=1) (n:=100000) (by omega) (by omega) (by omega) (by omega)
       have p3:=ZX (a:=sx) (b:=k) (m:=1) (n:=100000) (by omega) (by omega) (by omega) (by omega)
       have p4:=ZX (a:=sy) (b:=(n:Int)) (m:=1) (n:=100000) (by omega) (by omega) (by omega) (by omega)
       have m1:qW qL (sx*(n:Int))=sx*n:=zW2;have m2:qW qL (sy*k)=sy*k:=zW2;have m3:qW qL (sx*k)=sx*k:=zW2;have m4:qW qL (sy*(n:Int))=sy*n:=zW2;have hnew:Hid (Za (octTo n k (2*c+e))++[O qL (sx*n),O qL (sy*k),O qL (sx*k),O qL (sy*n)]=Za (octTo n k (2*c+(e+1)))):=by
        have h1:=HSX.out
        show _=_
        rcases (show c=0\/c=1 by omega) with rfl | rfl <;> rcases (show e=0\/e=1 by omega) with rfl | rfl
        ·simp at h1 hsy;subst h1;subst hsy;simpa using HST.out.1
        ·simp at h1 hsy;subst h1;subst hsy;simpa using HST.out.2.1
        ·simp at h1 hsy;subst h1;subst hsy;simpa using HST.out.2.2.1
        ·simp at h1 hsy;subst h1;subst hsy;simpa using HST.out.2.2.2
       have e0:(0:Int)<=e:=by omega
       have el:(e:Int)<2:=by omega
       have HR:=qH (qI hrow (qI hN (qI hM hB)));have hzz:wq.heap.size+1<=wy.heap.size:=hN.lt;have A:=qH ((qK wy.heap.size wy).alloc (qN _) (qC #[O qL (sx*n),O qL (sy*k),O qL (sx*k),O qL (sy*n)] 36));clear hrow hN hM hB x0 x1 hsy p1 p2 p3 p4 bx by'
       go_wp2_with (at_builtin;refine wpList_append_own _ rfl _ _ 23 rfl (wq.heap.size+1) 36 i0 (.agg #[.int .i64 0,.int .i64 0]) 2 16 Tryz.underlying23 hi hz0' hz1' hz2' rfl (by decide) _ _ _ rfl (HR.out.1.alloc _) ⟨wy.heap.size,0,none⟩ 2 2 [.int .i64 (sx*n),.int .i64 (sy*k),.int .i64 (sx*k),.int .i64 (sy*n)] rfl rfl (ZbY _ _ _ _ _ _) (by simp [Value.oneCell']) (by unfold maxLen;omega) (by omega) (by simp;omega) ?_;intro v' w4 hown' hgrow _)
       go_roundw
       case rel =>
        obtain⟨hrow,hN,hM,hB⟩:=HR.out;have rA:=Zy hrow A.out;refine⟨e+1,by omega,by go_num,?_,(hN.below A.out hN.lt).kept hgrow (fun h=>Z9O hN hrow (by decide) h),(hM.below A.out hM.lt).kept hgrow (fun h=>Z9O hM hrow (by decide) h),?_⟩
        ·rw [<- hnew.out];exact hown'
        ·exact (hB.trans (A.out.mono hzB)).grown hgrow (by simp;omega) (fun j ej=>by have:=(rA.lt j ej).1;omega)
       case measure=>simp [intOf];omega
      ·obtain rfl:e=2:=by omega
       have HR:=qH (qI hrow (qI hN hB));clear hrow hN hM hB;go_wp2;go_roundw
       case rel=>exact⟨c+1,by omega,by go_num,HR.out.1,HR.out.2.1,HR.out.2.2⟩
       case measure=>simp [intOf];omega
    ·obtain rfl:c=2:=by omega
     have PL:=qH (Z7.own (l:=octG n k) hrow (by simp [octG]))
     have HB:=qH hB;clear hrow hN hB;go_wp2_with fail;have f:=fH.out _ _ PL.out;rw [HE.out.1,HE.out.2] at f;refine f.mono ?_;rintro e w2 ⟨u,rfl,pu,bu⟩;have PU:=qH pu;have BU:=zAf HB bu;obtain⟨au,cu,hu⟩:=pu.len;subst hu;clear pu bu f;go_wp2;go_ret2;exact⟨_,rfl,PU.out,BU.out⟩
theorem Z3q (n:Int) (w:World) :
  Calls Tryz.prog 84 #[O qL n] w fun e w'=>∃ u,e=qR (.tuple #[u,O qL (dskE n)])/\Z7 w'.heap.size w' u (dskL n)/\Below w.heap.size w w':=by
 unfold dskE dskL;cases h:radOk n
 ·exact (Zb3 n w h).mono fun e w' ⟨he,hb⟩=>⟨_,he,Z7.nil _ _,hb⟩
 ·have h1:0<=n/\n<=100000:=by simpa [radOk] using h
  obtain⟨q,rfl⟩:∃ q:Nat,n=q:=⟨n.toNat,by omega⟩
  exact Z3p q w (by omega)
theorem Z6N (p:Pt):Zb [p]=Z3 p:=by
 rw [Bool.eq_iff_iff];constructor
 ·intro h;exact ((Z0K h).2.2.1 0 (by simp)).1
 ·intro h
  refine Z0V ⟨by simp,by simp,fun k hk=>?_,fun h3=>by simp at h3⟩
  obtain rfl:k=0:=by simpa using hk
  exact⟨h,fun h0=>by omega⟩
theorem Z44 (x y:Int) (w:World) :
  Calls Tryz.prog 99 #[.agg #[O qL x,O qL y]] w fun e w'=>e=qR (.bool (placeB x y))/\Below w.heap.size w w':=by
 have hA:=(qK w.heap.size w).alloc (qN _) (qC #[O qL x,O qL y] 36);have hs:(w.alloc (qC #[O qL x,O qL y] 36)).heap.size=w.heap.size+1:=by simp
 have f:=Zp _ _ _ (Z9c (w.alloc (qC #[O qL x,O qL y] 36)) x y);rw [hs,Z6N] at f;have B0:=qH (hA.alloc hA.size (qC #[O qL x,O qL y] 36));have f:=qH f;have HP:Hid (Z3 ⟨x,y⟩=placeB x y):=rfl;rw [HP.out] at f;generalize placeB x y=bb at *;clear hA hs HP;go_enter Tryz.func99,Tryz.ntmps99;go_wp2_with fail;refine (f.out).mono ?_;rintro e w1 ⟨rfl,b1⟩;have B1:=zAf B0 b1;clear b1;go_wp2;go_ret;exact⟨rfl,B1.out⟩
theorem Z36 (n:Int) (w:World) :
  Calls Tryz.prog 100 #[O qL n] w fun e w'=>e=qR (.bool (radOk n))/\Below w.heap.size w w':=by
 by_cases h1:0<=n
 ·by_cases h2:n<=100000
  ·have e:radOk n=true:=by simp [radOk,h1,h2]
   rw [e];clear e;go_enter Tryz.func100,Tryz.ntmps100;go_wp2;go_ret;exact⟨rfl,zB2⟩
  ·have e:radOk n=false:=by simp [radOk];omega
   have d:decide (n<=100000)=false:=by simpa using h2
   rw [e];clear e h2;go_enter Tryz.func100,Tryz.ntmps100;go_wp2;go_ret;exact⟨rfl,zB2⟩
 ·have e:radOk n=false:=by simp [radOk];omega
  have d:decide (n>=0)=false:=by simpa using h1
  rw [e];clear e h1;go_enter Tryz.func100,Tryz.ntmps100;go_wp2;go_ret;exact⟨rfl,zB2⟩
theorem Z6n (v:Value) (ls:List (List Pt)) (w:World) (hr:Z6 w.heap.size w v ls) (hl:ls.length<=10) (hn:∀ j,(rk ls j).length<=20000) :
  Calls Tryz.prog 101 #[v] w fun e w'=>∃ u,e=qR (.tuple #[u,O qL (hulE (catTo ls ls.length))])/\Z7 w'.heap.size w' u (hulL (catTo ls ls.length))/\Below w.heap.size w w'/\NewI w.heap.size u:=by
 have f1:=qH (Z4s v ls w hr hl hn);have f2:=qH (fun v w1 (h:Z7 w1.heap.size w1 v (catTo ls ls.length))=>Z7t v _ w1 h)
 have hB0:=qH (qK w.heap.size w);generalize catTo ls ls.length=l at *;clear hr hn;obtain⟨B0,rfl⟩:∃ x,x=hB0:=⟨_,rfl⟩;go_enter Tryz.func101,Tryz.ntmps101;go_wp2_with fail;refine (f1.out).mono ?_;rintro e w1 ⟨v1,rfl,p1,b1⟩;have B1:=zAf B0 b1;have P1:=qH p1;obtain⟨a1,c1,hv1⟩:=p1.len;subst hv1;clear p1 b1;go_wp2_with fail;refine (f2.out _ _ P1.out).mono ?_;rintro e w2 ⟨v2,rfl,p2,b2,n2⟩;have B2:=zAf B1 b2;have P2:=qH p2;have N2:=qH (n2.mono B1.out.size);clear n2;obtain⟨a2,c2,hv2⟩:=p2.len;subst hv2;clear p2 b2;go_wp2;go_ret2;exact⟨_,rfl,P2.out,B2.out,N2.out⟩
theorem Z95 {W:World} {v u:Value} {l m:List Pt} (n:Nat) (hn:n=W.heap.size) (hp:Z7 W.heap.size W v l) (hq:Z7 W.heap.size W u m):Z6 (W.alloc (qC #[v,u] 23)).heap.size (W.alloc (qC #[v,u] 23)) (qS (some ⟨n,0,none⟩) 2 2) [l,m]:=by
 subst hn;have h:=Has.new W #[v,u] 23;have B:=(qK W.heap.size W).alloc (qN _) (qC #[v,u] 23);refine⟨by simp,some ⟨W.heap.size,0,none⟩,0,rfl,.inr ⟨W.heap.size,0,rfl,by simp,fun j hj=>?_⟩⟩
 rcases (show j=0\/j=1 by simp at hj;omega) with rfl | rfl
 ·exact⟨v,h.cell (i:=0) rfl,(hp.below B).mono B.size⟩
 ·exact⟨u,h.cell (i:=1) rfl,(hq.below B).mono B.size⟩
theorem Zbc {a:Pt} {u:Nat} {b:Pt} {v:Nat} (h1:allPl (mvL a (Z4 u))=true) (h2:allPl (mvL b (Z4 v))=true):hulE (mvL a (Z4 u)++mvL b (Z4 v))=0/\hulL (mvL a (Z4 u)++mvL b (Z4 v))=corH a u b v:=by
 have e:hulE (mvL a (Z4 u)++mvL b (Z4 v))=0:=by
  unfold hulE;have hp:allPl (mvL a (Z4 u)++mvL b (Z4 v))=true:=by
   rw [Z2e] at *;intro x hx;rcases List.mem_append.1 hx with h | h
   ·exact h1 x h
   ·exact h2 x h
  have hl:=Z7G a u b v;have l1:=Z13 u;have l2:=Z13 v;have hne:(mvL a (Z4 u)++mvL b (Z4 v)).length≠0:=fun e=>ZbS (List.eq_nil_of_length_eq_zero e)
  rw [if_neg (by rw [List.length_append,Z0k,Z0k];omega),if_neg (by rw [hp];simp only [Bool.true_eq_false,or_false];exact hne),if_neg (by show ¬ 64<(corH a u b v).length;omega)]
 refine⟨e,?_⟩;unfold hulL;rw [if_pos e]
 rfl
end
end Go.Proofs.YthipcinibldgnaaGreat
