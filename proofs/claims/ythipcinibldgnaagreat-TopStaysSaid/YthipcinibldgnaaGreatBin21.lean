/- slices.SortFunc at points, in a row of the call's own. | hull.around: sorted, without doubles, two chains. | hull.Hull; package mink: isPlace, areP .. -/
import Derived.Test.YthipcinibldgnaaGreatBin20
import Derived.Test.YthipcinibldgnaaGreatBin17
open Go.Value renaming int->O,pointer->qP,slice->qS
open Go.Ending renaming returned->qR
open Go.Obj renaming cells->qC
open Go.IntKind renaming wrap->qW,i64->qL
open Go.Lib renaming hid->qH
open Go.RowKit.Below renaming refl->qK
open Nat renaming le_refl->qN
open And renaming intro->qI
open Go renaming undef->qD
set_option linter.unusedSimpArgs false
set_option maxRecDepth 8000
set_option maxHeartbeats 4000000
namespace Go.Proofs.YthipcinibldgnaaGreat
section
attribute [local irreducible] wpQuiet
open Go.RowKit Go.Shelf
instance:Inhabited Pt:=⟨⟨0,0⟩⟩
def encPt (p:Pt):List Value:=[O qL p.x,O qL p.y]
theorem Z91 {w w':World} (h:Below w.heap.size w w') (hd:w.drawn<=w'.drawn):∃ q os,w'=Go.Sort.grow (w.drewN q) os:=by
 refine⟨w'.drawn-w.drawn,w'.heap.extract w.heap.size w'.heap.size,?_⟩;have e:w'.heap=w.heap++w'.heap.extract w.heap.size w'.heap.size:=by
  apply Array.ext_getElem?
  intro i;rw [Array.getElem?_append]
  split
  ·rename_i hi;exact h.block i hi
  ·rename_i hi
   rw [Array.getElem?_extract]
   split
   ·congr 1;omega
   ·exact Array.getElem?_eq_none (by omega)
 obtain⟨c,a,b,f,d⟩:=h;cases w;cases w';simp only [Go.Sort.grow,World.drewN,World.mk.injEq] at *;exact⟨e,a,by omega,c,b⟩
theorem Z6j (ax ay bx by':Int) (w:World) :
  Calls Tryz.prog 113 #[.agg #[O qL ax,O qL ay],.agg #[O qL bx,O qL by']] w fun e w'=>e=qR (O qL (cmpV ax ay bx by'))/\Below w.heap.size w w'/\w.drawn<=w'.drawn:=by
 go_enter Tryz.func113,Tryz.ntmps113;go_wp2
 go_region_held3 (fun w'=>w'.cell? ⟨w.heap.size,0,none⟩=some (O qL ax)/\w'.cell? ⟨w.heap.size,1,none⟩=some (O qL ay)/\w'.cell? ⟨w.heap.size+1,0,none⟩=some (O qL bx)/\w'.cell? ⟨w.heap.size+1,1,none⟩=some (O qL by'))
  (go_keep)
  (first | (go_at_call 158;refine (Z1z _ _ _).mono ?_;rintro e w' ⟨rfl,rfl⟩) | (go_at_call 157;refine Calls.mono (Z9I (w.heap.size+1+1) (cmpI ax bx) (cmpI ay by') _ ?c0 ?c1) ?_;(case c0=>simp [go_sem]);(case c1=>simp [go_sem]);rintro e w' ⟨rfl,rfl⟩))
 all_goals go_wp2
 go_ret;exact⟨rfl,zB2,Nat.le_succ _⟩
theorem Zc4 (x y:Pt) (w:World) :
  Calls Tryz.prog 179 #[.agg (encPt x).toArray,.agg (encPt y).toArray] w fun e w'=>e=qR (O qL (cmpP x y))/\∃ q os,w'=Go.Sort.grow (w.drewN q) os:=by
 obtain⟨d,b⟩:=x;obtain⟨c,a⟩:=y
 have j:cmpP ⟨d,b⟩ ⟨c,a⟩=cmpV d b c a:=rfl
 rw [j];have f:=qH (fun k=>Z6j d b c a k)
 generalize cmpV d b c a=r at *
 change Calls Tryz.prog 179 #[.agg #[O qL d,O qL b],.agg #[O qL c,O qL a]] w _
 clear j;go_enter Tryz.func179,Tryz.ntmps179;go_wp2_with fail;refine (f.out _).mono ?_;rintro e k ⟨rfl,g,m⟩;have l:=((((qK w.heap.size w).alloc (qN _) (qC #[O qL d,O qL b] 36)).alloc (by simp) (qC #[O qL c,O qL a] 36))).trans (g.mono (by simp;omega))
 have n:=qH (Z91 l m);clear g m l;go_wp2;go_ret;exact⟨rfl,n.out⟩
theorem Z7G (x y:Pt):ltOf cmpP x y=decide (LexLt x y):=by unfold ltOf;rw [decide_eq_decide];exact ZaQ
theorem swoPt:Go.Sort.SWO (ltOf cmpP) where
 irrefl x:=by rw [Z7G];simp;exact fun h=>h.irrefl
 trans x y z h1 h2:=by rw [Z7G] at *;simp at *;exact h1.trans h2
 ntrans x y z h1 h2:=by
  rw [Z7G] at *;simp at *;intro h;rcases LexLt.tri x y with c | c | c
  ·exact h1 c
  ·exact h2 (c ▸ h)
  ·exact h2 (c.trans h)
theorem Z6P (d:Array Pt) (i:Nat):d[i]! = nth d.toList i:=by
 by_cases h:i<d.size
 ·simp [nth,List.getD_eq_getElem?_getD,h]
 ·simp [nth,List.getD_eq_getElem?_getD,h];rfl
theorem Z7O (d:Array Pt):Go.Sort.flatK encPt 2 d=(Za d.toList).toArray:=by
 refine Go.Sort.ext_get! (by simp [Zy]) fun t ht=>?_
 have a:t<d.size*2:=by simpa using ht
 rw [Go.Sort.get_flatK _ _ _ t a,Z6P];obtain⟨q,r,c,rfl⟩:∃ q r,r<2/\t=q*2+r:=⟨t / 2,t % 2,Nat.mod_lt _ (by omega),by omega⟩
 have e:q<d.toList.length:=by simp;omega
 obtain⟨f,b⟩:=Z0e d.toList q e;rw [show (q*2+r) / 2=q by omega,show (q*2+r) % 2=r by omega]
 match r,c with
 | 0,_=>simp [encPt,f]
 | 1,_=>simp [encPt,b]
theorem Zbn (base g cap : Nat) (l : List Pt) (w : World) (hr : w.ownsRow base 36 2 (qS (some ⟨g, 0, none⟩) l.length cap) l.length (Za l)) (hsz : l.length <= 1000000) :
  Calls Tryz.prog 178 #[qS (some ⟨g,0,none⟩) l.length cap,.func (.func 179) #[] #[]] w fun e w'=>e=qR (.tuple #[])/\∃ m:List Pt,m.length=l.length/\(∀ x,x ∈ m↔x ∈ l)/\(∀ i j,i<j->j<m.length->¬ LexLt (nth m j) (nth m i)) /\
   w'.ownsRow base 36 2 (qS (some ⟨g,0,none⟩) l.length cap) l.length (Za m)/\w.grownBy w' (some g):=by
 have d:=hr.lt g rfl;have D:Go.Sort.HoldsK encPt 2 w g 0 l.toArray:=by
  intro j hj;rw [Z7O] at hj ⊢;have p:j<l.length*2:=by simpa [Zy] using hj
  rw [Nat.zero_add];refine⟨(hr.cellAt j p).trans ?_,hr.frozenAt j⟩;have:j<(Za l).length:=by rw [Zy];exact p
  simp [this]
 have a:=AnyQ.slices_SortFunc sortPts 2 Tryz.isAgg36 Tryz.sizeOf36 encPt (fun _=>rfl) (fun x v hv=>by simp [encPt] at hv;rcases hv with rfl | rfl <;> rfl) cmpP swoPt 179 #[] g 0 cap l.toArray w
  (enters_of Tryz.func179 (by kernel_rfl) rfl) (fun m F dk _ x y=>Zc4 x y _) D d.2 (by simp;omega)
 change Calls Tryz.prog 178 #[qS (some ⟨g,0,none⟩) l.length cap,_] w _ at a
 refine a.mono ?_;rintro e w' ⟨rfl,c,n,F,C,hs,rfl⟩;have b:c.size=l.length:=by have:=C.1;simpa using this
 refine⟨rfl,c.toList,by simpa using b,fun x=>?_,fun i j hij hj=>?_,?_,?_⟩
 ·have B:=C.2.2
  have G:c.extract 0 l.toArray.size=c:=by rw [List.size_toArray,<- b];exact Array.extract_size
  have E:l.toArray.extract 0 l.toArray.size=l.toArray:=Array.extract_size;rw [G,E] at B;exact B.mem_iff
 ·have:=hs i j (Nat.zero_le _) hij (by simp at hj ⊢;omega)
  rw [Z7G,Z6P,Z6P] at this
  simpa using this
 ·rcases hr.2 with⟨q,_⟩ | ⟨J,A,o,q,H,I,f,u,z,s⟩
  ·simp at q
  ·simp only [Value.slice.injEq,Option.some.injEq,Addr.mk.injEq,and_true,true_and] at q
   obtain⟨rfl,rfl⟩:=q;refine⟨by rw [Zy];simp;omega,.inr ⟨g,cap,Go.Sort.putCells id 0 (Go.Sort.flatK encPt 2 c) o,rfl,H,?_,f,u,?_,?_⟩⟩
   ·unfold Go.Proofs.sortWorldK Go.Sort.putRowK Go.Sort.putRow
    rw [Go.Sort.heap_grow_old _ _ (by simp [Go.Sort.mapBlock,Go.Sort.ahead];exact d.2)]
    simp only [Go.Sort.mapBlock,Go.Sort.ahead,Array.getElem?_modify,if_true];rw [I]
    rfl
   ·simp [Go.Sort.putCells,z]
   ·rw [Z7O]
    apply List.ext_getElem?
    intro i;rw [List.getElem?_take]
    split
    ·rename_i hi
     have r:i<(Za c.toList).length:=by rw [Zy];simp;omega
     have t:i<o.size:=by have:l.length*2<=cap*2:=Nat.mul_le_mul_right 2 f;omega
     simp [Go.Sort.putCells,r,t]
    ·rename_i hi
     rw [List.getElem?_eq_none];rw [Zy];simp;omega
 ·refine⟨rfl,rfl,rfl,?_,fun k hk hne=>?_⟩
  ·simp [Go.Proofs.sortWorldK,Go.Sort.putRowK,Go.Sort.putRow,Go.Sort.mapBlock,Go.Sort.grow,Go.Sort.ahead]
  ·unfold Go.Proofs.sortWorldK Go.Sort.putRowK Go.Sort.putRow
   rw [Go.Sort.heap_grow_old _ _ (by simpa [Go.Sort.mapBlock,Go.Sort.ahead] using hk)]
   simp only [Go.Sort.mapBlock,Go.Sort.ahead,Array.getElem?_modify];rw [if_neg (fun h=>hne (by rw [h]))]
end
section
attribute [local go_sem] Oper.semAt_some
attribute [local irreducible] wpQuiet
open Go.RowKit Go.Shelf
theorem Z1P {P:Program} {F:Fence} {nF:Nat} {w w':World} {ops:Array Oper} {rest:List Oper} {o:Oper} {a:Act} {Q:Exit->Act->World->Prop} (hgd:o.guard=none) (s x:Operand) (t:TypeId)
  (ho:o.op=.call { callee:=.builtin .append,args:=#[s,x],argTypes:=#[t,t] }) {vs vx v':Value} (hs:a.eval s=vs) (hx:a.eval x=vx) (hr:(Builtin.append_ #[t,t] o.type #[vs,vx]).run P w=.ok v' w')
  (h:wpListIn F nF P ops Q rest (a.put o.dst v') w'):wpListIn F nF P ops Q (o::rest) a w:=by
 refine wpListIn_plain hgd fun K hK=>?_
 unfold Oper.wpIn;refine⟨by simp [Oper.about,ho,resolve,Target.leads,Sem.run_pure],?_⟩
 rw [Oper.semAt_plain F _ _ (by rw [ho];intro c hc';cases hc')]
 simp [execOp,ho,resolve,invoke,builtin,hs,hx,hr,Result.andThen];exact hK _ _ h
structure LS (Bc n1:Nat) (L:List Pt) (w0 W:World):Prop where
 row:∃ v,Has W Bc #[v] 211/\W.ownsRow n1 36 2 v L.length (Za L)
 grown:w0.grownBy W (some Bc)
theorem Pushed.ls {Bc n1:Nat} {vc:Value} {L L':List Pt} {w0 W W':World} (h:Pushed Bc n1 vc L' W W') (hr:W.ownsRow n1 36 2 vc L.length (Za L)) (hg:w0.grownBy W (some Bc)) (hn:w0.heap.size<=n1):LS Bc n1 L' w0 W':=by
 obtain⟨a,b,c,_⟩:=h.row;refine⟨⟨a,b,c⟩,h.os.trans hg.os,h.tape.trans hg.tape,h.output.trans hg.output,Nat.le_trans hg.size h.size,fun k hk hne=>?_⟩
 have d:=hg.size;rw [h.kept k (by omega) (fun e=>hne (by rw [e])) (fun e=>by have:=(hr.lt _ e).1;omega)]
 exact hg.block k hk hne
theorem Z1Y (s:List Pt):∀ k,k<=s.length->∀ x,x ∈ chainTo s k->x ∈ s
 | 0,_,x,h=>by simp [chainTo] at h
 | k + 1, hk, x, h => by
  simp only [chainTo,pushP,List.mem_append,List.mem_singleton] at h;rcases h with h | h
  ·exact Z1Y s k (by omega) x (List.mem_of_mem_take h)
  ·rw [h];exact nth_mem' hk
theorem Zal {base n g cap:Nat} {w w1:World} {xs:List Value} {b0:Nat} (hr:w.ownsRow base 36 2 (qS (some ⟨g,0,none⟩) n cap) n xs) (hg:w.grownBy w1 (some g)) (h0:b0<=base) (hb:b0<=w.heap.size):Below b0 w w1 :=
 (qK b0 w).grown hg hb fun j ej=>by cases ej;exact Nat.le_trans h0 (hr.lt g rfl).1
theorem Z9h (W:World) (c1 c2 c3:Array Value) (t1 t2 t3:TypeId):Has (((W.alloc (qC c1 t1)).alloc (qC c2 t2)).alloc (qC c3 t3)) W.heap.size c1 t1/\Has (((W.alloc (qC c1 t1)).alloc (qC c2 t2)).alloc (qC c3 t3)) (W.heap.size+1) c2 t2/\Has (((W.alloc (qC c1 t1)).alloc (qC c2 t2)).alloc (qC c3 t3)) (W.heap.size+2) c3 t3 /\
  Below W.heap.size W (((W.alloc (qC c1 t1)).alloc (qC c2 t2)).alloc (qC c3 t3))/\(((W.alloc (qC c1 t1)).alloc (qC c2 t2)).alloc (qC c3 t3)).heap.size=W.heap.size+3:=by
 have c:=((Has.new W c1 t1).below ((qK (W.heap.size+1) _).alloc (by simp) (qC c2 t2)) (by omega)).below ((qK (W.heap.size+1) _).alloc (by simp) (qC c3 t3)) (by omega)
 have b:=(Has.new (W.alloc (qC c1 t1)) c2 t2).below ((qK (W.heap.size+2) _).alloc (by simp) (qC c3 t3)) (by simp)
 have a:=Has.new ((W.alloc (qC c1 t1)).alloc (qC c2 t2)) c3 t3;simp only [World.size_alloc] at b a;exact⟨c,b,a,(((qK W.heap.size W).alloc (qN _) _).alloc (by simp) _).alloc (by simp;omega) _,by simp⟩
theorem Z2Y {s t:List Pt}:∀ k,(∀ i,i<k->nth s i=nth t i)->chainTo s k=chainTo t k
 | 0,_=>rfl
 | k + 1, h => by
  simp only [chainTo];rw [Z2Y k (fun i hi=>h i (by omega)),h k (by omega)]
theorem Z7f (L:List Pt) (x:Pt):chainP (L++[x])=pushP (chainP L) x:=by
 unfold chainP;rw [List.length_append,List.length_singleton];simp only [chainTo];rw [Z1a,Z2Y (s:=L++[x]) (t:=L) L.length (fun i hi=>Z19 hi)]
theorem ZaX {s:List Pt} (hs:Inc s) (h2:2<=s.length):2<=(chainP s).length/\2<=(chainP s.reverse).length:=by
 have b:=Z1A hs s.length (by omega) (qN _)
 have d:Inc (s.reverse.map ng):=fun i j hij hj=>by
  simp only [List.length_map,List.length_reverse] at hj;rw [Z0j,Z0j,Z9W,Z0G (by omega),Z0G (by omega)]
  exact hs _ _ (by omega) (by omega)
 have a:=Z1A d s.length (by omega) (by simp)
 rw [Z2K] at a;have e:chainTo s s.length=chainP s:=rfl;have k:chainTo s.reverse s.length=chainP s.reverse:=by unfold chainP;rw [List.length_reverse]
 rw [e] at b;rw [k] at a;have c:nth s 0≠nth s (s.length-1):=(hs 0 (s.length-1) (by omega) (by omega)).ne
 constructor
 ·rcases Nat.lt_or_ge (chainP s).length 2 with h | h
  ·have:=b.last
   rw [show (chainP s).length-1=0 by have:=b.pos;omega,b.first] at this
   exact absurd this c
  ·exact h
 ·rcases Nat.lt_or_ge (chainP s.reverse).length 2 with h | h
  ·have f:=a.pos
   have:=a.last;simp only [List.length_map] at f this;rw [show (chainP s.reverse).length-1=0 by omega] at this
   have g:=a.first
   rw [g,Z0j,Z0j,Z0G (by omega),Z0G (by omega)] at this
   have:=Z7C this;rw [show s.length-1-0=s.length-1 by omega,show s.length-1-(s.length-1)=0 by omega] at this
   exact absurd this.symm c
  ·exact h
abbrev IPt:={ p:Nat × Pt // Z3 p.2=true }
def encI (x:IPt):Array Value:=#[O qL (x.1.1:Int),.agg #[O qL x.1.2.x,O qL x.1.2.y]]
def ptsOf (pre:List IPt):List Pt:=pre.map fun x=>x.1.2
theorem Z8s (pre:List IPt) (x:IPt):ptsOf (pre++[x])=ptsOf pre++[x.1.2]:=by simp [ptsOf]
theorem Z6J {pre:List IPt} {x:Pt} (h:x ∈ ptsOf pre):Z3 x=true:=by
 obtain⟨y,_,rfl⟩:=List.mem_map.1 h;exact y.2
theorem Z8t (s:List Pt) (h:∀ i,Z3 (nth s i)=true):ptsOf (upto (fun i=>(⟨(s.length-1-i,nth s (s.length-1-i)),h _⟩:IPt)) s.length)=s.reverse:=by
 refine Zaz (by simp [ptsOf,upto]) fun i hi=>?_
 have a:i<s.length:=by simpa [ptsOf,upto] using hi
 rw [Z0G a];simp [ptsOf,upto,nth,List.getD_eq_getElem?_getD,a]
theorem Zcq {β:Type} {Bc n1 B:Nat} {w0:World} (f:β->List Pt) (hB:w0.heap.size<=B):OwnFrom B (fun (s:β) W=>LS Bc n1 (f s) w0 W):=by
 intro s X Y row h hg hr;obtain⟨v,j,c⟩:=h.row;obtain⟨b,d,g,_⟩:=holdsRow_own n1 Bc 211 36 2 (fun (s:β)=>(f s).length) (fun s=>Za (f s)) (fun _ _=>True) s X Y row ⟨v,j,c,trivial⟩ hg (fun r e=>(hr r e).2)
 have a:=h.grown.size;exact⟨⟨b,d,g⟩,hg.os.trans h.grown.os,hg.tape.trans h.grown.tape,hg.output.trans h.grown.output,Nat.le_trans a hg.size,fun k hk hne=>(hg.block k (by omega) (fun e=>by have:=(hr k e.symm).1;omega)).trans (h.grown.block k hk hne)⟩
set_option linter.unusedVariables false in
set_option maxRecDepth 100000 in
theorem Z6Z (v : Value) (l : List Pt) (w : World) (hp : Z7 w.heap.size w v l) (h0 : 0 < l.length) (hsz : l.length <= 10000) (hpl : ∀ k, k < l.length -> Z3 (nth l k) = true) :
  Calls Tryz.prog 166 #[v] w (PtsN (hullP l) w):=by
 have c1:=qH (ZaS v l w hp h0 (by omega))
 have PL:=qH (fun x (hx:x ∈ l)=>by obtain⟨k,hk,e⟩:=mem_nth' hx;rw [<- e];exact hpl k hk:∀ x,x ∈ l->Z3 x=true)
 obtain⟨a,cap,rfl⟩:=hp.len;clear hp hpl;refine (callsIn_wide (n:=9)).1 ?_;refine callsIn_of_wp_marks Tryz.func166 rfl trivial ?_ rfl;simp only [Tryz.ntmps166,List.size_toArray,List.length_cons,List.length_nil,Nat.reduceAdd,Nat.reduceSub,Array.replicate_succ,Array.replicate_zero,List.push_toArray,List.append_toArray,List.nil_append,List.cons_append];refine wpIn_wide.2 ?_;go_wp2_with fail;refine c1.out.mono ?_;rintro e w1 ⟨v1,rfl,r1,b1⟩;obtain⟨g,q,rfl⟩:=Z0P r1 h0;have c2:=qH (Zbn w.heap.size g q l w1 r1 (by omega))
 have R1:=qH r1;have B1:=qH b1;clear r1 b1 c1;go_wp2_with fail;refine c2.out.mono ?_;rintro e w2 ⟨rfl,m,hml,Q,C,r2,g2⟩;rw [<- hml] at r2;have c3:=qH (Z7a w.heap.size g q m w2 r2 (by omega) (by omega))
 have B2:=qH (B1.out.trans (Zal R1.out g2 (qN _) B1.out.size));have HH:=qH (Z6V C Q);have hinc:=(Z5q C m.length (qN _)).2.1;have hms:=qH (fun x (hx:x ∈ ddP m)=>by
  obtain⟨j,hj,e⟩:=((Z5q C m.length (qN _)).2.2 x).1 hx;exact PL.out x ((Q x).1 (by rw [<- e];exact nth_mem' hj)):∀ x,x ∈ ddP m->Z3 x=true)
 have hpos:=Zdb (m:=m) (by omega)
 have aa:=Z7V m m.length;rw [<- hml];have HML:=qH hml;clear hml;have R2:=qH r2;have hml2:m.length<=10000:=by have:=HML.out;omega
 clear c2 r2 g2 C Q;go_wp2_with fail;refine c3.out.mono ?_;rintro e d ⟨rfl,r3,g3⟩;have B3:=qH (B2.out.trans (Zal R2.out g3 (qN _) B2.out.size))
 change (ddP m).length<=m.length at aa
 have u:Inc (ddP m):=hinc;clear hinc;obtain⟨s,hs⟩:∃ s,ddP m=s:=⟨_,rfl⟩;rw [hs] at HH r3 hms hpos aa u ⊢;have R3:=qH r3;clear c3 r3 g3 hs R1 R2;by_cases h3:s.length<3
 ·have d1:decide ((s.length:Int)<3)=true:=by simp;omega
  have e:goHull s=s:=by unfold goHull;rw [if_pos h3]
  rw [e] at HH;clear e;have PS:=qH (Z7.own R3.out (by omega))
  have HE:=qH HH.out.symm;clear u;go_wp2;exact⟨qS (some ⟨g,0,none⟩) s.length q,by simp [results,Tryz.f166,go_sem],_,rfl,by rw [HE.out];exact PS.out,B3.out,fun b' o' n' c' e'=>by cases e';exact (R3.out.lt g rfl).1⟩
 have d1:decide ((s.length:Int)<3)=false:=by simp;omega
 have e:goHull s=twoP s:=by unfold goHull;rw [if_neg h3]
 rw [e] at HH;clear e;have h3w:=Z9h d #[qS none 0 0] #[qS none 0 0] #[.func (.func 181) #[qP (some ⟨d.heap.size,0,none⟩)] #[]] 211 211 212;obtain⟨W4,hW4⟩:∃ W4,((d.alloc (qC #[qS none 0 0] 211)).alloc (qC #[qS none 0 0] 211)).alloc (qC #[.func (.func 181) #[qP (some ⟨d.heap.size,0,none⟩)] #[]] 212)=W4:=⟨_,rfl⟩;rw [hW4] at h3w;have HW4:=qH hW4;have H4:=qH h3w;have hs10:s.length<=10000:=by omega
 have hg3:=(R3.out.lt g rfl).2;have hw3:=B3.out.size;have S0:Hid (LS d.heap.size (d.heap.size+3) [] W4 W4):=⟨⟨_,h3w.1,World.ownsRow_nil _ _ _ _⟩,World.grownBy.refl _ _⟩;have INC:=qH u;clear hW4 h3w u hml2 aa;go_wp2;rw [HW4.out]
 go_loopw [24] (fun i wr=>∃ k:Nat,k<=s.length/\i=O qL (k:Int)/\LS d.heap.size (d.heap.size+3) (chainTo s k) W4 wr) (fun i _=>s.length-(intOf i).toNat)
 case atStart=>exact⟨0,by omega,rfl,S0.out⟩
 case round =>
  clear S0;obtain⟨k,hk,rfl,hS⟩:=hrel;obtain⟨a1,a2,a3,a4,a5⟩:=H4.out;have z4:=hS.grown.size;have T:∀ b,b<d.heap.size+3->b≠d.heap.size->wr.heap[b]?=W4.heap[b]?:=fun b h1 h2=>hS.grown.block b (by omega) (fun e=>h2 (by cases e;rfl))
  have rg:wr.ownsRow w.heap.size 36 2 (qS (some ⟨g,0,none⟩) s.length q) s.length (Za s):=Z0q R3.out fun b hb=>by cases hb;rw [T g (by omega) (by omega)];exact a4.block g hg3
  have pv:Has wr (d.heap.size+2) #[.func (.func 181) #[qP (some ⟨d.heap.size,0,none⟩)] #[]] 212:=(T _ (by omega) (by omega)).trans a3
  by_cases W:k<s.length
  ·obtain⟨q0,q1⟩:=Z3p rg W
   have hpk:=hms.out _ (nth_mem' W);have hch:Hid (chainTo s (k+1)=pushP (chainTo s k) (nth s k)):=rfl;obtain⟨⟨Z,N⟩,L⟩:∃ p,nth s k=p:=⟨_,rfl⟩;rw [L] at q0 q1 hpk hch;simp only at q0 q1;have V:=(qK wr.heap.size wr).alloc (qN _) (qC #[O qL Z,O qL N] 36);have NX:=Has.new wr #[O qL Z,O qL N] 36;have x0:=cX 0 NX rfl;have x1:=cX 1 NX rfl;have f0:=(pv.below V pv.lt).cell (i:=0) rfl;obtain⟨v,H,z⟩:=hS.row;have hcl:=Z0L s k;have zz:(wr.alloc (qC #[O qL Z,O qL N] 36)).heap.size=wr.heap.size+1:=by simp
   have cp:=qH (Z7u d.heap.size (d.heap.size+3) v (chainTo s k) ⟨Z,N⟩ _ (H.below V H.lt) (Zz z V) (by omega) (fun e=>by have:=(z.lt _ e).1;omega) (fun j hj=>hms.out _ (Z1Y s k hk _ (nth_mem' hj))) hpk (by omega))
   have HL:Hid (∀ w6,Pushed d.heap.size (d.heap.size+3) v (pushP (chainTo s k) ⟨Z,N⟩) (wr.alloc (qC #[O qL Z,O qL N] 36)) w6->LS d.heap.size (d.heap.size+3) (chainTo s (k+1)) W4 w6):=fun w6 h=>by
    rw [hch.out];exact h.ls (Zz z V) ⟨V.os.trans hS.grown.os,V.tape.trans hS.grown.tape,V.output.trans hS.grown.output,by omega,fun b hb R=>(V.block b (by omega)).trans (hS.grown.block b hb R)⟩ (by omega)
   have i1:(k:Int)<s.length:=by omega
   have i2:(0:Int)<=k:=by omega
   have dk:decide ((k:Int)<(s.length:Int))=true:=by simp;omega
   clear a1 a2 a3 a4 a5 rg pv V NX H z hS L T hpk z4;go_wp2_with fail;refine cp.out.mono ?_;rintro e w6 ⟨rfl,F⟩;have HP:=qH (HL.out w6 F);clear F cp HL x0 x1 f0 q0 q1;go_wp2;go_roundw
   case rel=>exact⟨k+1,by omega,by go_num,HP.out⟩
   case measure=>simp [intOf];omega
  ·obtain rfl:k=s.length:=by omega
   have dk:decide ((s.length:Int)<(s.length:Int))=false:=by simp
   have p0:=cX 0 pv rfl;have p1:=Ze pv 0;have HS:=qH hS;have HO:=qH (qI rg pv);have OLD:=qH T;clear a1 a2 a3 a4 a5 rg pv hS T;go_wp2_with (go_at_call 182;refine (Z6p _ _ _ _).mono ?_;rintro e w' ⟨rfl,rfl⟩);have z4:=HS.out.grown.size;obtain⟨a1,a2,a3,a4,a5⟩:=H4.out;have hw:∀ b,b<wr.heap.size->b≠d.heap.size+1+1->((wr.setCell ⟨d.heap.size+1+1,0,none⟩ (.func (.func 181) #[qP (some ⟨d.heap.size+1,0,none⟩)] #[])).alloc (qC #[qS (some ⟨g,0,none⟩) s.length q] 23)).heap[b]?=wr.heap[b]?:=fun b h1 h2 =>
    (Below.heap_alloc _ _ _ (by simpa [World.setCell] using h1)).trans (Below.heap_setCell _ _ _ _ h2)
   have hz8:((wr.setCell ⟨d.heap.size+1+1,0,none⟩ (.func (.func 181) #[qP (some ⟨d.heap.size+1,0,none⟩)] #[])).alloc (qC #[qS (some ⟨g,0,none⟩) s.length q] 23)).heap.size=wr.heap.size+1:=by simp [World.setCell]
   have hbs:=Has.new (wr.setCell ⟨d.heap.size+1+1,0,none⟩ (.func (.func 181) #[qP (some ⟨d.heap.size+1,0,none⟩)] #[])) #[qS (some ⟨g,0,none⟩) s.length q] 23;have hsc:(wr.setCell ⟨d.heap.size+1+1,0,none⟩ (.func (.func 181) #[qP (some ⟨d.heap.size+1,0,none⟩)] #[])).heap.size=wr.heap.size:=by simp [World.setCell]
   rw [hsc] at hbs;have hpv:=(HO.out.2.set 0 (.func (.func 181) #[qP (some ⟨d.heap.size+1,0,none⟩)] #[])).below ((qK (wr.setCell ⟨d.heap.size+2,0,none⟩ (.func (.func 181) #[qP (some ⟨d.heap.size+1,0,none⟩)] #[])).heap.size _).alloc (qN _) (qC #[qS (some ⟨g,0,none⟩) s.length q] 23)) (by rw [hsc];omega)
   have U:wr.grownBy ((wr.setCell ⟨d.heap.size+1+1,0,none⟩ (.func (.func 181) #[qP (some ⟨d.heap.size+1,0,none⟩)] #[])).alloc (qC #[qS (some ⟨g,0,none⟩) s.length q] 23)) (some (d.heap.size+2)):=⟨rfl,rfl,rfl,by omega,fun k hk R=>hw k hk (fun e=>R (by rw [e]))⟩
   obtain⟨t,hW8⟩:∃ t,(wr.setCell ⟨d.heap.size+1+1,0,none⟩ (.func (.func 181) #[qP (some ⟨d.heap.size+1,0,none⟩)] #[])).alloc (qC #[qS (some ⟨g,0,none⟩) s.length q] 23)=t:=⟨_,rfl⟩;rw [hW8] at hw hz8 hbs U ⊢;have hpv8:Has t (d.heap.size+1+1) #[.func (.func 181) #[qP (some ⟨d.heap.size+1,0,none⟩)] #[]] 212:=by rw [<- hW8];exact hpv
   clear hpv hW8 p0 p1 hsc;have M:Below w.heap.size w t:=by
    refine B3.out.trans ⟨?_,?_,?_,by omega,fun b hb=>?_⟩
    ·exact (U.os.trans HS.out.grown.os).trans a4.os
    ·exact (U.tape.trans HS.out.grown.tape).trans a4.tape
    ·exact (U.output.trans HS.out.grown.output).trans a4.output
    ·rw [hw b (by omega) (by omega),OLD.out b (by omega) (by omega)]
     exact a4.block b (by omega)
   have hg8:t.ownsRow w.heap.size 36 2 (qS (some ⟨g,0,none⟩) s.length q) s.length (Za s):=Z0q HO.out.1 fun b hb=>by cases hb;exact hw g (by omega) (by omega)
   have hh8:Has t (d.heap.size+1) #[qS none 0 0] 211:=(hw _ (by omega) (by omega)).trans ((OLD.out _ (by omega) (by omega)).trans a2)
   obtain⟨vl,hl1,hl2⟩:=HS.out.row;have ab:Has t d.heap.size #[vl] 211:=(hw _ (by omega) (by omega)).trans hl1
   have G:t.ownsRow (d.heap.size+3) 36 2 vl (chainTo s s.length).length (Za (chainTo s s.length)):=Z0q hl2 fun b hb=>by have:=hl2.lt b hb;exact hw b (by omega) (by omega)
   have hplc:∀ i,Z3 (nth s i)=true:=fun i=>Z0i (fun k hk=>hms.out _ (nth_mem' hk)) i
   have z44:W4.heap.size=d.heap.size+3:=a5;have H8:=qH (qI hg8 (qI ab (qI G M)));clear hg8 ab G M hl1 hl2 a1 a2 a3 a4 a5 hw U;refine (wpIn_wide (n:=9)).1 ?_;refine wpIn_rangeFunc_ownH rfl (by omega) (gf:=191) (lb:=#[qP (some ⟨wr.heap.size,0,none⟩)]) rfl trivial (enters_of Tryz.func191 (by kernel_rfl) rfl)
    (Z94 encI (fun i=>⟨(s.length-1-i,nth s (s.length-1-i)),hplc _⟩) 8 (by omega) (fun b=>b=wr.heap.size\/b=g) wr.heap.size g q s t (.inl rfl) (.inr rfl) (fun b hb=>by omega) (by omega) (cX 0 hbs rfl) (fun j hj=>Z3p H8.out.1 hj) (fun i hi=>rfl))
    (fun h k=>h.trans k) (fun W' l' o o' hl' _ _ _=>KeepsP.putObj o' (fun b hb=>by omega)) (qK _ _) (fun _=>rfl)
    (fun f X=>LS (d.heap.size+1) t.heap.size (chainP (ptsOf f)) t X)
    (fun _ _ _=>False)
    (Zcq (fun f=>chainP (ptsOf f)) (qN _))
    (fun c=>ownFrom_pure _ (fun _=>False))
    ⟨⟨_,hh8,World.ownsRow_nil _ _ _ _⟩,World.grownBy.refl _ _⟩
    (fun x a' X=>∃ B1,Has X B1 #[O qL x.1.2.x,O qL x.1.2.y] 36/\a'={ tmps:=#[qS a m.length (m.length+cap),qD,qS none 0 0,qS (some ⟨g,0,none⟩) s.length q,qP (some ⟨d.heap.size,0,none⟩),qP (some ⟨d.heap.size+1,0,none⟩),qP (some ⟨d.heap.size+1+1,0,none⟩),qD,u8,qD,qP (some ⟨B1,0,none⟩),qS a m.length (m.length+cap),qS (some ⟨g,0,none⟩) m.length q,qS (some ⟨g,0,none⟩) m.length q,.tuple #[],qS (some ⟨g,0,none⟩) m.length q,qS (some ⟨g,0,none⟩) s.length q,qS (some ⟨g,0,none⟩) s.length q,O qL (s.length:Int),.bool false,qD,.func (.func 181) #[qP (some ⟨d.heap.size,0,none⟩)] #[],qS (some ⟨g,0,none⟩) s.length q,O qL (s.length:Int),O qL (s.length:Int),.bool false,u26,u27,u28,u29,u30,u31,.func (.func 181) #[qP (some ⟨d.heap.size+1,0,none⟩)] #[],qS (some ⟨g,0,none⟩) s.length q,.func (.func 191) #[] #[qP (some ⟨wr.heap.size,0,none⟩)],O qL (x.1.1:Int),.agg #[O qL x.1.2.x,O qL x.1.2.y],qD,qD,qD,qD,qD,qD,qD,qD,qD,qD,qD,qD,qD,qD,qD,qD,qD],defers:=[] })
    (fun x a' _ X Y row hs hg hr=>by obtain⟨B1,g1,g2⟩:=hs;exact⟨B1,Z0v g1 hg (fun r e=>(hr r e).2),g2⟩)
    ?assign ?body ?done ?stop
   case assign =>
    rintro ll f x X K E hK;unfold encI;gi_wp2;have V:=(qK X.heap.size X).alloc (qN _) (qC #[O qL x.1.2.x,O qL x.1.2.y] 36);have hz:=E.grown.size;exact hK _ _ ((KeepsOthers.alloc _ _).from _) (KeepsP.of_below V (fun b hb=>by omega)) ((Zcq (fun f=>chainP (ptsOf f)) (qN t.heap.size)).alloc _ E) ⟨X.heap.size,Has.new _ _ _,rfl⟩
   case body =>
    rintro ll f ⟨⟨ix,⟨Z,N⟩⟩,L⟩ a' X hll ⟨r,hr⟩ E ⟨B1,g1,rfl⟩ W;have hll':=qH hll;have hr':=qH hr;have hlt':=qH W;have hI':=qH E;have hzX:=E.grown.size;have hch:=qH (Z7f (ptsOf f) ⟨Z,N⟩);have hps:=qH (Z8s f ⟨(ix,⟨Z,N⟩),L⟩);obtain⟨v,H,z⟩:=E.row;have pv:Has X (d.heap.size+1+1) #[.func (.func 181) #[qP (some ⟨d.heap.size+1,0,none⟩)] #[]] 212:=(E.grown.block _ (by omega) (fun e=>by simp only [Option.some.injEq] at e;omega)).trans hpv8
    have f0:=cX 0 pv rfl;have x0:=cX 0 g1 rfl;have x1:=cX 1 g1 rfl;have hcl:(chainP (ptsOf f)).length<=10000:=by
     have h1:=Z0L (ptsOf f) (ptsOf f).length;have h2:(ptsOf f).length=f.length:=by simp [ptsOf]
     have h3:(chainP (ptsOf f)).length<=(ptsOf f).length:=h1;omega
    have cp:=qH (Z7u (d.heap.size+1) t.heap.size v (chainP (ptsOf f)) ⟨Z,N⟩ X H z hzX (fun e=>by have:=(z.lt _ e).1;omega) (fun j hj=>Z6J (Z1Y (ptsOf f) _ (qN _) _ (nth_mem' hj))) L (by omega))
    have HV:=qH (qI H z);simp only at x0 x1;clear hll hr W E H z pv g1
    gi_wp2_with (refine⟨trivial,?_⟩;gi_at_call 181;refine (CallsIn.inRound ll (callsIn_wide.2 cp.out)).mono ?_;rintro e w6 ⟨rfl,F⟩)
    have own6:∀ b,v.ownBlock=some b->t.heap.size<=b:=fun b hb=>(HV.out.2.lt b hb).1
    refine⟨⟨F.size,fun k o hk1 hk2 hk3=>?_⟩,⟨F.size,fun b hb=>F.kept b (by omega) (by omega) (fun e=>by have:=own6 b e;omega)⟩,?_⟩
    ·have hkl:=(Array.getElem?_eq_some_iff.1 hk2).1
     refine (F.kept k hkl (fun e=>?_) (fun e=>?_)).trans hk2
     ·subst e
      have:=HV.out.1;rw [show X.heap[d.heap.size+1]?=_ from this] at hk2
      cases hk2;cases hk3
     ·rcases HV.out.2.2 with⟨h',_⟩ | ⟨g',cap',cur,h',_,hg',_⟩
      ·rw [h'] at e;simp [Value.ownBlock] at e
      ·rw [h'] at e
       simp only [Value.ownBlock,Option.some.injEq] at e;subst e;rw [hg'] at hk2;cases hk2;cases hk3
    ·show LS (d.heap.size+1) t.heap.size (chainP (ptsOf (f++[⟨(ix,⟨Z,N⟩),L⟩]))) t w6
     rw [hps.out,hch.out];exact F.ls HV.out.2 hI'.out.grown (qN _)
   case stop=>rintro D c f X hD _ h;exact h.elim
   case done =>
    rintro D ys X hD rfl E hK;replace E:LS (d.heap.size+1) t.heap.size (chainP s.reverse) t X:=by rw [<- Z8t s hplc];exact E
    have hct:=ZaX INC.out (by omega)
    have hcA:chainTo s s.length=chainP s:=rfl;obtain⟨hg8,ab,G,M⟩:=H8.out;rw [hcA] at G;obtain⟨gl,cl,hvl⟩:=Z0P G (by omega)
    obtain⟨vh,hh1,S⟩:=E.row;obtain⟨gh,ch,hvh⟩:=Z0P S (by omega)
    subst hvl;subst hvh;have hzX:=E.grown.size;have hgl:=G.lt gl rfl;have blk:∀ b,b<t.heap.size->b≠d.heap.size+1->X.heap[b]?=t.heap[b]?:=fun b h1 h2=>E.grown.block b h1 (fun e=>h2 (by cases e;rfl))
    have lX:Has X d.heap.size #[qS (some ⟨gl,0,none⟩) (chainP s).length cl] 211:=(blk _ (by omega) (by omega)).trans ab
    have rX:X.ownsRow (d.heap.size+3) 36 2 (qS (some ⟨gl,0,none⟩) (chainP s).length cl) (chainP s).length (Za (chainP s)):=Z0q G fun b hb=>by cases hb;exact blk gl (by omega) (by omega)
    have BX:Below w.heap.size w X:=M.trans ⟨E.grown.os,E.grown.tape,E.grown.output,hzX,fun b hb=>blk b (by omega) (by omega)⟩
    have l0:=Low.fact (cX 0 lX rfl);have h0':=Low.fact (cX 0 hh1 rfl);have la:=Z0L s s.length;have lb:=Z0L s.reverse s.reverse.length;rw [List.length_reverse] at lb;have lbe:chainTo s.reverse s.length=chainP s.reverse:=by unfold chainP;rw [List.length_reverse]
    rw [hcA] at la;rw [lbe] at lb;have htw:Hid (twoP s=(chainP s).take ((chainP s).length-1)++(chainP s.reverse).take ((chainP s.reverse).length-1)):=by
     show _=_
     unfold twoP;rw [List.dropLast_eq_take,List.dropLast_eq_take]
    have J:=(Z0w rX).resolve_left (by simp)
    have I:=(Z0w S).resolve_left (by simp)
    obtain⟨_,_,e1,J⟩:=J;obtain⟨_,_,e2,I⟩:=I;simp only [Value.slice.injEq,true_and] at e1 e2;rw [<- e1.2] at J;rw [<- e2.2] at I;clear e1 e2 hcA lbe;obtain⟨A,hA⟩:∃ A,chainP s=A:=⟨_,rfl⟩;obtain⟨B,hB⟩:∃ B,chainP s.reverse=B:=⟨_,rfl⟩;rw [hA] at l0 la htw hct rX lX J;rw [hB] at h0' lb htw hct hh1 S I;have HX:=qH (qI rX (qI S (qI BX hK)));have k1:qW qL ((A.length:Int)-1)=(A.length:Int)-1:=zW2;have k2:qW qL ((B.length:Int)-1)=(B.length:Int)-1:=zW2;have k3:(0:Int)<=(A.length:Int)-1:=by omega
    have k4:(0:Int)<=(B.length:Int)-1:=by omega
    have k5:((A.length:Int)-1).toNat=A.length-1:=by omega
    have k6:((B.length:Int)-1).toNat=B.length-1:=by omega
    have k7:(A.length:Int)-1<=(cl:Int):=by omega
    have k8:(B.length:Int)-1<=(ch:Int):=by omega
    have k9:A.length-1<=cl:=by omega
    have k10:B.length-1<=ch:=by omega
    have k11:(1:Int)<=A.length:=by omega
    have k12:(1:Int)<=B.length:=by omega
    clear E hg8 ab G M hh1 S hK lX rX BX blk hA hB hgl;go_wp2
    (refine (wpIn_wide (n:=9)).1 ?_;refine Zn (Zk _) 13 (by kernel_rfl) (by kernel_rfl) (by kernel_rfl) ?_;simp only [List.take_succ_cons,List.take_zero,List.drop_succ_cons,List.drop_zero];(iterate 13 (apply qw3;(case hw=>rfl);(case hval=>(intro w1 hw1 hcx;simp only [Oper.quietAt];go_simp;first | done | rfl | exact⟨rfl,rfl⟩));simp only [pT]));refine wpQuiet_nil ?_;intro w2 hw2)
    obtain⟨i0,hi,hz0',hz1',hz2'⟩:=info_parts ptInfo;obtain⟨rX,rH,BX,hK⟩:=HX.out;have rX2:=Z6H (m:=A.length-1) (Zz rX hw2.out) (by omega)
    have rH2:=Z6H (m:=B.length-1) (Zz rH hw2.out) (by omega)
    have hlA:(A.take (A.length-1)).length=A.length-1:=by rw [List.length_take];omega
    have hlB:(B.take (B.length-1)).length=B.length-1:=by rw [List.length_take];omega
    obtain⟨v',w9,hap,r9,g9⟩:=run_append_arg_grows (P:=Tryz.prog) w2 211 211 36 i0 (.agg #[.int .i64 0,.int .i64 0]) 2 16 Tryz.underlying211 hi hz0' hz1' hz2' rfl (by decide) ⟨gl,0,none⟩ (A.length-1) (A.length-1) (Za (A.take (A.length-1))) (by rw [Zy,hlA]) (rX2.cells rfl) ⟨gh,0,none⟩ (B.length-1) ch (Za (B.take (B.length-1))) (by rw [Zy,hlB]) (rH2.cells rfl) (by omega) (by unfold maxLen;omega) (by omega)
    have hD2:=(hw2.out.block D (Array.getElem?_eq_some_iff.1 hK).1).trans hK;have hD9:=(g9.block D (Array.getElem?_eq_some_iff.1 hD2).1 (fun e=>by cases e)).trans hD2
    have B9:Below w.heap.size w w9:=BX.trans ((hw2.out.mono BX.size).trans ((qK w.heap.size w2).grown g9 (Nat.le_trans BX.size hw2.out.size) (fun k e=>by cases e)))
    have HK:=qH hD9;have R9:=qH r9;have HB9:=qH B9;have HZ2:=qH (Nat.le_trans BX.size hw2.out.size);clear hw2 l0 h0' rX rH BX hK rX2 rH2 g9 hD2 hD9 B9 r9;refine Z1P rfl (.tmp 47) (.tmp 52) 211 rfl rfl rfl hap ?_;simp only [pT];clear hap;obtain⟨gv,cv,rfl⟩:=Z0P R9.out (by omega)
    have R:gv≠D:=fun e=>by
     rcases R9.out.2 with⟨h',_⟩ | ⟨g',cap',cur,h',_,hg',_⟩
     ·cases h'
     ·simp only [Value.slice.injEq,Option.some.injEq,Addr.mk.injEq,and_true,true_and] at h'
      rw [<- h'.1,e,HK.out] at hg';cases hg'
    have PF:Z7 (w9.putObj D (.deferred none)).heap.size (w9.putObj D (.deferred none)) (qS (some ⟨gv,0,none⟩) (A.length-1+(B.length-1)) cv) (twoP s):=by
     refine Z7.own (base:=w2.heap.size) (n:=A.length-1+(B.length-1)) ?_ ?_
     ·rw [htw.out,ZV]
      exact Z0q R9.out fun b hb=>by cases hb;exact World.putObj_heap_other R
     ·rw [htw.out,List.length_append,hlA,hlB];omega
    have PFF:=qH PF;have BF:=qH (HB9.out.trans (belowK_b (w:=w) (qN _) _ D _ (.deferred none) (by omega) HK.out rfl rfl))
    clear PF;gi_wp2;go_wp2;refine⟨by simp,.inl ⟨_,_,rfl,run_takeDeferred HK.out,?_⟩⟩
    refine⟨qS (some ⟨gv,0,none⟩) (A.length-1+(B.length-1)) cv,by simp [results,Tryz.f166,go_sem],_,rfl,?_,BF.out,fun b' o' n' c' e'=>by cases e';exact Nat.le_trans HZ2.out (R9.out.lt gv rfl).1⟩
    rw [<- HH.out];exact PFF.out
end
section
attribute [local irreducible] wpQuiet
open Go.RowKit
theorem Z8G (x y:Int) (w:World) :
  Calls Tryz.prog 165 #[.agg #[O qL x,O qL y]] w fun e w'=>e=qR (.bool (!placeB x y))/\Below w.heap.size w w':=by
 have f:=qH (fun d=>Z1V x y d)
 generalize placeB x y=b at *;go_enter Tryz.func165,Tryz.ntmps165;go_wp2_with (go_at_call 64;refine (f.out _).mono ?_;rintro e d ⟨rfl,c⟩;have a:=c.size;try simp at a)
 go_ret;exact⟨rfl,zB2⟩
def FindQ (b:Bool) (w:World) (e:Ending) (w':World):Prop:=∃ r:Int,e=qR (O qL r)/\-1<=r/\r<=9223372036854775807/\decide (0<=r)=b/\Below w.heap.size w w'
theorem Z66 (v : Value) (l : List Pt) (w : World) (hp : Z7 w.heap.size w v l) :
  Calls Tryz.prog 176 #[v,.func (.func 165) #[] #[]] w (FindQ (!allPl l) w):=by
 obtain⟨A,a,z,rfl,n⟩:=hp;go_enter Tryz.func176,Tryz.ntmps176;go_wp2
 go_loopw [8] (fun i wr=>∃ k:Nat,k<=l.length/\i=O qL k/\(∀ j,j<k->Z3 (nth l j)=true)/\Below w.heap.size w wr) (fun i _=>l.length-(intOf i).toNat)
 case atStart=>exact⟨0,Nat.zero_le _,rfl,fun j h=>by omega,qK _ _⟩
 case round =>
  obtain⟨k,B,rfl,c,q⟩:=hrel;by_cases hlt:k<l.length
  ·rcases n with rfl | ⟨b,o,rfl,t,n⟩
   ·simp at hlt
   have C:=(q.cell (p:=⟨b,o+k*2,none⟩) t).trans (n k hlt).1;have E:=(q.cell (p:=⟨b,o+k*2+1,none⟩) t).trans (n k hlt).2;have m:=qH c;have u:=qH n;clear c n;have D:=q.size;have f:=qH (fun s=>Z8G (nth l k).x (nth l k).y s)
   cases hpl:placeB (nth l k).x (nth l k).y
   ·rw [hpl] at f
    have r:Hid (allPl l=false):=by
     show allPl l=false
     simp only [allPl,decide_eq_false_iff_not];intro h;have:=h k hlt;rw [Z3,hpl] at this;cases this
    go_wp2_with (go_at_call 165;refine (f.out _).mono ?_;rintro e s ⟨rfl,g⟩;have d:=g.size;try simp at d)
    go_ret;exact⟨k,rfl,by omega,by omega,by rw [r.out];simp,zB2⟩
   ·rw [hpl] at f
    go_wp2_with (go_at_call 165;refine (f.out _).mono ?_;rintro e s ⟨rfl,g⟩;have d:=g.size;try simp at d)
    go_roundw
    case rel =>
     refine⟨k+1,by omega,by go_num,fun j hj=>?_,zB2⟩
     by_cases e:j=k
     ·rw [e];exact hpl
     ·exact m.out j (by omega)
    case measure=>simp [intOf];omega
  ·have r:Hid (allPl l=true):=by
    show allPl l=true
    simp only [allPl,decide_eq_true_eq];intro j hj;exact c j (by omega)
   clear c;go_wp2;go_ret;exact⟨-1,rfl,by omega,by omega,by rw [r.out];simp,q⟩
theorem Z40 (v:Value) (l:List Pt) (w:World) (hp:Z7 w.heap.size w v l) :
  Calls Tryz.prog 164 #[v,.func (.func 165) #[] #[]] w fun e w'=>e=qR (.bool (!allPl l))/\Below w.heap.size w w':=by
 go_enter Tryz.func164,Tryz.ntmps164;go_wp2_with (go_at_call 176;refine (Z66 _ _ _ hp).mono ?_;rintro e d ⟨r,rfl,c,f,a,b⟩);go_ret;exact⟨by first | rfl | exact Zu a,b⟩
theorem Z2q {l:List Pt}:allPl l=true↔∀ k,k<l.length->Z3 (nth l k)=true:=by simp [allPl]
noncomputable def hulE (l:List Pt):Int:=if 4000<l.length then 2 else if l.length=0\/allPl l=false then 1 else if 64<(hullP l).length then 2 else 0
noncomputable def hulL (l:List Pt):List Pt:=if hulE l=0 then hullP l else []
theorem Z7K (v:Value) (l:List Pt) (w:World) (hp:Z7 w.heap.size w v l) :
  Calls Tryz.prog 142 #[v] w fun e w'=>∃ u,e=qR (.tuple #[u,O qL (hulE l)])/\Z7 w'.heap.size w' u (hulL l)/\Below w.heap.size w w'/\NewI w.heap.size u:=by
 have j:=qH (Z40 v l w hp);have n:=qH (fun d (B:Below w.heap.size w d) h0 hs hpl=>Z6Z v l d ((hp.below B).mono B.size) h0 hs hpl)
 obtain⟨a,D,rfl⟩:=hp.len;clear hp;by_cases h1:4000<l.length
 ·have r:decide ((l.length:Int)>4000)=true:=by simp;omega
  have b:Hid (hulE l=2):=if_pos h1;have c:Hid (hulL l=[]):=if_neg (by rw [b.out];omega)
  go_enter Tryz.func142,Tryz.ntmps142;go_wp2;go_ret2;exact⟨qS none 0 0,by rw [b.out];rfl,by rw [c.out];exact Z7.nil _ _,qK _ _,NewI.nil _⟩
 have r:decide ((l.length:Int)>4000)=false:=by simp;omega
 by_cases h2:l.length=0
 ·have t:((l.length:Int) == 0)=true:=by rw [beq_iff_eq];omega
  have b:Hid (hulE l=1):=(if_neg h1).trans (if_pos (.inl h2));have c:Hid (hulL l=[]):=if_neg (by rw [b.out];omega)
  go_enter Tryz.func142,Tryz.ntmps142;go_wp2;go_ret2;exact⟨qS none 0 0,by rw [b.out];rfl,by rw [c.out];exact Z7.nil _ _,qK _ _,NewI.nil _⟩
 have t:((l.length:Int) == 0)=false:=by rw [beq_eq_false_iff_ne];omega
 cases h3:allPl l
 ·rw [h3] at j
  have b:Hid (hulE l=1):=(if_neg h1).trans (if_pos (.inr h3));have c:Hid (hulL l=[]):=if_neg (by rw [b.out];omega)
  clear h3;go_enter Tryz.func142,Tryz.ntmps142;go_wp2_with fail;refine j.out.mono ?_;rintro e d ⟨rfl,f⟩;have g:=qH f;clear f;go_wp2;go_ret2;exact⟨qS none 0 0,by rw [b.out];rfl,by rw [c.out];exact Z7.nil _ _,g.out,NewI.nil _⟩
 rw [h3] at j;have A:=qH (fun d B=>n.out d B (by omega) (by omega) (Z2q.1 h3))
 have b:Hid (hulE l=if 64<(hullP l).length then 2 else 0):=(if_neg h1).trans (if_neg (by rintro (h | h);exact h2 h;rw [h3] at h;cases h))
 have q:=Z2c l;clear h3 n;go_enter Tryz.func142,Tryz.ntmps142;go_wp2_with fail;refine j.out.mono ?_;rintro e d ⟨rfl,f⟩;have g:=qH f;clear f;go_wp2_with fail;refine (A.out _ g.out).mono ?_;rintro e F ⟨E,rfl,k,m,o⟩;have p:=zAd g m;have C:=qH k;have s:=qH (o.mono g.out.size);obtain⟨z,y,rfl⟩:=k.len;clear k m o;by_cases h4:64<(hullP l).length
 ·have x:decide (((hullP l).length:Int)>64)=true:=by simp;omega
  rw [if_pos h4] at b;have c:Hid (hulL l=[]):=if_neg (by rw [b.out];omega)
  go_wp2;go_ret2;exact⟨qS none 0 0,by rw [b.out];rfl,by rw [c.out];exact Z7.nil _ _,p.out,NewI.nil _⟩
 ·have x:decide (((hullP l).length:Int)>64)=false:=by simp;omega
  rw [if_neg h4] at b;have c:Hid (hulL l=hullP l):=if_pos b.out;go_wp2;go_ret2;exact⟨qS z (hullP l).length ((hullP l).length+y),by rw [b.out];rfl,by rw [c.out];exact C.out,p.out,s.out⟩
theorem Z7L (v:Value) (l:List Pt) (w:World) (hp:Z7 w.heap.size w v l) :
  Calls Tryz.prog 142 #[v] w fun e w'=>∃ u,e=qR (.tuple #[u,O qL (hulE l)])/\Z7 w'.heap.size w' u (hulL l)/\Below w.heap.size w w':=(Z7K v l w hp).mono fun _ _ ⟨u,a,b,c,_⟩=>⟨u,a,b,c⟩
theorem Z9D (W:World) (x y:Int):Z7 (W.alloc (qC #[O qL x,O qL y] 36)).heap.size (W.alloc (qC #[O qL x,O qL y] 36)) (qS (some ⟨W.heap.size,0,none⟩) 1 1) [⟨x,y⟩] :=
 ZcK (l:=[⟨x,y⟩]) (Has.new W #[O qL x,O qL y] 36) (by simp)
theorem ZbN (p:Pt):hulE [p]=if Z3 p=true then 0 else 1:=by
 have h:hullP [p]=[p]:=(Z3a (Z7x p)).symm;have a:allPl [p]=Z3 p:=by
  rw [Bool.eq_iff_iff,Z2q];exact⟨fun h=>h 0 (by simp),fun h k hk=>by obtain rfl:k=0:=(by simpa using hk);exact h⟩
 unfold hulE;rw [h,a];cases Z3 p <;> simp
theorem Z6q (v:Value) (l:List Pt) (w:World) (hp:Z7 w.heap.size w v l) :
  Calls Tryz.prog 167 #[v] w fun e w'=>e=qR (.bool (!Zb l))/\Below w.heap.size w w':=by
 have f:=qH (Zs v l w hp);clear hp;generalize Zb l=b at *;go_enter Tryz.func167,Tryz.ntmps167;go_wp2_with (go_at_call 63;refine (f.out).mono ?_;rintro e d ⟨rfl,c⟩;have a:=c.size;try simp at a)
 go_ret;exact⟨rfl,zB2⟩
theorem Z4b (v : Value) (l : List (List Pt)) (w : World) (hr : Z6 w.heap.size w v l) :
  Calls Tryz.prog 161 #[v,.func (.func 167) #[] #[]] w (FindQ (!polysB l) w):=by
 obtain⟨z,a,y,rfl,n⟩:=hr;go_enter Tryz.func161,Tryz.ntmps161;go_wp2
 go_loopw [8] (fun i wr=>∃ k:Nat,k<=l.length/\i=O qL k/\(∀ j,j<k->Zb (rk l j)=true)/\Below w.heap.size w wr) (fun i _=>l.length-(intOf i).toNat)
 case atStart=>exact⟨0,Nat.zero_le _,rfl,fun j h=>by omega,qK _ _⟩
 case round =>
  obtain⟨k,A,rfl,c,p⟩:=hrel;by_cases hlt:k<l.length
  ·rcases n with rfl | ⟨b,o,rfl,t,n⟩
   ·simp at hlt
   obtain⟨u,r,q⟩:=n k hlt;have B:=cY p r t;have f:=qH (Z6q u (rk l k) wr ((q.below p).mono p.size));have m:=qH c;have x:=qH n;clear c n r q;have C:=p.size;cases hpl:Zb (rk l k)
   ·rw [hpl] at f
    have hr:Hid (polysB l=false):=by
     show polysB l=false
     simp only [polysB,decide_eq_false_iff_not];intro h;have:=h k hlt;rw [hpl] at this;cases this
    go_wp2_with (go_at_call 167;refine (f.out).mono ?_;rintro e s ⟨rfl,g⟩;have d:=g.size;try simp at d)
    go_ret;exact⟨k,rfl,by omega,by omega,by rw [hr.out];simp,zB2⟩
   ·rw [hpl] at f
    go_wp2_with (go_at_call 167;refine (f.out).mono ?_;rintro e s ⟨rfl,g⟩;have d:=g.size;try simp at d)
    go_roundw
    case rel =>
     refine⟨k+1,by omega,by go_num,fun j hj=>?_,zB2⟩
     by_cases e:j=k
     ·rw [e];exact hpl
     ·exact m.out j (by omega)
    case measure=>simp [intOf];omega
  ·have hr:Hid (polysB l=true):=by
    show polysB l=true
    simp only [polysB,decide_eq_true_eq];intro j hj;exact c j (by omega)
   clear c;go_wp2;go_ret;exact⟨-1,rfl,by omega,by omega,by rw [hr.out];simp,p⟩
theorem Z2H (v:Value) (l:List (List Pt)) (w:World) (hr:Z6 w.heap.size w v l) :
  Calls Tryz.prog 127 #[v,.func (.func 167) #[] #[]] w fun e w'=>e=qR (.bool (!polysB l))/\Below w.heap.size w w':=by
 go_enter Tryz.func127,Tryz.ntmps127;go_wp2_with (go_at_call 161;refine (Z4b _ _ _ hr).mono ?_;rintro e d ⟨r,rfl,c,f,a,b⟩);go_ret;exact⟨by first | rfl | exact Zu a,b⟩
theorem Z30 (v:Value) (l:List (List Pt)) (w:World) (hr:Z6 w.heap.size w v l) :
  Calls Tryz.prog 143 #[v] w fun e w'=>e=qR (.bool (polysB l))/\Below w.heap.size w w':=by
 have f:=qH (Z2H v l w hr);clear hr;generalize polysB l=b at *;go_enter Tryz.func143,Tryz.ntmps143;go_wp2_with (go_at_call 127;refine (f.out).mono ?_;rintro e d ⟨rfl,c⟩;have a:=c.size;try simp at a)
 go_ret;exact⟨Zu (by simp),zB2⟩
end
theorem ZcO {d x:Pt} {l:List Pt}:x ∈ mvL d l↔∃ y,y ∈ l/\mvP d y=x:=by simp [mvL]
def oct0 (n k:Int):List Pt:=[⟨n,-k⟩,⟨n,k⟩,⟨k,n⟩,⟨-k,n⟩,⟨-n,k⟩,⟨-n,-k⟩,⟨-k,-n⟩,⟨k,-n⟩]
def octG (n k:Int):List Pt:=[⟨-n,-k⟩,⟨-k,-n⟩,⟨-n,k⟩,⟨-k,n⟩,⟨n,-k⟩,⟨k,-n⟩,⟨n,k⟩,⟨k,n⟩]
theorem Z7A (n k:Int):∀ x,x ∈ octG n k↔x ∈ oct0 n k:=by
 intro x;simp only [octG,oct0,List.mem_cons,List.not_mem_nil,or_false];constructor
 ·rintro (h | h | h | h | h | h | h | h) <;> simp [h]
 ·rintro (h | h | h | h | h | h | h | h) <;> simp [h]
noncomputable def Z4 (n:Nat):List Pt:=hullP (oct0 n (octK n))
theorem diskG (n:Nat):hullP (octG n (octK n))=Z4 n:=Z6W (Z7A _ _)
theorem Z5W {n:Nat} (h:n<=100000) {x:Pt} (hx:x ∈ oct0 n (octK n)):(-(n:Int)<=x.x/\x.x<=n/\-(n:Int)<=x.y/\x.y<=n)/\Z3 x=true:=by
 have k:=Z55 n;rw [Z1o];simp only [oct0,List.mem_cons,List.not_mem_nil,or_false] at hx;rcases hx with rfl | rfl | rfl | rfl | rfl | rfl | rfl | rfl
 all_goals (simp only;omega)
theorem Z1d (n:Nat):(Z4 n).length<=8:=Z2c _
theorem Z0t {n:Nat} (h:n<=100000):GoValid (Z4 n):=Z4z (Z0C _) (by simp [oct0]) (by have:=Z1d n;omega) fun _ hx=>(Z5W h hx).2
theorem Z0D {l:List Pt} (d:Pt) (h:GoValid l):Zb (mvL d l)=allPl (mvL d l):=by
 rw [Bool.eq_iff_iff,Z2q];constructor
 ·intro hv k hk
  exact ((ZY hv).2.2.1 k hk).1
 ·intro hp
  refine Z0g ⟨by rw [Z0k];exact h.1,by rw [Z0k];exact h.2.1,fun k hk=>⟨hp k hk,fun h0=>?_⟩,fun h3 i hi j hj n1 n2=>?_⟩
  ·rw [Z0k] at hk
   rw [Z1S d (by omega),Z1S d hk,cmp_mv]
   exact (h.2.2.1 k hk).2 h0
  ·rw [Z0k] at h3 hi hj
   rw [Z9r d hi,Z1S d hj] at n1 n2 ⊢;have:=h.2.2.2 h3 i hi j hj (fun e=>n1 (by rw [e];rfl)) (fun e=>n2 (by rw [e];rfl))
   show 0<Z5 (mvP d _) (mvP d _) (mvP d _)
   rw [Z9b];exact this
noncomputable def shE (l:List Pt) (d:Pt):Int:=if Zb l=true/\Z3 d=true then (if allPl (mvL d l)=true then 0 else 3) else 1
noncomputable def shL (l:List Pt) (d:Pt):List Pt:=if shE l d=0 then mvL d l else []
def radOk (n:Int):Bool:=decide (0<=n/\n<=100000)
noncomputable def corE (a:Pt) (u:Int) (b:Pt) (v:Int):Int :=
 if Z3 a=true/\Z3 b=true/\radOk u=true/\radOk v=true then (if allPl (mvL a (Z4 u.toNat))=true/\allPl (mvL b (Z4 v.toNat))=true then 0 else 3) else 1
noncomputable def corH (a:Pt) (u:Nat) (b:Pt) (v:Nat):List Pt:=hullP (mvL a (Z4 u)++mvL b (Z4 v))
noncomputable def corL (a:Pt) (u:Int) (b:Pt) (v:Int):List Pt:=if corE a u b v=0 then corH a u.toNat b v.toNat else []
theorem Z7W (a:Pt) (u:Nat) (b:Pt) (v:Nat):(corH a u b v).length<=16:=by
 have h:=Z2c (mvL a (Z4 u)++mvL b (Z4 v));rw [List.length_append,Z0k,Z0k] at h;have:=Z1d u;have:=Z1d v;unfold corH;omega
theorem Zc5 {l:List Pt} {x:Pt}:x ∈ l↔∃ k,k<l.length/\nth l k=x:=⟨mem_nth',fun ⟨_,hk,e⟩=>e ▸ nth_mem' hk⟩
theorem Z2p {l:List Pt}:allPl l=true↔∀ x,x ∈ l->Z3 x=true:=by
 rw [Z2q];exact⟨fun h x hx=>by obtain⟨k,a,rfl⟩:=Zc5.1 hx;exact h k a,fun h k a=>h _ (nth_mem' a)⟩
theorem Zcw {a:Pt} {u:Nat} {b:Pt} {v:Nat}:mvL a (Z4 u)++mvL b (Z4 v)≠[]:=by
 have d:=(Z0C (oct0 u (octK u))).some (by simp [oct0])
 intro h;have c:=congrArg List.length h;rw [List.length_append,Z0k] at c;unfold Z4 at c;simp at c;rw [c.1] at d;simp at d
theorem Z0A {a:Pt} {u:Int} {b:Pt} {v:Int} (h:corE a u b v=0):(Z3 a=true/\Z3 b=true/\0<=u/\u<=100000/\0<=v/\v<=100000)/\allPl (mvL a (Z4 u.toNat))=true/\allPl (mvL b (Z4 v.toNat))=true:=by
 unfold corE at h
 split at h
 ·rename_i h1
  have c:0<=u/\u<=100000:=by simpa [radOk] using h1.2.2.1
  have d:0<=v/\v<=100000:=by simpa [radOk] using h1.2.2.2
  split at h
  ·rename_i h2
   exact⟨⟨h1.1,h1.2.1,c.1,c.2,d.1,d.2⟩,h2⟩
  ·cases h
 ·cases h
theorem Z2o {a:Pt} {u:Int} {b:Pt} {v:Int} (h:corE a u b v=0):GoValid (corH a u.toNat b v.toNat):=by
 obtain⟨_,c,d⟩:=Z0A h;rw [Z2p] at c d;refine Z4z (Z0C _) Zcw (by have:=Z7W a u.toNat b v.toNat;omega) fun x hx=>?_
 rcases List.mem_append.1 hx with h | h
 ·exact c x h
 ·exact d x h
theorem Zac {l:List Pt} (d:Pt) (h1:1<=l.length) {x:Pt} (h:InH l x.x x.y 1):InH (mvL d l) (mvP d x).x (mvP d x).y 1:=by
 unfold InH at *;rw [Z0k];by_cases h3:l.length<3
 ·rw [if_pos h3] at h ⊢
  rw [Z1S d (by omega),Z1S d (by omega)]
  obtain⟨K,s,t,c,e,b,g,f,a⟩:=h;refine⟨K,s,t,c,e,b,?_,?_,a⟩
  ·show K*(x.x+d.x)=s*(_+d.x)+t*(_+d.x)
   rw [Int.mul_one] at a;subst a
   grind
  ·show K*(x.y+d.y)=s*(_+d.y)+t*(_+d.y)
   rw [Int.mul_one] at a;subst a
   grind
 ·rw [if_neg h3] at h ⊢
  intro i hi;have:=h i hi;rw [Z13] at this ⊢;rw [Z9r d hi];exact (Z9b d _ _ _).symm ▸ this
theorem Zc1 {n:Nat} {x y:Int} (x1:-(n:Int)<=x) (x2:x<=n) (y1:-(n:Int)<=y) (y2:y<=n) (q1:x+y<=n+octK n) (q2:x-y<=n+octK n) (q3:-x+y<=n+octK n) (q4:-x-y<=n+octK n):InH (Z4 n) x y 1:=by
 have k:=Z55 n;have h:∀ p,p ∈ oct0 n (octK n)->InH (Z4 n) p.x p.y 1:=fun p hp=>Z5g (Z0C _) hp
 exact oct_in (P:=InH (Z4 n)) (fun a b c d e f g i=>Z2z a b c d e f g i) k.1 k.2 (h ⟨n,-octK n⟩ (by simp [oct0])) (h ⟨n,octK n⟩ (by simp [oct0])) (h ⟨octK n,n⟩ (by simp [oct0])) (h ⟨-octK n,n⟩ (by simp [oct0]))
  (h ⟨-n,octK n⟩ (by simp [oct0])) (h ⟨-n,-octK n⟩ (by simp [oct0])) (h ⟨-octK n,-n⟩ (by simp [oct0])) (h ⟨octK n,-n⟩ (by simp [oct0])) x1 x2 y1 y2 q1 q2 q3 q4
theorem Z2J {n:Nat} {x y:Int} (h:x*x+y*y<=(n:Int)*n):InH (Z4 n) x y 1:=by
 obtain⟨⟨a,b,c,d⟩,e,f,g,i⟩:=Z8R h;exact Zc1 a b c d e f g i
theorem ZbD {n:Nat} {x:Pt} (hx:x ∈ oct0 n (octK n)):(-(n:Int)<=x.x/\x.x<=n/\-(n:Int)<=x.y/\x.y<=n)/\(x.x+x.y<=n+octK n/\x.x-x.y<=n+octK n/\-x.x+x.y<=n+octK n/\-x.x-x.y<=n+octK n):=by
 have k:=Z55 n;simp only [oct0,List.mem_cons,List.not_mem_nil,or_false] at hx;rcases hx with rfl | rfl | rfl | rfl | rfl | rfl | rfl | rfl
 all_goals (simp only;omega)
theorem Zdd {a:Pt} {u:Int} {b:Pt} {v:Int} (h:corE a u b v=0) {x:Pt} (hx:InH (Z4 u.toNat) x.x x.y 1):InH (corH a u.toNat b v.toNat) (x.x+a.x) (x.y+a.y) 1:=by
 have V:=Z2o h;obtain⟨⟨_,_,f,e,_,_⟩,c,_⟩:=Z0A h;have D:=Z0t (n:=u.toNat) (by omega)
 have d:GoValid (mvL a (Z4 u.toNat)):=ZY (by rw [Z0D a D];exact c)
 exact Z2y d (fun k hk=>ZM V.1 (Z5g (Z0C _) (List.mem_append.2 (.inl (nth_mem' hk))))) V (Zac a D.1 hx)
theorem Zdc {a:Pt} {u:Int} {b:Pt} {v:Int} (h:corE a u b v=0) {x:Pt} (hx:InH (Z4 v.toNat) x.x x.y 1):InH (corH a u.toNat b v.toNat) (x.x+b.x) (x.y+b.y) 1:=by
 have V:=Z2o h;obtain⟨⟨_,_,_,_,f,e⟩,_,c⟩:=Z0A h;have D:=Z0t (n:=v.toNat) (by omega)
 have d:GoValid (mvL b (Z4 v.toNat)):=ZY (by rw [Z0D b D];exact c)
 exact Z2y d (fun k hk=>ZM V.1 (Z5g (Z0C _) (List.mem_append.2 (.inr (nth_mem' hk))))) V (Zac b D.1 hx)
theorem Z6h {a:Pt} {u:Int} {b:Pt} {v:Int} (h:corE a u b v=0) {p q:Pt} (hp:p.x*p.x+p.y*p.y<=u*u) (hq:q.x*q.x+q.y*q.y<=v*v) {s t x y:Int} (hs:0<=s) (ht:0<=t) (hst:0<s+t)
  (ex:(s+t)*x=s*(a.x+p.x)+t*(b.x+q.x)) (ey:(s+t)*y=s*(a.y+p.y)+t*(b.y+q.y)):InH (corH a u.toNat b v.toNat) x y 1:=by
 obtain⟨⟨_,_,k,g,j,l⟩,_,_⟩:=Z0A h;have e:((u.toNat:Nat):Int)=u:=by omega
 have f:((v.toNat:Nat):Int)=v:=by omega
 have d:=Zdd h (x:=p) (Z2J (by rw [e];exact hp))
 have c:=Zdc h (x:=q) (Z2J (by rw [f];exact hq))
 refine Z2z hst hs ht ?_ ?_ ?_ d c
 ·rw [ex,Int.add_comm p.x,Int.add_comm q.x]
 ·rw [ey,Int.add_comm p.y,Int.add_comm q.y]
 ·omega
theorem Zc2 {a:Pt} {u:Int} {b:Pt} {v:Int} (ha:-400000<=a.x/\a.x<=400000/\-400000<=a.y/\a.y<=400000) (hb:-400000<=b.x/\b.x<=400000/\-400000<=b.y/\b.y<=400000) (hu:0<=u/\u<=100000) (hv:0<=v/\v<=100000):corE a u b v=0:=by
 have d:∀ {c:Pt} {n:Nat},n<=100000->(-400000<=c.x/\c.x<=400000/\-400000<=c.y/\c.y<=400000)->allPl (mvL c (Z4 n))=true:=fun {c n} hn hc=>by
  rw [Z2p];intro x hx;obtain⟨y,e,rfl⟩:=ZcO.1 hx;have o:=(ZbD (Zae e)).1;rw [Z1o];unfold mvP;simp only;omega
 unfold corE;rw [if_pos ⟨Z1o.2 (by omega),Z1o.2 (by omega),by simp [radOk];omega,by simp [radOk];omega⟩,if_pos ⟨d (by omega) ha,d (by omega) hb⟩]
section
attribute [local irreducible] hulE hulL
attribute [local irreducible] wpQuiet
open Go.RowKit
theorem Z2S (x y:Int) (w:World) :
  Calls Tryz.prog 144 #[.agg #[O qL x,O qL y]] w fun e w'=>e=qR (.bool (placeB x y))/\Below w.heap.size w w':=by
 have c:=(qK w.heap.size w).alloc (qN _) (qC #[O qL x,O qL y] 36);have hs:(w.alloc (qC #[O qL x,O qL y] 36)).heap.size=w.heap.size+1:=by simp
 have f:=Z7L _ _ _ (Z9D (w.alloc (qC #[O qL x,O qL y] 36)) x y);rw [hs] at f;have d:=qH (c.alloc c.size (qC #[O qL x,O qL y] 36));have g:hulE [⟨x,y⟩]=if placeB x y=true then 0 else 1:=ZbN ⟨x,y⟩
 rw [g] at f;have f:=qH f;clear c g hs;cases hp:placeB x y
 ·rw [hp] at f
  go_enter Tryz.func144,Tryz.ntmps144;go_wp2_with fail;refine f.out.mono ?_;rintro e j ⟨u,rfl,_,a⟩;have b:=zAd d a;clear a;go_wp2;go_ret;exact⟨rfl,b.out⟩
 ·rw [hp] at f
  go_enter Tryz.func144,Tryz.ntmps144;go_wp2_with fail;refine f.out.mono ?_;rintro e j ⟨u,rfl,_,a⟩;have b:=zAd d a;clear a;go_wp2;go_ret;exact⟨rfl,b.out⟩
theorem Z5L {W:World} {v:Value} {l:List Pt} (n:Nat) (hn:n=W.heap.size) (hp:Z7 W.heap.size W v l):Z6 (W.alloc (qC #[v] 23)).heap.size (W.alloc (qC #[v] 23)) (qS (some ⟨n,0,none⟩) 1 1) [l]:=by
 subst hn;have h:=Has.new W #[v] 23;have B:=(qK W.heap.size W).alloc (qN _) (qC #[v] 23);refine⟨by simp,some ⟨W.heap.size,0,none⟩,0,rfl,.inr ⟨W.heap.size,0,rfl,by simp,fun j hj=>?_⟩⟩
 obtain rfl:j=0:=by simpa using hj
 exact⟨v,cX 0 h rfl,(hp.below B).mono B.size⟩
theorem Z5Q (l:List Pt):polysB [l]=Zb l:=by
 rw [Bool.eq_iff_iff,Z8v];exact⟨fun h=>h 0 (by simp),fun h j hj=>by obtain rfl:j=0:=(by simpa using hj);exact h⟩
theorem Zcm {l:List Pt} {d:Pt} (h:Zb l=false\/Z3 d=false):shE l d=1/\shL l d=[]:=by
 have:shE l d=1:=if_neg (by rintro ⟨a,b⟩;rcases h with h | h <;> simp_all)
 exact⟨this,if_neg (by rw [this];omega)⟩
theorem Z10 (v:Value) (l:List Pt) (d:Pt) (w:World) (hp:Z7 w.heap.size w v l) :
  Calls Tryz.prog 85 #[v,.agg #[O qL d.x,O qL d.y]] w fun e w'=>∃ u,e=qR (.tuple #[u,O qL (shE l d)])/\Z7 w'.heap.size w' u (shL l d)/\Below w.heap.size w w':=by
 have f:=fun n b (hn:n=b.heap.size) (B:Below w.heap.size w b)=>Z30 (qS (some ⟨n,0,none⟩) 1 1) [l] (b.alloc (qC #[v] 23)) (Z5L n hn ((hp.below B).mono B.size))
 rw [Z5Q] at f;have HP:=qH hp;have m:=qH ((qK w.heap.size w).alloc (qN _) (qC #[O qL d.x,O qL d.y] 36));have W:=qH (Has.new w #[O qL d.x,O qL d.y] 36);obtain⟨a,C,K⟩:=hp.len;subst K;clear hp;have s:=qH (fun b (B:Below w.heap.size w b)=>B.alloc B.size (qC #[qS a l.length (l.length+C)] 23))
 cases hv:Zb l
 ·rw [hv] at f
  obtain⟨A,z⟩:=Zcm (d:=d) (.inl hv);have t:=qH A;have p:=qH z;have f:=qH f;clear hv A z;go_enter Tryz.func85,Tryz.ntmps85;go_wp2_with fail;refine (f.out _ _ (by simp) m.out).mono ?_
  rintro e b ⟨rfl,g⟩;have F:=qH ((s.out _ m.out).trans (g.mono (s.out _ m.out).size));clear g;go_wp2;go_ret2;exact⟨qS none 0 0,by rw [t.out];rfl,by rw [p.out];exact Z7.nil _ _,F.out⟩
 rw [hv] at f;have f:=qH f;have L:=qH (ZY hv);have HV:=qH hv;clear hv;cases hd:Z3 d
 ·obtain⟨A,z⟩:=Zcm (l:=l) (.inr hd)
  have t:=qH A;have p:=qH z;have j:=fun b=>Z2S d.x d.y b
  rw [show placeB d.x d.y=false from hd] at j
  have j:=qH j;clear hd A z;go_enter Tryz.func85,Tryz.ntmps85;go_wp2_with fail;refine (f.out _ _ (by simp) m.out).mono ?_
  rintro e b ⟨rfl,g⟩;have F:=qH ((s.out _ m.out).trans (g.mono (s.out _ m.out).size));have o:=(W.out.below ((qK _ _).alloc (qN _) _) (by simp)).below g (by simp;omega)
  have Q:=cX 0 o rfl;have R:=cX 1 o rfl;clear g o;go_wp2_with fail;refine (j.out _).mono ?_;rintro e w2 ⟨rfl,r⟩;have I:=zAd F r;clear r Q R;go_wp2;go_ret2;exact⟨qS none 0 0,by rw [t.out];rfl,by rw [p.out];exact Z7.nil _ _,I.out⟩
 have t:Hid (shE l d=if allPl (mvL d l)=true then 0 else 3):=if_pos ⟨HV.out,hd⟩
 have j:=fun b=>Z2S d.x d.y b
 rw [show placeB d.x d.y=true from hd] at j
 have j:=qH j;have Y:=qH (fun b (B:Below w.heap.size w b) (N:Has b w.heap.size #[O qL d.x,O qL d.y] 36)=>ZbZ (qS a l.length (l.length+C)) l w.heap.size d b ((HP.out.below B).mono B.size) N L.out.2.1 (fun k hk=>(L.out.2.2.1 k hk).1) hd)
 have q:=fun u n b (hn:n=b.heap.size) (P:Z7 b.heap.size b u (mvL d l))=>Z30 (qS (some ⟨n,0,none⟩) 1 1) [mvL d l] (b.alloc (qC #[u] 23)) (Z5L n hn P)
 rw [Z5Q,Z0D d L.out] at q;have q:=qH q;clear hd;go_enter Tryz.func85,Tryz.ntmps85;go_wp2_with fail;refine (f.out _ _ (by simp) m.out).mono ?_
 rintro e b ⟨rfl,g⟩;have F:=qH ((s.out _ m.out).trans (g.mono (s.out _ m.out).size));have o:=(W.out.below ((qK _ _).alloc (qN _) _) (by simp)).below g (by simp;omega)
 have Q:=cX 0 o rfl;have R:=cX 1 o rfl;have E:=qH o;clear g o;go_wp2_with fail;refine (j.out _).mono ?_;rintro e w2 ⟨rfl,r⟩;have I:=zAd F r;have U:=qH (E.out.below r E.out.lt);clear r Q R;go_wp2_with fail;refine (Y.out _ I.out U.out).mono ?_;rintro e X ⟨u,rfl,J,V⟩;have S:=zAd I V;have T:=qH J;obtain⟨Z,c3,hu⟩:=J.len;subst hu;have H:=qH ((qK X.heap.size X).alloc (qN _) (qC #[qS Z (mvL d l).length ((mvL d l).length+c3)] 23));clear J V;cases hal:allPl (mvL d l)
 ·rw [hal] at q
  have c:Hid (shE l d=3):=t.out.trans (if_neg (by rw [hal];simp))
  have p:Hid (shL l d=[]):=if_neg (by rw [c.out];omega)
  clear hal;go_wp2_with fail;refine (q.out _ _ _ rfl T.out).mono ?_;rintro e w4 ⟨rfl,D⟩;have M:=qH (S.out.trans ((H.out.trans (D.mono H.out.size)).mono S.out.size));clear D;go_wp2;go_ret2;exact⟨qS none 0 0,by rw [c.out];rfl,by rw [p.out];exact Z7.nil _ _,M.out⟩
 ·rw [hal] at q
  have c:Hid (shE l d=0):=t.out.trans (if_pos hal);have p:Hid (shL l d=mvL d l):=if_pos c.out;clear hal;go_wp2_with fail;refine (q.out _ _ _ rfl T.out).mono ?_;rintro e w4 ⟨rfl,D⟩;have G:=H.out.trans (D.mono H.out.size);have M:=zAd S G;have P4:=qH ((T.out.below G).mono G.size);clear D G;go_wp2;go_ret2;exact⟨_,by rw [c.out];rfl,by rw [p.out];exact P4.out,M.out⟩
theorem Zak {W:World} {B base size n:Nat} {cs:Array Value} {t e:TypeId} {v:Value} {xs:List Value} (h:Has W B cs t) (hr:W.ownsRow base e size v n xs) (hne:t≠e):v.ownBlock≠some B:=by
 intro e';rcases hr.2 with⟨rfl,_⟩ | ⟨g,b,c,rfl,_,a,_⟩
 ·simp [Value.ownBlock] at e'
 ·obtain rfl:g=B:=by simpa [Value.ownBlock] using e'
  rw [show W.heap[g]?=_ from h] at a
  cases a;exact hne rfl
def octTo (n k:Int):Nat->List Pt
 | 0=>[]
 | 1=>[⟨-n,-k⟩,⟨-k,-n⟩]
 | 2=>[⟨-n,-k⟩,⟨-k,-n⟩,⟨-n,k⟩,⟨-k,n⟩]
 | 3=>[⟨-n,-k⟩,⟨-k,-n⟩,⟨-n,k⟩,⟨-k,n⟩,⟨n,-k⟩,⟨k,-n⟩]
 | _=>octG n k
theorem ZcC (W:World) (e:TypeId) (a b c d:Value):∀ j u,([a,b,c,d]:List Value)[j]?=some u->(W.alloc (qC #[a,b,c,d] e)).cell? ((⟨W.heap.size,0,none⟩:Addr).add j)=some u:=by
 intro j u hu;have h:=Has.new W #[a,b,c,d] e;have f:(⟨W.heap.size,0,none⟩:Addr).add j=⟨W.heap.size,j,none⟩:=by unfold Addr.add;split <;> simp_all
 rw [f];exact h.cell (by simpa using hu)
theorem diskE (n:Nat) (h:n<=100000):hulE (octG n (octK n))=0/\hulL (octG n (octK n))=Z4 n:=by
 have e:hulE (octG n (octK n))=0:=by
  unfold hulE;have a:allPl (octG n (octK n))=true:=by
   rw [Z2p];exact fun x hx=>(Z5W h ((Z7A _ _ x).1 hx)).2
  have b:=Z2c (octG (n:Int) (octK n));rw [if_neg (by simp [octG]),if_neg (by rw [a];simp [octG]),if_neg (by have:(octG (n:Int) (octK n)).length=8:=rfl;omega)]
 refine⟨e,?_⟩;unfold hulL;rw [if_pos e];exact diskG n
noncomputable def dskE (n:Int):Int:=if radOk n=true then 0 else 1
noncomputable def dskL (n:Int):List Pt:=if radOk n=true then Z4 n.toNat else []
theorem ZbF (n:Int) (w:World) (h:radOk n=false) :
  Calls Tryz.prog 84 #[O qL n] w fun e w'=>e=qR (.tuple #[qS none 0 0,O qL 1])/\Below w.heap.size w w':=by
 by_cases h1:n<0
 ·have a:decide (n<0)=true:=by simpa using h1
  clear h1 h;go_enter Tryz.func84,Tryz.ntmps84;go_wp2;go_ret2;exact⟨rfl,qK _ _⟩
 ·have a:decide (n<0)=false:=by simpa using h1
  have b:decide (n>100000)=true:=by simp [radOk] at h;simp;omega
  clear h1 h;go_enter Tryz.func84,Tryz.ntmps84;go_wp2;go_ret2;exact⟨rfl,qK _ _⟩
theorem Z8z (n k:Int):(Za (octTo n k 0)++[O qL (-n),O qL (-k),O qL (-k),O qL (-n)]=Za (octTo n k 1))/\(Za (octTo n k 1)++[O qL (-n),O qL k,O qL (-k),O qL n]=Za (octTo n k 2)) /\
  (Za (octTo n k 2)++[O qL n,O qL (-k),O qL k,O qL (-n)]=Za (octTo n k 3))/\(Za (octTo n k 3)++[O qL n,O qL k,O qL k,O qL n]=Za (octTo n k 4)):=⟨rfl,rfl,rfl,rfl⟩
theorem Z3E (n : Nat) (w : World) (hn : n <= 100000) :
  Calls Tryz.prog 84 #[O qL n] w fun e w'=>∃ u,e=qR (.tuple #[u,O qL 0])/\Z7 w'.heap.size w' u (Z4 n)/\Below w.heap.size w w':=by
 have E:=Z1C n;have hw1:=Z7i n;have ab:=Z5v n;have hkb:=Z55 n;have N:octK n=(wideN n:Int)-n:=rfl;have fH:=qH (fun v V (h:Z7 V.heap.size V v (octG n (octK n)))=>Z7L v (octG n (octK n)) V h)
 have HE:=qH (diskE n hn);have z:=qH (Z8z n (octK n));have HG:Hid (octTo n (octK n) 4=octG n (octK n)):=rfl;obtain⟨W,hW⟩:∃ W,wideN n=W:=⟨_,rfl⟩;rw [hW] at E hw1 ab N;have Q:=qH E;obtain⟨k,J⟩:∃ k,octK n=k:=⟨_,rfl⟩;rw [J] at N hkb fH HE z HG;obtain⟨i0,T,S,M,I⟩:=info_parts ptInfo;have w4:qW qL (2*(n:Int))=2*n:=zW2;have pn:=ZH (a:=2*(n:Int)) (b:=n) (m:=200000) (n:=100000) (by omega) (by omega) (by omega) (by omega)
 have w5:qW qL (2*(n:Int)*n)=2*n*n:=zW2;have w6:qW qL ((W:Int)-n)=k:=by rw [N];exact zW2
 have dn:decide ((n:Int)<0)=false:=by simp
 have dn2:decide ((n:Int)>100000)=false:=by simp;omega
 have HK:=qH N;clear E hW J N;go_enter Tryz.func84,Tryz.ntmps84;go_wp2
 go_loopw [4,5] (fun lo T wr=>∃ a b:Nat,lo=O qL (a:Int)/\T=O qL (b:Int)/\n<=a/\a<=W/\W<=b/\b<=2*n/\wr=w) (fun lo T _=>(intOf T).toNat-(intOf lo).toNat)
 case atStart=>exact⟨n,2*n,rfl,by simp,by omega,by omega,by omega,by omega,rfl⟩
 case round =>
  obtain⟨a,b,rfl,rfl,ha,haW,Z,hb,rfl⟩:=hrel;by_cases hab:a<b
  ·have dab:decide ((a:Int)<(b:Int))=true:=by simp;omega
   obtain⟨q,hq⟩:∃ q,(a+b) / 2=q:=⟨_,rfl⟩;have V:qW qL ((a:Int)+b)=a+b:=zW2;have w2:qW qL (((a:Int)+b).tdiv 2)=q:=by
    rw [Int.tdiv_eq_ediv_of_nonneg (by omega),show ((a:Int)+b) / 2=q by omega]
    exact zW2
   have pq:=ZH (a:=(q:Int)) (b:=q) (m:=200000) (n:=200000) (by omega) (by omega) (by omega) (by omega)
   have w3:qW qL ((q:Int)*q)=q*q:=zW2;have L:(2*(n:Int)*n<=(q:Int)*q)↔W<=q:=by
    have B:(2*(n:Int)*n<=(q:Int)*q)↔2*n*n<=q*q:=by
     rw [<- Int.ofNat_le];simp
    rw [B];constructor
    ·intro h
     rcases Nat.lt_or_ge q W with Y | Y
     ·have:=Q.out.2 q Y;omega
     ·exact Y
    ·intro h
     exact Nat.le_trans Q.out.1 (Nat.mul_le_mul h h)
   have hqa:a<=q:=by omega
   have hqb:q<b:=by omega
   clear hq;by_cases hWq:W<=q
   ·have d1:decide ((q:Int)*q>=2*(n:Int)*n)=true:=by rw [decide_eq_true_eq];exact L.2 hWq
    clear L pq pn;go_wp2;go_roundw
    case rel=>exact⟨a,q,rfl,rfl,by omega,by omega,by omega,by omega,trivial⟩
    case measure=>simp [intOf];omega
   ·have d1:decide ((q:Int)*q>=2*(n:Int)*n)=false:=by rw [decide_eq_false_iff_not];exact fun h=>hWq (L.1 h)
    clear L pq pn;go_wp2;go_roundw
    case rel=>exact⟨q+1,b,by go_num,rfl,by omega,by omega,by omega,by omega,trivial⟩
    case measure=>simp [intOf];omega
  ·have dab:decide ((a:Int)<(b:Int))=false:=by simp;omega
   obtain rfl:a=W:=by omega
   clear Z hb haW ha pn;obtain⟨p,rfl⟩:∃ x,x=wr:=⟨_,rfl⟩;have BA:=qH ((qK p.heap.size p).alloc (qN _) (qC #[O qL (-1),O qL 1] 3));have NA:=qH (Has.new p #[O qL (-1),O qL 1] 3);go_wp2
   go_loopw [8,45] (fun v i C=>∃ c:Nat,c<=2/\i=O qL (c:Int)/\C.ownsRow (p.heap.size+1) 36 2 v (4*c) (Za (octTo n k (2*c)))/\Has C p.heap.size #[O qL (-1),O qL 1] 3/\Below p.heap.size p C) (fun _ i _=>2-(intOf i).toNat)
   case atStart=>exact⟨0,by omega,rfl,World.ownsRow_nil _ _ _ _,NA.out,BA.out⟩
   case round =>
    obtain⟨C,rfl⟩:∃ x,x=wr:=⟨_,rfl⟩;obtain⟨c,L,rfl,d,o,y⟩:=hrel;have F:=y.size;have hnz:=o.lt;by_cases hc2:c<2
    ·have dc:decide ((c:Int)<2)=true:=by simp;omega
     have K:=cX 0 o rfl;have R:=cX 1 o rfl;have xc:C.cell? ⟨p.heap.size,c,none⟩=some (O qL (if c=0 then -1 else 1)):=by
      rcases (show c=0\/c=1 by omega) with rfl | rfl
      ·exact K
      ·exact R
     have c0:(0:Int)<=c:=by omega
     have cl:(c:Int)<2:=by omega
     have X:=(qK C.heap.size C).alloc (qN _) (qC #[O qL (-1),O qL 1] 3);have NI:=qH (Has.new C #[O qL (-1),O qL 1] 3);have RI:=qH (Zz d X);have NO:=qH (o.below X hnz);have BB:=qH (y.trans (X.mono F));obtain⟨t,G⟩:∃ s:Int,(if c=0 then (-1:Int) else 1)=s:=⟨_,rfl⟩
     rw [G] at xc;have P:=qH G;clear d o y K R X G;go_wp2
     go_loopw [8,51] (fun v i wy=>∃ e:Nat,e<=2/\i=O qL (e:Int)/\wy.ownsRow (p.heap.size+1) 36 2 v (4*c+2*e) (Za (octTo n k (2*c+e)))/\Has wy p.heap.size #[O qL (-1),O qL 1] 3/\Has wy C.heap.size #[O qL (-1),O qL 1] 3/\Below p.heap.size p wy) (fun _ i _=>2-(intOf i).toNat)
     case atStart=>exact⟨0,by omega,rfl,RI.out,NO.out,NI.out,BB.out⟩
     case round =>
      obtain⟨wy,rfl⟩:∃ x,x=wr:=⟨_,rfl⟩;obtain⟨e,he,rfl,d,o,D,y⟩:=hrel;have F:=y.size;by_cases he2:e<2
      ·have de:decide ((e:Int)<2)=true:=by simp;omega
       have K:=cX 0 D rfl;have R:=cX 1 D rfl;have xe:wy.cell? ⟨C.heap.size,e,none⟩=some (O qL (if e=0 then -1 else 1)):=by
        rcases (show e=0\/e=1 by omega) with rfl | rfl
        ·exact K
        ·exact R
       obtain⟨r,g⟩:∃ s:Int,(if e=0 then (-1:Int) else 1)=s:=⟨_,rfl⟩
       rw [g] at xe;have bx:-1<=t/\t<=1:=by have:=P.out;split at this <;> omega
       have aa:-1<=r/\r<=1:=by split at g <;> omega
       have p1:=ZH (a:=t) (b:=(n:Int)) (m:=1) (n:=100000) (by omega) (by omega) (by omega) (by omega)
       have p2:=ZH (a:=r) (b:=k) (m:=1) (n:=100000) (by omega) (by omega) (by omega) (by omega)
       have p3:=ZH (a:=t) (b:=k) (m:=1) (n:=100000) (by omega) (by omega) (by omega) (by omega)
       have p4:=ZH (a:=r) (b:=(n:Int)) (m:=1) (n:=100000) (by omega) (by omega) (by omega) (by omega)
       have m1:qW qL (t*(n:Int))=t*n:=zW2;have m2:qW qL (r*k)=r*k:=zW2;have m3:qW qL (t*k)=t*k:=zW2;have m4:qW qL (r*(n:Int))=r*n:=zW2;have U:Hid (Za (octTo n k (2*c+e))++[O qL (t*n),O qL (r*k),O qL (t*k),O qL (r*n)]=Za (octTo n k (2*c+(e+1)))):=by
        have B:=P.out
        show _=_
        rcases (show c=0\/c=1 by omega) with rfl | rfl <;> rcases (show e=0\/e=1 by omega) with rfl | rfl
        ·simp at B g;subst B;subst g;simpa using z.out.1
        ·simp at B g;subst B;subst g;simpa using z.out.2.1
        ·simp at B g;subst B;subst g;simpa using z.out.2.2.1
        ·simp at B g;subst B;subst g;simpa using z.out.2.2.2
       have e0:(0:Int)<=e:=by omega
       have el:(e:Int)<2:=by omega
       have H:=qH (qI d (qI o (qI D y)));have hzz:p.heap.size+1<=wy.heap.size:=o.lt;have A:=qH ((qK wy.heap.size wy).alloc (qN _) (qC #[O qL (t*n),O qL (r*k),O qL (t*k),O qL (r*n)] 36));clear d o D y K R g p1 p2 p3 p4 bx aa
       go_wp2_with (at_builtin;refine wpList_append_own _ rfl _ _ 23 rfl (p.heap.size+1) 36 i0 (.agg #[.int .i64 0,.int .i64 0]) 2 16 Tryz.underlying23 T S M I rfl (by decide) _ _ _ rfl (H.out.1.alloc _) ⟨wy.heap.size,0,none⟩ 2 2 [.int .i64 (t*n),.int .i64 (r*k),.int .i64 (t*k),.int .i64 (r*n)] rfl rfl (ZcC _ _ _ _ _ _) (by simp [Value.oneCell']) (by unfold maxLen;omega) (by omega) (by simp;omega) ?_;intro v' w4 hown' hgrow _)
       go_roundw
       case rel =>
        obtain⟨d,o,D,y⟩:=H.out;have rA:=Zz d A.out;refine⟨e+1,by omega,by go_num,?_,(o.below A.out o.lt).kept hgrow (fun h=>Zak o d (by decide) h),(D.below A.out D.lt).kept hgrow (fun h=>Zak D d (by decide) h),?_⟩
        ·rw [<- U.out];exact hown'
        ·exact (y.trans (A.out.mono F)).grown hgrow (by simp;omega) (fun j ej=>by have:=(rA.lt j ej).1;omega)
       case measure=>simp [intOf];omega
      ·obtain rfl:e=2:=by omega
       have H:=qH (qI d (qI o y));clear d o D y;go_wp2;go_roundw
       case rel=>exact⟨c+1,by omega,by go_num,H.out.1,H.out.2.1,H.out.2.2⟩
       case measure=>simp [intOf];omega
    ·obtain rfl:c=2:=by omega
     have PL:=qH (Z7.own (l:=octG n k) d (by simp [octG]))
     have HB:=qH y;clear d o y;go_wp2_with fail;have f:=fH.out _ _ PL.out;rw [HE.out.1,HE.out.2] at f;refine f.mono ?_;rintro e w2 ⟨u,rfl,pu,bu⟩;have PU:=qH pu;have BU:=zAd HB bu;obtain⟨au,cu,hu⟩:=pu.len;subst hu;clear pu bu f;go_wp2;go_ret2;exact⟨_,rfl,PU.out,BU.out⟩
theorem Z3F (n:Int) (w:World) :
  Calls Tryz.prog 84 #[O qL n] w fun e w'=>∃ u,e=qR (.tuple #[u,O qL (dskE n)])/\Z7 w'.heap.size w' u (dskL n)/\Below w.heap.size w w':=by
 unfold dskE dskL;cases h:radOk n
 ·exact (ZbF n w h).mono fun e w' ⟨he,hb⟩=>⟨_,he,Z7.nil _ _,hb⟩
 ·have a:0<=n/\n<=100000:=by simpa [radOk] using h
  obtain⟨q,rfl⟩:∃ q:Nat,n=q:=⟨n.toNat,by omega⟩
  exact Z3E q w (by omega)
theorem Z72 (p:Pt):Zb [p]=Z3 p:=by
 rw [Bool.eq_iff_iff];constructor
 ·intro h;exact ((ZY h).2.2.1 0 (by simp)).1
 ·intro h
  refine Z0g ⟨by simp,by simp,fun k hk=>?_,fun h3=>by simp at h3⟩
  obtain rfl:k=0:=by simpa using hk
  exact⟨h,fun h0=>by omega⟩
theorem Z4l (x y:Int) (w:World) :
  Calls Tryz.prog 99 #[.agg #[O qL x,O qL y]] w fun e w'=>e=qR (.bool (placeB x y))/\Below w.heap.size w w':=by
 have a:=(qK w.heap.size w).alloc (qN _) (qC #[O qL x,O qL y] 36);have hs:(w.alloc (qC #[O qL x,O qL y] 36)).heap.size=w.heap.size+1:=by simp
 have f:=Zs _ _ _ (Z9D (w.alloc (qC #[O qL x,O qL y] 36)) x y);rw [hs,Z72] at f;have c:=qH (a.alloc a.size (qC #[O qL x,O qL y] 36));have f:=qH f;have HP:Hid (Z3 ⟨x,y⟩=placeB x y):=rfl;rw [HP.out] at f;generalize placeB x y=bb at *;clear a hs HP;go_enter Tryz.func99,Tryz.ntmps99;go_wp2_with fail;refine (f.out).mono ?_;rintro e g ⟨rfl,b⟩;have d:=zAd c b;clear b;go_wp2;go_ret;exact⟨rfl,d.out⟩
theorem Z3j (n:Int) (w:World) :
  Calls Tryz.prog 100 #[O qL n] w fun e w'=>e=qR (.bool (radOk n))/\Below w.heap.size w w':=by
 by_cases h1:0<=n
 ·by_cases h2:n<=100000
  ·have e:radOk n=true:=by simp [radOk,h1,h2]
   rw [e];clear e;go_enter Tryz.func100,Tryz.ntmps100;go_wp2;go_ret;exact⟨rfl,zB2⟩
  ·have e:radOk n=false:=by simp [radOk];omega
   have d:decide (n<=100000)=false:=by simpa using h2
   rw [e];clear e h2;go_enter Tryz.func100,Tryz.ntmps100;go_wp2;go_ret;exact⟨rfl,zB2⟩
 ·have e:radOk n=false:=by simp [radOk];omega
  have d:decide (n>=0)=false:=by simpa using h1
  rw [e];clear e h1;go_enter Tryz.func100,Tryz.ntmps100;go_wp2;go_ret;exact⟨rfl,zB2⟩
theorem Z6E (v:Value) (ls:List (List Pt)) (w:World) (hr:Z6 w.heap.size w v ls) (hl:ls.length<=10) (hn:∀ j,(rk ls j).length<=20000) :
  Calls Tryz.prog 101 #[v] w fun e w'=>∃ u,e=qR (.tuple #[u,O qL (hulE (catTo ls ls.length))])/\Z7 w'.heap.size w' u (hulL (catTo ls ls.length))/\Below w.heap.size w w'/\NewI w.heap.size u:=by
 have s:=qH (Z4I v ls w hr hl hn);have r:=qH (fun v a (h:Z7 a.heap.size a v (catTo ls ls.length))=>Z7K v _ a h)
 have c:=qH (qK w.heap.size w);generalize catTo ls ls.length=l at *;clear hr hn;obtain⟨t,rfl⟩:∃ x,x=c:=⟨_,rfl⟩;go_enter Tryz.func101,Tryz.ntmps101;go_wp2_with fail;refine (s.out).mono ?_;rintro e a ⟨E,rfl,b,m⟩;have o:=zAd t m;have p:=qH b;obtain⟨A,B,f⟩:=b.len;subst f;clear b m;go_wp2_with fail;refine (r.out _ _ p.out).mono ?_;rintro e G ⟨C,rfl,d,k,n⟩;have y:=zAd o k;have z:=qH d;have q:=qH (n.mono o.out.size);clear n;obtain⟨F,D,g⟩:=d.len;subst g;clear d k;go_wp2;go_ret2;exact⟨_,rfl,z.out,y.out,q.out⟩
theorem Z9w {W:World} {v u:Value} {l m:List Pt} (n:Nat) (hn:n=W.heap.size) (hp:Z7 W.heap.size W v l) (hq:Z7 W.heap.size W u m):Z6 (W.alloc (qC #[v,u] 23)).heap.size (W.alloc (qC #[v,u] 23)) (qS (some ⟨n,0,none⟩) 2 2) [l,m]:=by
 subst hn;have h:=Has.new W #[v,u] 23;have B:=(qK W.heap.size W).alloc (qN _) (qC #[v,u] 23);refine⟨by simp,some ⟨W.heap.size,0,none⟩,0,rfl,.inr ⟨W.heap.size,0,rfl,by simp,fun j hj=>?_⟩⟩
 rcases (show j=0\/j=1 by simp at hj;omega) with rfl | rfl
 ·exact⟨v,cX 0 h rfl,(hp.below B).mono B.size⟩
 ·exact⟨u,cX 1 h rfl,(hq.below B).mono B.size⟩
theorem ZbO {a:Pt} {u:Nat} {b:Pt} {v:Nat} (h1:allPl (mvL a (Z4 u))=true) (h2:allPl (mvL b (Z4 v))=true):hulE (mvL a (Z4 u)++mvL b (Z4 v))=0/\hulL (mvL a (Z4 u)++mvL b (Z4 v))=corH a u b v:=by
 have e:hulE (mvL a (Z4 u)++mvL b (Z4 v))=0:=by
  unfold hulE;have d:allPl (mvL a (Z4 u)++mvL b (Z4 v))=true:=by
   rw [Z2p] at *;intro x hx;rcases List.mem_append.1 hx with h | h
   ·exact h1 x h
   ·exact h2 x h
  have f:=Z7W a u b v;have g:=Z1d u;have j:=Z1d v;have c:(mvL a (Z4 u)++mvL b (Z4 v)).length≠0:=fun e=>Zcw (List.eq_nil_of_length_eq_zero e)
  rw [if_neg (by rw [List.length_append,Z0k,Z0k];omega),if_neg (by rw [d];simp only [Bool.true_eq_false,or_false];exact c),if_neg (by show ¬ 64<(corH a u b v).length;omega)]
 refine⟨e,?_⟩;unfold hulL;rw [if_pos e]
 rfl
theorem ZaY (l m:List Pt):catTo [l,m] [l,m].length=l++m:=by show ([]++rk [l,m] 0)++rk [l,m] 1=_;simp [rk]
theorem Z5s {a b:Pt} {u v:Int} (h:Z3 a=false\/Z3 b=false\/radOk u=false\/radOk v=false):corE a u b v=1/\corL a u b v=[]:=by
 have e:corE a u b v=1:=if_neg (by rintro ⟨g,c,d,f⟩;rcases h with h | h | h | h <;> simp_all)
 exact⟨e,if_neg (by rw [e];omega)⟩
theorem Z32 {n:Nat} {d:Pt} (h:n<=100000) (hd:Z3 d=true):shE (Z4 n) d=if allPl (mvL d (Z4 n))=true then 0 else 3:=if_pos ⟨Z0g (Z0t h),hd⟩
theorem Z2X (a b:Pt) (u v:Int) (w:World) :
  Calls Tryz.prog 44 #[.agg #[O qL a.x,O qL a.y],O qL u,.agg #[O qL b.x,O qL b.y],O qL v] w fun e w'=>∃ r,e=qR (.tuple #[r,O qL (corE a u b v)])/\Z7 w'.heap.size w' r (corL a u b v)/\Below w.heap.size w w'/\NewI w.heap.size r:=by
 have NA:=(Has.new w #[O qL a.x,O qL a.y] 36).below ((qK (w.heap.size+1) _).alloc (by simp) (qC #[O qL b.x,O qL b.y] 36)) (by omega)
 have NB:=Has.new (w.alloc (qC #[O qL a.x,O qL a.y] 36)) #[O qL b.x,O qL b.y] 36;rw [World.size_alloc] at NB;have hs:((w.alloc (qC #[O qL a.x,O qL a.y] 36)).alloc (qC #[O qL b.x,O qL b.y] 36)).heap.size=w.heap.size+2:=by simp
 have HA:=qH (((qK w.heap.size w).alloc (qN _) (qC #[O qL a.x,O qL a.y] 36)).alloc (by first | omega | (simp;done) | (simp;omega)) (qC #[O qL b.x,O qL b.y] 36))
 have c:=qH (fun w' (B:Below ((w.alloc (qC #[O qL a.x,O qL a.y] 36)).alloc (qC #[O qL b.x,O qL b.y] 36)).heap.size ((w.alloc (qC #[O qL a.x,O qL a.y] 36)).alloc (qC #[O qL b.x,O qL b.y] 36)) w')=>(show w'.cell? ⟨w.heap.size,0,none⟩=some (O qL a.x)/\w'.cell? ⟨w.heap.size,1,none⟩=some (O qL a.y)/\w'.cell? ⟨w.heap.size+1,0,none⟩=some (O qL b.x)/\w'.cell? ⟨w.heap.size+1,1,none⟩=some (O qL b.y) from
  ⟨(NA.below B (by omega)).cell (i:=0) rfl,(NA.below B (by omega)).cell (i:=1) rfl,(NB.below B (by omega)).cell (i:=0) rfl,(NB.below B (by omega)).cell (i:=1) rfl⟩))
 have HF:=qH (fun w' (B:Below ((w.alloc (qC #[O qL a.x,O qL a.y] 36)).alloc (qC #[O qL b.x,O qL b.y] 36)).heap.size ((w.alloc (qC #[O qL a.x,O qL a.y] 36)).alloc (qC #[O qL b.x,O qL b.y] 36)) w')=>HA.out.trans (B.mono HA.out.size))
 have B0:=qH (qK ((w.alloc (qC #[O qL a.x,O qL a.y] 36)).alloc (qC #[O qL b.x,O qL b.y] 36)).heap.size ((w.alloc (qC #[O qL a.x,O qL a.y] 36)).alloc (qC #[O qL b.x,O qL b.y] 36)));clear NA NB hs;have q:=fun l=>Z4l a.x a.y l
 have t:=fun l=>Z4l b.x b.y l
 have K:=fun l=>Z3j u l
 have V:=fun l=>Z3j v l
 cases ha:Z3 a
 ·obtain⟨L,Q⟩:=Z5s (a:=a) (b:=b) (u:=u) (v:=v) (.inl ha)
  have I:=qH L;have H:=qH Q;clear L Q;rw [show placeB a.x a.y=false from ha] at q
  have q:=qH q;clear ha;go_enter Tryz.func44,Tryz.ntmps44;go_wp2_with fail;refine (q.out _).mono ?_;rintro e l ⟨rfl,o⟩;have p:=zAd B0 o;clear o;go_wp2;go_ret2;exact⟨qS none 0 0,by rw [I.out];rfl,by rw [H.out];exact Z7.nil _ _,HF.out _ p.out,NewI.nil _⟩
 rw [show placeB a.x a.y=true from ha] at q
 cases hb:Z3 b
 ·obtain⟨L,Q⟩:=Z5s (a:=a) (b:=b) (u:=u) (v:=v) (.inr (.inl hb))
  have I:=qH L;have H:=qH Q;clear L Q;have q:=qH q;rw [show placeB b.x b.y=false from hb] at t
  have t:=qH t;clear ha hb;go_enter Tryz.func44,Tryz.ntmps44;go_wp2_with fail;refine (q.out _).mono ?_;rintro e l ⟨rfl,o⟩;have p:=zAd B0 o;clear o;obtain⟨d,k,g,f⟩:=c.out _ p.out;go_wp2_with fail;refine (t.out _).mono ?_;rintro e w2 ⟨rfl,s⟩;have z:=zAd p s;clear s;go_wp2;go_ret2;exact⟨qS none 0 0,by rw [I.out];rfl,by rw [H.out];exact Z7.nil _ _,HF.out _ z.out,NewI.nil _⟩
 rw [show placeB b.x b.y=true from hb] at t
 cases hu:radOk u
 ·obtain⟨L,Q⟩:=Z5s (a:=a) (b:=b) (u:=u) (v:=v) (.inr (.inr (.inl hu)))
  have I:=qH L;have H:=qH Q;clear L Q;have q:=qH q;have t:=qH t;rw [show radOk u=false from hu] at K
  have K:=qH K;clear ha hb hu;go_enter Tryz.func44,Tryz.ntmps44;go_wp2_with fail;refine (q.out _).mono ?_;rintro e l ⟨rfl,o⟩;have p:=zAd B0 o;clear o;obtain⟨d,k,g,f⟩:=c.out _ p.out;go_wp2_with fail;refine (t.out _).mono ?_;rintro e w2 ⟨rfl,s⟩;have z:=zAd p s;clear s d k g f;obtain⟨d,k,g,f⟩:=c.out _ z.out;go_wp2_with fail;refine (K.out _).mono ?_;rintro e w3 ⟨rfl,F⟩;have J:=zAd z F;clear F;go_wp2;go_ret2;exact⟨qS none 0 0,by rw [I.out];rfl,by rw [H.out];exact Z7.nil _ _,HF.out _ J.out,NewI.nil _⟩
 rw [show radOk u=true from hu] at K
 cases hv:radOk v
 ·obtain⟨L,Q⟩:=Z5s (a:=a) (b:=b) (u:=u) (v:=v) (.inr (.inr (.inr (hv))))
  have I:=qH L;have H:=qH Q;clear L Q;have q:=qH q;have t:=qH t;have K:=qH K;rw [show radOk v=false from hv] at V
  have V:=qH V;clear ha hb hu hv;go_enter Tryz.func44,Tryz.ntmps44;go_wp2_with fail;refine (q.out _).mono ?_;rintro e l ⟨rfl,o⟩;have p:=zAd B0 o;clear o;obtain⟨d,k,g,f⟩:=c.out _ p.out;go_wp2_with fail;refine (t.out _).mono ?_;rintro e w2 ⟨rfl,s⟩;have z:=zAd p s;clear s d k g f;obtain⟨d,k,g,f⟩:=c.out _ z.out;go_wp2_with fail;refine (K.out _).mono ?_;rintro e w3 ⟨rfl,F⟩;have J:=zAd z F;clear F d k g f;obtain⟨d,k,g,f⟩:=c.out _ J.out;go_wp2_with fail;refine (V.out _).mono ?_;rintro e w4 ⟨rfl,U⟩;have W:=zAd J U;clear U;go_wp2;go_ret2;exact⟨qS none 0 0,by rw [I.out];rfl,by rw [H.out];exact Z7.nil _ _,HF.out _ W.out,NewI.nil _⟩
 rw [show radOk v=true from hv] at V
 have q:=qH q;have t:=qH t;have K:=qH K;have V:=qH V;have r1:0<=u/\u<=100000:=by simpa [radOk] using hu
 have r2:0<=v/\v<=100000:=by simpa [radOk] using hv
 obtain⟨n,rfl⟩:∃ n:Nat,u=n:=⟨u.toNat,by omega⟩
 obtain⟨m,rfl⟩:∃ m:Nat,v=m:=⟨v.toNat,by omega⟩
 have n1:n<=100000:=by omega
 have n2:m<=100000:=by omega
 have A:corE a n b m=if allPl (mvL a (Z4 n))=true/\allPl (mvL b (Z4 m))=true then 0 else 3:=if_pos ⟨ha,hb,hu,hv⟩
 have Z:corL a n b m=if corE a n b m=0 then corH a n b m else []:=rfl
 have X:=fun l=>Z3E n l n1
 have g2:=fun l=>Z3E m l n2
 have C:=fun x l h=>Z10 x (Z4 n) a l h
 have E:=fun x l h=>Z10 x (Z4 m) b l h
 rw [Z32 n1 ha] at C;rw [Z32 n2 hb] at E;have k3:shL (Z4 n) a=if shE (Z4 n) a=0 then mvL a (Z4 n) else []:=rfl
 have k4:shL (Z4 m) b=if shE (Z4 m) b=0 then mvL b (Z4 m) else []:=rfl
 rw [Z32 n1 ha] at k3;rw [Z32 n2 hb] at k4;clear r1 r2 ha hb hu hv;have HLD:=qH (qI (Z1d n) (Z1d m));have HUL:=qH (fun h1 h2=>ZbO (a:=a) (u:=n) (b:=b) (v:=m) h1 h2)
 have gs:=qH (fun x ls l h=>Z6E x ls l h)
 cases t1:allPl (mvL a (Z4 n))
 ·rw [t1] at C k3 A
  rw [if_neg (by simp)] at A
  rw [A,if_neg (by omega)] at Z
  rw [if_neg (by simp)] at C
  rw [if_neg (by simp)] at k3
  rw [k3] at C;clear t1 k3 k4 HUL;have I:=qH A;have H:=qH Z;have X:=qH X;have g2:=qH g2;have C:=qH C;have E:=qH E;clear A Z;go_enter Tryz.func44,Tryz.ntmps44;go_wp2_with fail;refine (q.out _).mono ?_;rintro e l ⟨rfl,o⟩;have p:=zAd B0 o;clear o;obtain⟨d,k,g,f⟩:=c.out _ p.out;go_wp2_with fail;refine (t.out _).mono ?_;rintro e w2 ⟨rfl,s⟩;have z:=zAd p s;clear s d k g f;obtain⟨d,k,g,f⟩:=c.out _ z.out;go_wp2_with fail;refine (K.out _).mono ?_;rintro e w3 ⟨rfl,F⟩;have J:=zAd z F;clear F d k g f;obtain⟨d,k,g,f⟩:=c.out _ J.out;go_wp2_with fail;refine (V.out _).mono ?_;rintro e w4 ⟨rfl,U⟩;have W:=zAd J U;clear U d k g f;obtain⟨d,k,g,f⟩:=c.out _ W.out;go_wp2_with fail;refine (X.out _).mono ?_;rintro e w5 ⟨v5,rfl,M,b5⟩;have B5:=zAd W b5;have P5:=qH M;obtain⟨a5,d5,P⟩:=M.len;subst P;clear M b5 d k g f;obtain⟨d,k,g,f⟩:=c.out _ B5.out;go_wp2_with fail;refine (g2.out _).mono ?_;rintro e w6 ⟨v6,rfl,T,D⟩;have B6:=zAd B5 D;have P6:=qH T;have Q6:=qH ((P5.out.below D).mono D.size);obtain⟨a6,d6,R⟩:=T.len;subst R;clear T P5 D d k g f;obtain⟨d,k,g,f⟩:=c.out _ B6.out;go_wp2_with fail;refine (C.out _ _ Q6.out).mono ?_;rintro e w7 ⟨v7,rfl,S,G⟩;have B7:=zAd B6 G;have P7:=qH S;have Q7:=qH ((P6.out.below G).mono G.size);obtain⟨a7,d7,N⟩:=S.len;subst N;clear S Q6 P6 G d k g f;obtain⟨d,k,g,f⟩:=c.out _ B7.out;go_wp2;go_ret2;exact⟨qS none 0 0,by rw [I.out];rfl,by rw [H.out];exact Z7.nil _ _,HF.out _ B7.out,NewI.nil _⟩
 rw [t1,if_pos rfl] at C;rw [t1,if_pos rfl,if_pos rfl] at k3;rw [k3] at C;rw [t1] at A;cases t2:allPl (mvL b (Z4 m))
 ·rw [t2] at E k4 A
  rw [if_neg (by simp)] at A
  rw [A,if_neg (by omega)] at Z
  rw [if_neg (by simp)] at E
  rw [if_neg (by simp)] at k4
  rw [k4] at E;clear t1 t2 k3 k4 HUL;have I:=qH A;have H:=qH Z;have X:=qH X;have g2:=qH g2;have C:=qH C;have E:=qH E;clear A Z;go_enter Tryz.func44,Tryz.ntmps44;go_wp2_with fail;refine (q.out _).mono ?_;rintro e l ⟨rfl,o⟩;have p:=zAd B0 o;clear o;obtain⟨d,k,g,f⟩:=c.out _ p.out;go_wp2_with fail;refine (t.out _).mono ?_;rintro e w2 ⟨rfl,s⟩;have z:=zAd p s;clear s d k g f;obtain⟨d,k,g,f⟩:=c.out _ z.out;go_wp2_with fail;refine (K.out _).mono ?_;rintro e w3 ⟨rfl,F⟩;have J:=zAd z F;clear F d k g f;obtain⟨d,k,g,f⟩:=c.out _ J.out;go_wp2_with fail;refine (V.out _).mono ?_;rintro e w4 ⟨rfl,U⟩;have W:=zAd J U;clear U d k g f;obtain⟨d,k,g,f⟩:=c.out _ W.out;go_wp2_with fail;refine (X.out _).mono ?_;rintro e w5 ⟨v5,rfl,M,b5⟩;have B5:=zAd W b5;have P5:=qH M;obtain⟨a5,d5,P⟩:=M.len;subst P;clear M b5 d k g f;obtain⟨d,k,g,f⟩:=c.out _ B5.out;go_wp2_with fail;refine (g2.out _).mono ?_;rintro e w6 ⟨v6,rfl,T,D⟩;have B6:=zAd B5 D;have P6:=qH T;have Q6:=qH ((P5.out.below D).mono D.size);obtain⟨a6,d6,R⟩:=T.len;subst R;clear T P5 D d k g f;obtain⟨d,k,g,f⟩:=c.out _ B6.out;go_wp2_with fail;refine (C.out _ _ Q6.out).mono ?_;rintro e w7 ⟨v7,rfl,S,G⟩;have B7:=zAd B6 G;have P7:=qH S;have Q7:=qH ((P6.out.below G).mono G.size);obtain⟨a7,d7,N⟩:=S.len;subst N;clear S Q6 P6 G d k g f;obtain⟨d,k,g,f⟩:=c.out _ B7.out;go_wp2_with fail;refine (E.out _ _ Q7.out).mono ?_;rintro e w8 ⟨v8,rfl,p8,Y⟩;have B8:=zAd B7 Y;have P8:=qH p8;have Q8:=qH ((P7.out.below Y).mono Y.size);obtain⟨a8,d8,hv8⟩:=p8.len;subst hv8;clear p8 Q7 P7 Y d k g f;go_wp2;go_ret2;exact⟨qS none 0 0,by rw [I.out];rfl,by rw [H.out];exact Z7.nil _ _,HF.out _ B8.out,NewI.nil _⟩
 ·rw [t2,if_pos rfl] at E
  rw [t2,if_pos rfl,if_pos rfl] at k4;rw [k4] at E;rw [t2,if_pos (by simp)] at A
  rw [A,if_pos rfl] at Z;have HU:=qH (HUL.out t1 t2);clear t1 t2 k3 k4 HUL;have I:=qH A;have H:=qH Z;have X:=qH X;have g2:=qH g2;have C:=qH C;have E:=qH E;clear A Z;go_enter Tryz.func44,Tryz.ntmps44;go_wp2_with fail;refine (q.out _).mono ?_;rintro e l ⟨rfl,o⟩;have p:=zAd B0 o;clear o;obtain⟨d,k,g,f⟩:=c.out _ p.out;go_wp2_with fail;refine (t.out _).mono ?_;rintro e w2 ⟨rfl,s⟩;have z:=zAd p s;clear s d k g f;obtain⟨d,k,g,f⟩:=c.out _ z.out;go_wp2_with fail;refine (K.out _).mono ?_;rintro e w3 ⟨rfl,F⟩;have J:=zAd z F;clear F d k g f;obtain⟨d,k,g,f⟩:=c.out _ J.out;go_wp2_with fail;refine (V.out _).mono ?_;rintro e w4 ⟨rfl,U⟩;have W:=zAd J U;clear U d k g f;obtain⟨d,k,g,f⟩:=c.out _ W.out;go_wp2_with fail;refine (X.out _).mono ?_;rintro e w5 ⟨v5,rfl,M,b5⟩;have B5:=zAd W b5;have P5:=qH M;obtain⟨a5,d5,P⟩:=M.len;subst P;clear M b5 d k g f;obtain⟨d,k,g,f⟩:=c.out _ B5.out;go_wp2_with fail;refine (g2.out _).mono ?_;rintro e w6 ⟨v6,rfl,T,D⟩;have B6:=zAd B5 D;have P6:=qH T;have Q6:=qH ((P5.out.below D).mono D.size);obtain⟨a6,d6,R⟩:=T.len;subst R;clear T P5 D d k g f;obtain⟨d,k,g,f⟩:=c.out _ B6.out;go_wp2_with fail;refine (C.out _ _ Q6.out).mono ?_;rintro e w7 ⟨v7,rfl,S,G⟩;have B7:=zAd B6 G;have P7:=qH S;have Q7:=qH ((P6.out.below G).mono G.size);obtain⟨a7,d7,N⟩:=S.len;subst N;clear S Q6 P6 G d k g f;obtain⟨d,k,g,f⟩:=c.out _ B7.out;go_wp2_with fail;refine (E.out _ _ Q7.out).mono ?_;rintro e w8 ⟨v8,rfl,p8,Y⟩;have B8:=zAd B7 Y;have P8:=qH p8;have Q8:=qH ((P7.out.below Y).mono Y.size);obtain⟨a8,d8,hv8⟩:=p8.len;subst hv8;clear p8 Q7 P7 Y d k g f;have A8:=qH ((qK w8.heap.size w8).alloc (qN _) (qC #[qS a7 (mvL a (Z4 n)).length ((mvL a (Z4 n)).length+d7),qS a8 (mvL b (Z4 m)).length ((mvL b (Z4 m)).length+d8)] 23));go_wp2_with fail;have f9:=gs.out _ [mvL a (Z4 n),mvL b (Z4 m)] _ (Z9w _ rfl Q8.out P8.out) (by simp) (fun j=>by match j with | 0=>(show (mvL a (Z4 n)).length<=_;rw [Z0k];have:=HLD.out.1;omega) | 1=>(show (mvL b (Z4 m)).length<=_;rw [Z0k];have:=HLD.out.2;omega) | j+2=>(show ([]:List Pt).length<=_;simp))
  rw [ZaY,HU.out.1,HU.out.2] at f9;refine f9.mono ?_;rintro e w9 ⟨v9,rfl,p9,b9,n9⟩;have B9:=qH (B8.out.trans ((A8.out.trans (b9.mono A8.out.size)).mono B8.out.size));have P9:=qH p9;have N9:=qH (n9.mono (Nat.le_trans (HF.out _ B8.out).size A8.out.size));obtain⟨a9,d9,hv9⟩:=p9.len;subst hv9;clear p9 b9 f9 n9;go_wp2;go_ret2;exact⟨_,by rw [I.out];rfl,by rw [H.out];exact P9.out,HF.out _ B9.out,N9.out⟩
theorem Z0z (a b:Pt) (u v:Int) (w:World) :
  Calls Tryz.prog 44 #[.agg #[O qL a.x,O qL a.y],O qL u,.agg #[O qL b.x,O qL b.y],O qL v] w fun e w'=>∃ r,e=qR (.tuple #[r,O qL (corE a u b v)])/\Z7 w'.heap.size w' r (corL a u b v)/\Below w.heap.size w w':=(Z2X a b u v w).mono fun _ _ ⟨u,a,b,c,_⟩=>⟨u,a,b,c⟩
end
end Go.Proofs.YthipcinibldgnaaGreat
