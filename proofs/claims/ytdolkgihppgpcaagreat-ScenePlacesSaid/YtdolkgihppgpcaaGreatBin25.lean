/- slices.SortFunc at points, in a row of the call's own. | hull.around: sorted, without doubles, two chains. | hull.Hull; package mink: isPlace, areP .. -/
import Derived.Test.YtdolkgihppgpcaaGreatBin24
import Derived.Test.YtdolkgihppgpcaaGreatBin20
set_option linter.unusedSimpArgs false
set_option maxRecDepth 8000
set_option maxHeartbeats 4000000
namespace Go.Proofs.YtdolkgihppgpcaaGreat
section
attribute [local irreducible] wpQuiet
open Go.RowKit Go.Shelf
instance:Inhabited Pt:=⟨⟨0,0⟩⟩
def encPt (p:Pt):List Value:=[.int .i64 p.x,.int .i64 p.y]
theorem Z6W {w w':World} (h:Below w.heap.size w w') (hd:w.drawn≤w'.drawn):∃ q os,w'=Go.Sort.grow (w.drewN q) os:=by
 refine⟨w'.drawn-w.drawn,w'.heap.extract w.heap.size w'.heap.size,?_⟩;have e:w'.heap=w.heap++w'.heap.extract w.heap.size w'.heap.size:=by
  apply Array.ext_getElem?
  intro i;rw [Array.getElem?_append]
  split
  ·rename_i hi;exact h.block i hi
  ·rename_i hi
   rw [Array.getElem?_extract]
   split
   ·congr 1;omega
   ·exact Array.getElem?_eq_none (by omega)
 obtain⟨h1,h2,h3,h4,h5⟩:=h;cases w;cases w';simp only [Go.Sort.grow,World.drewN,World.mk.injEq] at *;exact⟨e,h2,by omega,h1,h3⟩
theorem Z4D (ax ay bx by':Int) (w:World) :
  Calls Tryz.prog 96 #[.agg #[.int .i64 ax,.int .i64 ay],.agg #[.int .i64 bx,.int .i64 by']] w fun e w'=>e=.returned (.int .i64 (cmpV ax ay bx by'))∧Below w.heap.size w w'∧w.drawn≤w'.drawn:=by
 go_enter Tryz.func96,Tryz.ntmps96;go_wp2
 go_region_held3 (fun w'=>w'.cell? ⟨w.heap.size,0,none⟩=some (.int .i64 ax)∧w'.cell? ⟨w.heap.size,1,none⟩=some (.int .i64 ay)∧w'.cell? ⟨w.heap.size+1,0,none⟩=some (.int .i64 bx)∧w'.cell? ⟨w.heap.size+1,1,none⟩=some (.int .i64 by'))
  (go_keep)
  (first | (go_at_call 120;refine (Z0S _ _ _).mono ?_;rintro e w' ⟨rfl,rfl⟩) | (go_at_call 119;refine Calls.mono (Z7m (w.heap.size+1+1) (cmpI ax bx) (cmpI ay by') _ ?c0 ?c1) ?_;(case c0=>simp [go_sem]);(case c1=>simp [go_sem]);rintro e w' ⟨rfl,rfl⟩))
 all_goals go_wp2
 go_ret;exact⟨rfl,zB2,Nat.le_succ _⟩
theorem Z9o (x y:Pt) (w:World) :
  Calls Tryz.prog 126 #[.agg (encPt x).toArray,.agg (encPt y).toArray] w fun e w'=>e=.returned (.int .i64 (cmpP x y))∧∃ q os,w'=Go.Sort.grow (w.drewN q) os:=by
 obtain⟨ax,ay⟩:=x;obtain⟨bx,by'⟩:=y
 have hr:cmpP ⟨ax,ay⟩ ⟨bx,by'⟩=cmpV ax ay bx by':=rfl
 rw [hr];have f:=Lib.hid (fun w1=>Z4D ax ay bx by' w1)
 generalize cmpV ax ay bx by'=r at *
 change Calls Tryz.prog 126 #[.agg #[.int .i64 ax,.int .i64 ay],.agg #[.int .i64 bx,.int .i64 by']] w _
 clear hr;go_enter Tryz.func126,Tryz.ntmps126;go_wp2_with fail;refine (f.out _).mono ?_;rintro e w1 ⟨rfl,b1,d1⟩;have BB:=((((Below.refl w.heap.size w).alloc (Nat.le_refl _) (.cells #[.int .i64 ax,.int .i64 ay] 31)).alloc (by simp) (.cells #[.int .i64 bx,.int .i64 by'] 31))).trans (b1.mono (by simp;omega))
 have HG:=Lib.hid (Z6W BB d1);clear b1 d1 BB;go_wp2;go_ret;exact⟨rfl,HG.out⟩
theorem Z5W (x y:Pt):ltOf cmpP x y=decide (LexLt x y):=by unfold ltOf;rw [decide_eq_decide];exact Z8n
theorem swoPt:Go.Sort.SWO (ltOf cmpP) where
 irrefl x:=by rw [Z5W];simp;exact fun h=>h.irrefl
 trans x y z h1 h2:=by rw [Z5W] at *;simp at *;exact h1.trans h2
 ntrans x y z h1 h2:=by
  rw [Z5W] at *;simp at *;intro h;rcases LexLt.tri x y with c | c | c
  ·exact h1 c
  ·exact h2 (c ▸ h)
  ·exact h2 (c.trans h)
theorem Z56 (d:Array Pt) (i:Nat):d[i]! = nth d.toList i:=by
 by_cases h:i<d.size
 ·simp [nth,List.getD_eq_getElem?_getD,h]
 ·simp [nth,List.getD_eq_getElem?_getD,h];rfl
theorem Z63 (d:Array Pt):Go.Sort.flatK encPt 2 d=(Za d.toList).toArray:=by
 refine Go.Sort.ext_get! (by simp [Zt]) fun t ht=>?_
 have ht':t<d.size*2:=by simpa using ht
 rw [Go.Sort.get_flatK _ _ _ t ht',Z56];obtain⟨q,r,hr,rfl⟩:∃ q r,r<2∧t=q*2+r:=⟨t / 2,t % 2,Nat.mod_lt _ (by omega),by omega⟩
 have hq:q<d.toList.length:=by simp;omega
 obtain⟨f0,f1⟩:=ZZ d.toList q hq;rw [show (q*2+r) / 2=q by omega,show (q*2+r) % 2=r by omega]
 match r,hr with
 | 0,_=>simp [encPt,f0]
 | 1,_=>simp [encPt,f1]
theorem Z8H (base g cap : Nat) (l : List Pt) (w : World) (hr : w.ownsRow base 31 2 (.slice (some ⟨g, 0, none⟩) l.length cap) l.length (Za l)) (hsz : l.length ≤ 1000000) :
  Calls Tryz.prog 125 #[.slice (some ⟨g,0,none⟩) l.length cap,.func (.func 126) #[] #[]] w fun e w'=>e=.returned (.tuple #[])∧∃ m:List Pt,m.length=l.length∧(∀ x,x ∈ m↔x ∈ l)∧(∀ i j,i<j→j<m.length→¬ LexLt (nth m j) (nth m i)) ∧
   w'.ownsRow base 31 2 (.slice (some ⟨g,0,none⟩) l.length cap) l.length (Za m)∧w.grownBy w' (some g):=by
 have hlt:=hr.lt g rfl;have hH:Go.Sort.HoldsK encPt 2 w g 0 l.toArray:=by
  intro j hj;rw [Z63] at hj ⊢;have hj':j<l.length*2:=by simpa [Zt] using hj
  rw [Nat.zero_add];refine⟨(hr.cellAt j hj').trans ?_,hr.frozenAt j⟩;have:j<(Za l).length:=by rw [Zt];exact hj'
  simp [this]
 have hcon:=AnyQ.slices_SortFunc sortPts 2 Tryz.isAgg31 Tryz.sizeOf31 encPt (fun _=>rfl) (fun x v hv=>by simp [encPt] at hv;rcases hv with rfl | rfl <;> rfl) cmpP swoPt 126 #[] g 0 cap l.toArray w
  (enters_of Tryz.func126 (by kernel_rfl) rfl) (fun m os dk _ x y=>Z9o x y _) hH hlt.2 (by simp;omega)
 change Calls Tryz.prog 125 #[.slice (some ⟨g,0,none⟩) l.length cap,_] w _ at hcon
 refine hcon.mono ?_;rintro e w' ⟨rfl,d',n,os,hp,hs,rfl⟩;have hsz':d'.size=l.length:=by have:=hp.1;simpa using this
 refine⟨rfl,d'.toList,by simpa using hsz',fun x=>?_,fun i j hij hj=>?_,?_,?_⟩
 ·have h3:=hp.2.2
  have e1:d'.extract 0 l.toArray.size=d':=by rw [List.size_toArray,← hsz'];exact Array.extract_size
  have e2:l.toArray.extract 0 l.toArray.size=l.toArray:=Array.extract_size;rw [e1,e2] at h3;exact h3.mem_iff
 ·have:=hs i j (Nat.zero_le _) hij (by simp at hj ⊢;omega)
  rw [Z5W,Z56,Z56] at this
  simpa using this
 ·rcases hr.2 with⟨h',_⟩ | ⟨g',cap',cur,h',hb,hg,hnc,hcm,hcs,htake⟩
  ·simp at h'
  ·simp only [Value.slice.injEq,Option.some.injEq,Addr.mk.injEq,and_true,true_and] at h'
   obtain⟨rfl,rfl⟩:=h';refine⟨by rw [Zt];simp;omega,.inr ⟨g,cap,Go.Sort.putCells id 0 (Go.Sort.flatK encPt 2 d') cur,rfl,hb,?_,hnc,hcm,?_,?_⟩⟩
   ·unfold Go.Proofs.sortWorldK Go.Sort.putRowK Go.Sort.putRow
    rw [Go.Sort.heap_grow_old _ _ (by simp [Go.Sort.mapBlock,Go.Sort.ahead];exact hlt.2)]
    simp only [Go.Sort.mapBlock,Go.Sort.ahead,Array.getElem?_modify,if_true];rw [hg]
    rfl
   ·simp [Go.Sort.putCells,hcs]
   ·rw [Z63]
    apply List.ext_getElem?
    intro i;rw [List.getElem?_take]
    split
    ·rename_i hi
     have hi2:i<(Za d'.toList).length:=by rw [Zt];simp;omega
     have hi3:i<cur.size:=by have:l.length*2≤cap*2:=Nat.mul_le_mul_right 2 hnc;omega
     simp [Go.Sort.putCells,hi2,hi3]
    ·rename_i hi
     rw [List.getElem?_eq_none];rw [Zt];simp;omega
 ·refine⟨rfl,rfl,rfl,?_,fun k hk hne=>?_⟩
  ·simp [Go.Proofs.sortWorldK,Go.Sort.putRowK,Go.Sort.putRow,Go.Sort.mapBlock,Go.Sort.grow,Go.Sort.ahead]
  ·unfold Go.Proofs.sortWorldK Go.Sort.putRowK Go.Sort.putRow
   rw [Go.Sort.heap_grow_old _ _ (by simpa [Go.Sort.mapBlock,Go.Sort.ahead] using hk)]
   simp only [Go.Sort.mapBlock,Go.Sort.ahead,Array.getElem?_modify];rw [if_neg (fun h=>hne (by rw [h]))]
end
section
attribute [local go_sem] Oper.semAt_some
attribute [local irreducible] wpQuiet
open Go.RowKit Go.Shelf
theorem Z1a {P:Program} {F:Fence} {nF:Nat} {w w':World} {ops:Array Oper} {rest:List Oper} {o:Oper} {a:Act} {Q:Exit→Act→World→Prop} (hgd:o.guard=none) (s x:Operand) (t:TypeId)
  (ho:o.op=.call { callee:=.builtin .append,args:=#[s,x],argTypes:=#[t,t] }) {vs vx v':Value} (hs:a.eval s=vs) (hx:a.eval x=vx) (hr:(Builtin.append_ #[t,t] o.type #[vs,vx]).run P w=.ok v' w')
  (h:wpListIn F nF P ops Q rest (a.put o.dst v') w'):wpListIn F nF P ops Q (o::rest) a w:=by
 refine wpListIn_plain hgd fun K hK=>?_
 unfold Oper.wpIn;refine⟨by simp [Oper.about,ho,resolve,Target.leads,Sem.run_pure],?_⟩
 rw [Oper.semAt_plain F _ _ (by rw [ho];intro c hc';cases hc')]
 simp [execOp,ho,resolve,invoke,builtin,hs,hx,hr,Result.andThen];exact hK _ _ h
structure LS (Bc n1:Nat) (L:List Pt) (w0 W:World):Prop where
 row:∃ v,Has W Bc #[v] 171∧W.ownsRow n1 31 2 v L.length (Za L)
 grown:w0.grownBy W (some Bc)
theorem Pushed.ls {Bc n1:Nat} {vc:Value} {L L':List Pt} {w0 W W':World} (h:Pushed Bc n1 vc L' W W') (hr:W.ownsRow n1 31 2 vc L.length (Za L)) (hg:w0.grownBy W (some Bc)) (hn:w0.heap.size≤n1):LS Bc n1 L' w0 W':=by
 obtain⟨v',h1,h2,_⟩:=h.row;refine⟨⟨v',h1,h2⟩,h.os.trans hg.os,h.tape.trans hg.tape,h.output.trans hg.output,Nat.le_trans hg.size h.size,fun k hk hne=>?_⟩
 have hz:=hg.size;rw [h.kept k (by omega) (fun e=>hne (by rw [e])) (fun e=>by have:=(hr.lt _ e).1;omega)]
 exact hg.block k hk hne
theorem Z1g (s:List Pt):∀ k,k≤s.length→∀ x,x ∈ chainTo s k→x ∈ s
 | 0,_,x,h=>by simp [chainTo] at h
 | k + 1, hk, x, h => by
  simp only [chainTo,pushP,List.mem_append,List.mem_singleton] at h;rcases h with h | h
  ·exact Z1g s k (by omega) x (List.mem_of_mem_take h)
  ·rw [h];exact nth_mem' hk
theorem Z7U {base n g cap:Nat} {w w1:World} {xs:List Value} {b0:Nat} (hr:w.ownsRow base 31 2 (.slice (some ⟨g,0,none⟩) n cap) n xs) (hg:w.grownBy w1 (some g)) (h0:b0≤base) (hb:b0≤w.heap.size):Below b0 w w1 :=
 (Below.refl b0 w).grown hg hb fun j ej=>by cases ej;exact Nat.le_trans h0 (hr.lt g rfl).1
theorem Z77 (W:World) (c1 c2 c3:Array Value) (t1 t2 t3:TypeId):Has (((W.alloc (.cells c1 t1)).alloc (.cells c2 t2)).alloc (.cells c3 t3)) W.heap.size c1 t1∧Has (((W.alloc (.cells c1 t1)).alloc (.cells c2 t2)).alloc (.cells c3 t3)) (W.heap.size+1) c2 t2∧Has (((W.alloc (.cells c1 t1)).alloc (.cells c2 t2)).alloc (.cells c3 t3)) (W.heap.size+2) c3 t3 ∧
  Below W.heap.size W (((W.alloc (.cells c1 t1)).alloc (.cells c2 t2)).alloc (.cells c3 t3))∧(((W.alloc (.cells c1 t1)).alloc (.cells c2 t2)).alloc (.cells c3 t3)).heap.size=W.heap.size+3:=by
 have h1:=((Has.new W c1 t1).below ((Below.refl (W.heap.size+1) _).alloc (by simp) (.cells c2 t2)) (by omega)).below ((Below.refl (W.heap.size+1) _).alloc (by simp) (.cells c3 t3)) (by omega)
 have h2:=(Has.new (W.alloc (.cells c1 t1)) c2 t2).below ((Below.refl (W.heap.size+2) _).alloc (by simp) (.cells c3 t3)) (by simp)
 have h3:=Has.new ((W.alloc (.cells c1 t1)).alloc (.cells c2 t2)) c3 t3;simp only [World.size_alloc] at h2 h3;exact⟨h1,h2,h3,(((Below.refl W.heap.size W).alloc (Nat.le_refl _) _).alloc (by simp) _).alloc (by simp;omega) _,by simp⟩
theorem Z23 {s t:List Pt}:∀ k,(∀ i,i<k→nth s i=nth t i)→chainTo s k=chainTo t k
 | 0,_=>rfl
 | k + 1, h => by
  simp only [chainTo];rw [Z23 k (fun i hi=>h i (by omega)),h k (by omega)]
theorem Z5x (L:List Pt) (x:Pt):chainP (L++[x])=pushP (chainP L) x:=by
 unfold chainP;rw [List.length_append,List.length_singleton];simp only [chainTo];rw [Z0y,Z23 (s:=L++[x]) (t:=L) L.length (fun i hi=>Z0x hi)]
theorem Z8p {s:List Pt} (hs:Inc s) (h2:2≤s.length):2≤(chainP s).length∧2≤(chainP s.reverse).length:=by
 have low:=Z0T hs s.length (by omega) (Nat.le_refl _)
 have hr:Inc (s.reverse.map ng):=fun i j hij hj=>by
  simp only [List.length_map,List.length_reverse] at hj;rw [Z05,Z05,Z7x,Z0h (by omega),Z0h (by omega)]
  exact hs _ _ (by omega) (by omega)
 have high:=Z0T hr s.length (by omega) (by simp)
 rw [Z1R] at high;have el:chainTo s s.length=chainP s:=rfl;have eh:chainTo s.reverse s.length=chainP s.reverse:=by unfold chainP;rw [List.length_reverse]
 rw [el] at low;rw [eh] at high;have hne:nth s 0≠nth s (s.length-1):=(hs 0 (s.length-1) (by omega) (by omega)).ne
 constructor
 ·rcases Nat.lt_or_ge (chainP s).length 2 with h | h
  ·have:=low.last
   rw [show (chainP s).length-1=0 by have:=low.pos;omega,low.first] at this
   exact absurd this hne
  ·exact h
 ·rcases Nat.lt_or_ge (chainP s.reverse).length 2 with h | h
  ·have hp:=high.pos
   have:=high.last;simp only [List.length_map] at hp this;rw [show (chainP s.reverse).length-1=0 by omega] at this
   have hf:=high.first
   rw [hf,Z05,Z05,Z0h (by omega),Z0h (by omega)] at this
   have:=Z5U this;rw [show s.length-1-0=s.length-1 by omega,show s.length-1-(s.length-1)=0 by omega] at this
   exact absurd this.symm hne
  ·exact h
abbrev IPt:={ p:Nat × Pt // Z4 p.2=true }
def encI (x:IPt):Array Value:=#[.int .i64 (x.1.1:Int),.agg #[.int .i64 x.1.2.x,.int .i64 x.1.2.y]]
def ptsOf (pre:List IPt):List Pt:=pre.map fun x=>x.1.2
theorem Z6s (pre:List IPt) (x:IPt):ptsOf (pre++[x])=ptsOf pre++[x.1.2]:=by simp [ptsOf]
theorem Z4Z {pre:List IPt} {x:Pt} (h:x ∈ ptsOf pre):Z4 x=true:=by
 obtain⟨y,_,rfl⟩:=List.mem_map.1 h;exact y.2
theorem Z6t (s:List Pt) (h:∀ i,Z4 (nth s i)=true):ptsOf (upto (fun i=>(⟨(s.length-1-i,nth s (s.length-1-i)),h _⟩:IPt)) s.length)=s.reverse:=by
 refine Z85 (by simp [ptsOf,upto]) fun i hi=>?_
 have hi':i<s.length:=by simpa [ptsOf,upto] using hi
 rw [Z0h hi'];simp [ptsOf,upto,nth,List.getD_eq_getElem?_getD,hi']
theorem Z9C {β:Type} {Bc n1 B:Nat} {w0:World} (f:β→List Pt) (hB:w0.heap.size≤B):OwnFrom B (fun (s:β) W=>LS Bc n1 (f s) w0 W):=by
 intro s X Y row h hg hr;obtain⟨v,h1,h2⟩:=h.row;obtain⟨v',h3,h4,_⟩:=holdsRow_own n1 Bc 171 31 2 (fun (s:β)=>(f s).length) (fun s=>Za (f s)) (fun _ _=>True) s X Y row ⟨v,h1,h2,trivial⟩ hg (fun r e=>(hr r e).2)
 have hz:=h.grown.size;exact⟨⟨v',h3,h4⟩,hg.os.trans h.grown.os,hg.tape.trans h.grown.tape,hg.output.trans h.grown.output,Nat.le_trans hz hg.size,fun k hk hne=>(hg.block k (by omega) (fun e=>by have:=(hr k e.symm).1;omega)).trans (h.grown.block k hk hne)⟩
set_option linter.unusedVariables false in
set_option maxRecDepth 100000 in
theorem Z5k (v : Value) (l : List Pt) (w : World) (hp : Z8 w.heap.size w v l) (h0 : 0 < l.length) (hsz : l.length ≤ 10000) (hpl : ∀ k, k < l.length → Z4 (nth l k) = true) :
  Calls Tryz.prog 105 #[v] w (PtsN (hullP l) w):=by
 have c1:=Lib.hid (Z8o v l w hp h0 (by omega))
 have PL:=Lib.hid (fun x (hx:x ∈ l)=>by obtain⟨k,hk,e⟩:=mem_nth' hx;rw [← e];exact hpl k hk:∀ x,x ∈ l→Z4 x=true)
 obtain⟨a,cap,rfl⟩:=hp.len;clear hp hpl;refine (callsIn_wide (n:=9)).1 ?_;refine callsIn_of_wp_marks Tryz.func105 rfl trivial ?_ rfl;simp only [Tryz.ntmps105,List.size_toArray,List.length_cons,List.length_nil,Nat.reduceAdd,Nat.reduceSub,Array.replicate_succ,Array.replicate_zero,List.push_toArray,List.append_toArray,List.nil_append,List.cons_append];refine wpIn_wide.2 ?_;go_wp2_with fail;refine c1.out.mono ?_;rintro e w1 ⟨v1,rfl,r1,b1⟩;obtain⟨g,gc,rfl⟩:=Z0k r1 h0;have c2:=Lib.hid (Z8H w.heap.size g gc l w1 r1 (by omega))
 have R1:=Lib.hid r1;have B1:=Lib.hid b1;clear r1 b1 c1;go_wp2_with fail;refine c2.out.mono ?_;rintro e w2 ⟨rfl,m,hml,hmem,hsort,r2,g2⟩;rw [← hml] at r2;have c3:=Lib.hid (Z5t w.heap.size g gc m w2 r2 (by omega) (by omega))
 have B2:=Lib.hid (B1.out.trans (Z7U R1.out g2 (Nat.le_refl _) B1.out.size));have HH:=Lib.hid (Z5d hsort hmem);have hinc:=(Z3R hsort m.length (Nat.le_refl _)).2.1;have hms:=Lib.hid (fun x (hx:x ∈ ddP m)=>by
  obtain⟨j,hj,e⟩:=((Z3R hsort m.length (Nat.le_refl _)).2.2 x).1 hx;exact PL.out x ((hmem x).1 (by rw [← e];exact nth_mem' hj)):∀ x,x ∈ ddP m→Z4 x=true)
 have hpos:=Zad (m:=m) (by omega)
 have hlen:=Z6a m m.length;rw [← hml];have HML:=Lib.hid hml;clear hml;have R2:=Lib.hid r2;have hml2:m.length≤10000:=by have:=HML.out;omega
 clear c2 r2 g2 hsort hmem;go_wp2_with fail;refine c3.out.mono ?_;rintro e w3 ⟨rfl,r3,g3⟩;have B3:=Lib.hid (B2.out.trans (Z7U R2.out g3 (Nat.le_refl _) B2.out.size))
 change (ddP m).length≤m.length at hlen
 have hinc':Inc (ddP m):=hinc;clear hinc;obtain⟨s,hs⟩:∃ s,ddP m=s:=⟨_,rfl⟩;rw [hs] at HH r3 hms hpos hlen hinc' ⊢;have R3:=Lib.hid r3;clear c3 r3 g3 hs R1 R2;by_cases h3:s.length<3
 ·have d1:decide ((s.length:Int)<3)=true:=by simp;omega
  have e:goHull s=s:=by unfold goHull;rw [if_pos h3]
  rw [e] at HH;clear e;have PS:=Lib.hid (Z8.own R3.out (by omega))
  have HE:=Lib.hid HH.out.symm;clear hinc';go_wp2;exact⟨.slice (some ⟨g,0,none⟩) s.length gc,by simp [results,Tryz.f105,go_sem],_,rfl,by rw [HE.out];exact PS.out,B3.out,fun b' o' n' c' e'=>by cases e';exact (R3.out.lt g rfl).1⟩
 have d1:decide ((s.length:Int)<3)=false:=by simp;omega
 have e:goHull s=twoP s:=by unfold goHull;rw [if_neg h3]
 rw [e] at HH;clear e;have h3w:=Z77 w3 #[.slice none 0 0] #[.slice none 0 0] #[.func (.func 128) #[.pointer (some ⟨w3.heap.size,0,none⟩)] #[]] 171 171 172;obtain⟨W4,hW4⟩:∃ W4,((w3.alloc (.cells #[.slice none 0 0] 171)).alloc (.cells #[.slice none 0 0] 171)).alloc (.cells #[.func (.func 128) #[.pointer (some ⟨w3.heap.size,0,none⟩)] #[]] 172)=W4:=⟨_,rfl⟩;rw [hW4] at h3w;have HW4:=Lib.hid hW4;have H4:=Lib.hid h3w;have hs10:s.length≤10000:=by omega
 have hg3:=(R3.out.lt g rfl).2;have hw3:=B3.out.size;have S0:Hid (LS w3.heap.size (w3.heap.size+3) [] W4 W4):=⟨⟨_,h3w.1,World.ownsRow_nil _ _ _ _⟩,World.grownBy.refl _ _⟩;have INC:=Lib.hid hinc';clear hW4 h3w hinc' hml2 hlen;go_wp2;rw [HW4.out]
 go_loopw [24] (fun i wr=>∃ k:Nat,k≤s.length∧i=.int .i64 (k:Int)∧LS w3.heap.size (w3.heap.size+3) (chainTo s k) W4 wr) (fun i _=>s.length-(intOf i).toNat)
 case atStart=>exact⟨0,by omega,rfl,S0.out⟩
 case round =>
  clear S0;obtain⟨k,hk,rfl,hS⟩:=hrel;obtain⟨a1,a2,a3,a4,a5⟩:=H4.out;have z4:=hS.grown.size;have old:∀ b,b<w3.heap.size+3→b≠w3.heap.size→wr.heap[b]?=W4.heap[b]?:=fun b h1 h2=>hS.grown.block b (by omega) (fun e=>h2 (by cases e;rfl))
  have rg:wr.ownsRow w.heap.size 31 2 (.slice (some ⟨g,0,none⟩) s.length gc) s.length (Za s):=Z08 R3.out fun b hb=>by cases hb;rw [old g (by omega) (by omega)];exact a4.block g hg3
  have pv:Has wr (w3.heap.size+2) #[.func (.func 128) #[.pointer (some ⟨w3.heap.size,0,none⟩)] #[]] 172:=(old _ (by omega) (by omega)).trans a3
  by_cases hlt:k<s.length
  ·obtain⟨q0,q1⟩:=Z2p rg hlt
   have hpk:=hms.out _ (nth_mem' hlt);have hch:Hid (chainTo s (k+1)=pushP (chainTo s k) (nth s k)):=rfl;obtain⟨⟨px,py⟩,hpx⟩:∃ p,nth s k=p:=⟨_,rfl⟩;rw [hpx] at q0 q1 hpk hch;simp only at q0 q1;have AX:=(Below.refl wr.heap.size wr).alloc (Nat.le_refl _) (.cells #[.int .i64 px,.int .i64 py] 31);have NX:=Has.new wr #[.int .i64 px,.int .i64 py] 31;have x0:=NX.cell (i:=0) rfl;have x1:=NX.cell (i:=1) rfl;have f0:=(pv.below AX pv.lt).cell (i:=0) rfl;obtain⟨v,hv1,hv2⟩:=hS.row;have hcl:=Z0i s k;have zz:(wr.alloc (.cells #[.int .i64 px,.int .i64 py] 31)).heap.size=wr.heap.size+1:=by simp
   have cp:=Lib.hid (Z5O w3.heap.size (w3.heap.size+3) v (chainTo s k) ⟨px,py⟩ _ (hv1.below AX hv1.lt) (Zr hv2 AX) (by omega) (fun e=>by have:=(hv2.lt _ e).1;omega) (fun j hj=>hms.out _ (Z1g s k hk _ (nth_mem' hj))) hpk (by omega))
   have HL:Hid (∀ w6,Pushed w3.heap.size (w3.heap.size+3) v (pushP (chainTo s k) ⟨px,py⟩) (wr.alloc (.cells #[.int .i64 px,.int .i64 py] 31)) w6→LS w3.heap.size (w3.heap.size+3) (chainTo s (k+1)) W4 w6):=fun w6 h=>by
    rw [hch.out];exact h.ls (Zr hv2 AX) ⟨AX.os.trans hS.grown.os,AX.tape.trans hS.grown.tape,AX.output.trans hS.grown.output,by omega,fun b hb hne=>(AX.block b (by omega)).trans (hS.grown.block b hb hne)⟩ (by omega)
   have i1:(k:Int)<s.length:=by omega
   have i2:(0:Int)≤k:=by omega
   have dk:decide ((k:Int)<(s.length:Int))=true:=by simp;omega
   clear a1 a2 a3 a4 a5 rg pv AX NX hv1 hv2 hS hpx old hpk z4;go_wp2_with fail;refine cp.out.mono ?_;rintro e w6 ⟨rfl,hpu⟩;have HP:=Lib.hid (HL.out w6 hpu);clear hpu cp HL x0 x1 f0 q0 q1;go_wp2;go_roundw
   case rel=>exact⟨k+1,by omega,by go_num,HP.out⟩
   case measure=>simp [intOf];omega
  ·obtain rfl:k=s.length:=by omega
   have dk:decide ((s.length:Int)<(s.length:Int))=false:=by simp
   have p0:=pv.cell (i:=0) rfl;have p1:=Ze pv 0;have HS:=Lib.hid hS;have HO:=Lib.hid (And.intro rg pv);have OLD:=Lib.hid old;clear a1 a2 a3 a4 a5 rg pv hS old;go_wp2_with (go_at_call 129;refine (Z4L _ _ _ _).mono ?_;rintro e w' ⟨rfl,rfl⟩);have z4:=HS.out.grown.size;obtain⟨a1,a2,a3,a4,a5⟩:=H4.out;have hw:∀ b,b<wr.heap.size→b≠w3.heap.size+1+1→((wr.setCell ⟨w3.heap.size+1+1,0,none⟩ (.func (.func 128) #[.pointer (some ⟨w3.heap.size+1,0,none⟩)] #[])).alloc (.cells #[.slice (some ⟨g,0,none⟩) s.length gc] 23)).heap[b]?=wr.heap[b]?:=fun b h1 h2 =>
    (Below.heap_alloc _ _ _ (by simpa [World.setCell] using h1)).trans (Below.heap_setCell _ _ _ _ h2)
   have hz8:((wr.setCell ⟨w3.heap.size+1+1,0,none⟩ (.func (.func 128) #[.pointer (some ⟨w3.heap.size+1,0,none⟩)] #[])).alloc (.cells #[.slice (some ⟨g,0,none⟩) s.length gc] 23)).heap.size=wr.heap.size+1:=by simp [World.setCell]
   have hbs:=Has.new (wr.setCell ⟨w3.heap.size+1+1,0,none⟩ (.func (.func 128) #[.pointer (some ⟨w3.heap.size+1,0,none⟩)] #[])) #[.slice (some ⟨g,0,none⟩) s.length gc] 23;have hsc:(wr.setCell ⟨w3.heap.size+1+1,0,none⟩ (.func (.func 128) #[.pointer (some ⟨w3.heap.size+1,0,none⟩)] #[])).heap.size=wr.heap.size:=by simp [World.setCell]
   rw [hsc] at hbs;have hpv:=(HO.out.2.set 0 (.func (.func 128) #[.pointer (some ⟨w3.heap.size+1,0,none⟩)] #[])).below ((Below.refl (wr.setCell ⟨w3.heap.size+2,0,none⟩ (.func (.func 128) #[.pointer (some ⟨w3.heap.size+1,0,none⟩)] #[])).heap.size _).alloc (Nat.le_refl _) (.cells #[.slice (some ⟨g,0,none⟩) s.length gc] 23)) (by rw [hsc];omega)
   have hos:wr.grownBy ((wr.setCell ⟨w3.heap.size+1+1,0,none⟩ (.func (.func 128) #[.pointer (some ⟨w3.heap.size+1,0,none⟩)] #[])).alloc (.cells #[.slice (some ⟨g,0,none⟩) s.length gc] 23)) (some (w3.heap.size+2)):=⟨rfl,rfl,rfl,by omega,fun k hk hne=>hw k hk (fun e=>hne (by rw [e]))⟩
   obtain⟨W8,hW8⟩:∃ W8,(wr.setCell ⟨w3.heap.size+1+1,0,none⟩ (.func (.func 128) #[.pointer (some ⟨w3.heap.size+1,0,none⟩)] #[])).alloc (.cells #[.slice (some ⟨g,0,none⟩) s.length gc] 23)=W8:=⟨_,rfl⟩;rw [hW8] at hw hz8 hbs hos ⊢;have hpv8:Has W8 (w3.heap.size+1+1) #[.func (.func 128) #[.pointer (some ⟨w3.heap.size+1,0,none⟩)] #[]] 172:=by rw [← hW8];exact hpv
   clear hpv hW8 p0 p1 hsc;have hB8:Below w.heap.size w W8:=by
    refine B3.out.trans ⟨?_,?_,?_,by omega,fun b hb=>?_⟩
    ·exact (hos.os.trans HS.out.grown.os).trans a4.os
    ·exact (hos.tape.trans HS.out.grown.tape).trans a4.tape
    ·exact (hos.output.trans HS.out.grown.output).trans a4.output
    ·rw [hw b (by omega) (by omega),OLD.out b (by omega) (by omega)]
     exact a4.block b (by omega)
   have hg8:W8.ownsRow w.heap.size 31 2 (.slice (some ⟨g,0,none⟩) s.length gc) s.length (Za s):=Z08 HO.out.1 fun b hb=>by cases hb;exact hw g (by omega) (by omega)
   have hh8:Has W8 (w3.heap.size+1) #[.slice none 0 0] 171:=(hw _ (by omega) (by omega)).trans ((OLD.out _ (by omega) (by omega)).trans a2)
   obtain⟨vl,hl1,hl2⟩:=HS.out.row;have hl8:Has W8 w3.heap.size #[vl] 171:=(hw _ (by omega) (by omega)).trans hl1
   have hr8:W8.ownsRow (w3.heap.size+3) 31 2 vl (chainTo s s.length).length (Za (chainTo s s.length)):=Z08 hl2 fun b hb=>by have:=hl2.lt b hb;exact hw b (by omega) (by omega)
   have hplc:∀ i,Z4 (nth s i)=true:=fun i=>Z04 (fun k hk=>hms.out _ (nth_mem' hk)) i
   have z44:W4.heap.size=w3.heap.size+3:=a5;have H8:=Lib.hid (And.intro hg8 (And.intro hl8 (And.intro hr8 hB8)));clear hg8 hl8 hr8 hB8 hl1 hl2 a1 a2 a3 a4 a5 hw hos;refine (wpIn_wide (n:=9)).1 ?_;refine wpIn_rangeFunc_ownH rfl (by omega) (gf:=141) (lb:=#[.pointer (some ⟨wr.heap.size,0,none⟩)]) rfl trivial (enters_of Tryz.func141 (by kernel_rfl) rfl)
    (Z6Y encI (fun i=>⟨(s.length-1-i,nth s (s.length-1-i)),hplc _⟩) 8 (by omega) (fun b=>b=wr.heap.size∨b=g) wr.heap.size g gc s W8 (.inl rfl) (.inr rfl) (fun b hb=>by omega) (by omega) (hbs.cell (i:=0) rfl) (fun j hj=>Z2p H8.out.1 hj) (fun i hi=>rfl))
    (fun h k=>h.trans k) (fun W' l' o o' hl' _ _ _=>KeepsP.putObj o' (fun b hb=>by omega)) (Below.refl _ _) (fun _=>rfl)
    (fun pre X=>LS (w3.heap.size+1) W8.heap.size (chainP (ptsOf pre)) W8 X)
    (fun _ _ _=>False)
    (Z9C (fun pre=>chainP (ptsOf pre)) (Nat.le_refl _))
    (fun c=>ownFrom_pure _ (fun _=>False))
    ⟨⟨_,hh8,World.ownsRow_nil _ _ _ _⟩,World.grownBy.refl _ _⟩
    (fun x a' X=>∃ B1,Has X B1 #[.int .i64 x.1.2.x,.int .i64 x.1.2.y] 31∧a'={ tmps:=#[.slice a m.length (m.length+cap),undef,.slice none 0 0,.slice (some ⟨g,0,none⟩) s.length gc,.pointer (some ⟨w3.heap.size,0,none⟩),.pointer (some ⟨w3.heap.size+1,0,none⟩),.pointer (some ⟨w3.heap.size+1+1,0,none⟩),undef,u8,undef,.pointer (some ⟨B1,0,none⟩),.slice a m.length (m.length+cap),.slice (some ⟨g,0,none⟩) m.length gc,.slice (some ⟨g,0,none⟩) m.length gc,.tuple #[],.slice (some ⟨g,0,none⟩) m.length gc,.slice (some ⟨g,0,none⟩) s.length gc,.slice (some ⟨g,0,none⟩) s.length gc,.int .i64 (s.length:Int),.bool false,undef,.func (.func 128) #[.pointer (some ⟨w3.heap.size,0,none⟩)] #[],.slice (some ⟨g,0,none⟩) s.length gc,.int .i64 (s.length:Int),.int .i64 (s.length:Int),.bool false,u26,u27,u28,u29,u30,u31,.func (.func 128) #[.pointer (some ⟨w3.heap.size+1,0,none⟩)] #[],.slice (some ⟨g,0,none⟩) s.length gc,.func (.func 141) #[] #[.pointer (some ⟨wr.heap.size,0,none⟩)],.int .i64 (x.1.1:Int),.agg #[.int .i64 x.1.2.x,.int .i64 x.1.2.y],undef,undef,undef,undef,undef,undef,undef,undef,undef,undef,undef,undef,undef,undef,undef,undef,undef],defers:=[] })
    (fun x a' _ X Y row hs hg hr=>by obtain⟨B1,g1,g2⟩:=hs;exact⟨B1,Z0b g1 hg (fun r e=>(hr r e).2),g2⟩)
    ?assign ?body ?done ?stop
   case assign =>
    rintro ll pre x X K hI hK;unfold encI;gi_wp2;have AX:=(Below.refl X.heap.size X).alloc (Nat.le_refl _) (.cells #[.int .i64 x.1.2.x,.int .i64 x.1.2.y] 31);have hz:=hI.grown.size;exact hK _ _ ((KeepsOthers.alloc _ _).from _) (KeepsP.of_below AX (fun b hb=>by omega)) ((Z9C (fun pre=>chainP (ptsOf pre)) (Nat.le_refl W8.heap.size)).alloc _ hI) ⟨X.heap.size,Has.new _ _ _,rfl⟩
   case body =>
    rintro ll pre ⟨⟨ix,⟨px,py⟩⟩,hpx⟩ a' X hll ⟨r,hr⟩ hI ⟨B1,g1,rfl⟩ hlt;have hll':=Lib.hid hll;have hr':=Lib.hid hr;have hlt':=Lib.hid hlt;have hI':=Lib.hid hI;have hzX:=hI.grown.size;have hch:=Lib.hid (Z5x (ptsOf pre) ⟨px,py⟩);have hps:=Lib.hid (Z6s pre ⟨(ix,⟨px,py⟩),hpx⟩);obtain⟨v,hv1,hv2⟩:=hI.row;have pv:Has X (w3.heap.size+1+1) #[.func (.func 128) #[.pointer (some ⟨w3.heap.size+1,0,none⟩)] #[]] 172:=(hI.grown.block _ (by omega) (fun e=>by simp only [Option.some.injEq] at e;omega)).trans hpv8
    have f0:=pv.cell (i:=0) rfl;have x0:=g1.cell (i:=0) rfl;have x1:=g1.cell (i:=1) rfl;have hcl:(chainP (ptsOf pre)).length≤10000:=by
     have h1:=Z0i (ptsOf pre) (ptsOf pre).length;have h2:(ptsOf pre).length=pre.length:=by simp [ptsOf]
     have h3:(chainP (ptsOf pre)).length≤(ptsOf pre).length:=h1;omega
    have cp:=Lib.hid (Z5O (w3.heap.size+1) W8.heap.size v (chainP (ptsOf pre)) ⟨px,py⟩ X hv1 hv2 hzX (fun e=>by have:=(hv2.lt _ e).1;omega) (fun j hj=>Z4Z (Z1g (ptsOf pre) _ (Nat.le_refl _) _ (nth_mem' hj))) hpx (by omega))
    have HV:=Lib.hid (And.intro hv1 hv2);simp only at x0 x1;clear hll hr hlt hI hv1 hv2 pv g1
    gi_wp2_with (refine⟨trivial,?_⟩;gi_at_call 128;refine (CallsIn.inRound ll (callsIn_wide.2 cp.out)).mono ?_;rintro e w6 ⟨rfl,hpu⟩)
    have own6:∀ b,v.ownBlock=some b→W8.heap.size≤b:=fun b hb=>(HV.out.2.lt b hb).1
    refine⟨⟨hpu.size,fun k o hk1 hk2 hk3=>?_⟩,⟨hpu.size,fun b hb=>hpu.kept b (by omega) (by omega) (fun e=>by have:=own6 b e;omega)⟩,?_⟩
    ·have hkl:=(Array.getElem?_eq_some_iff.1 hk2).1
     refine (hpu.kept k hkl (fun e=>?_) (fun e=>?_)).trans hk2
     ·subst e
      have:=HV.out.1;rw [show X.heap[w3.heap.size+1]?=_ from this] at hk2
      cases hk2;cases hk3
     ·rcases HV.out.2.2 with⟨h',_⟩ | ⟨g',cap',cur,h',_,hg',_⟩
      ·rw [h'] at e;simp [Value.ownBlock] at e
      ·rw [h'] at e
       simp only [Value.ownBlock,Option.some.injEq] at e;subst e;rw [hg'] at hk2;cases hk2;cases hk3
    ·show LS (w3.heap.size+1) W8.heap.size (chainP (ptsOf (pre++[⟨(ix,⟨px,py⟩),hpx⟩]))) W8 w6
     rw [hps.out,hch.out];exact hpu.ls HV.out.2 hI'.out.grown (Nat.le_refl _)
   case stop=>rintro D c pre X hD _ h;exact h.elim
   case done =>
    rintro D ys X hD rfl hI hK;replace hI:LS (w3.heap.size+1) W8.heap.size (chainP s.reverse) W8 X:=by rw [← Z6t s hplc];exact hI
    have hct:=Z8p INC.out (by omega)
    have hcA:chainTo s s.length=chainP s:=rfl;obtain⟨hg8,hl8,hr8,hB8⟩:=H8.out;rw [hcA] at hr8;obtain⟨gl,cl,hvl⟩:=Z0k hr8 (by omega)
    obtain⟨vh,hh1,hh2⟩:=hI.row;obtain⟨gh,ch,hvh⟩:=Z0k hh2 (by omega)
    subst hvl;subst hvh;have hzX:=hI.grown.size;have hgl:=hr8.lt gl rfl;have blk:∀ b,b<W8.heap.size→b≠w3.heap.size+1→X.heap[b]?=W8.heap[b]?:=fun b h1 h2=>hI.grown.block b h1 (fun e=>h2 (by cases e;rfl))
    have lX:Has X w3.heap.size #[.slice (some ⟨gl,0,none⟩) (chainP s).length cl] 171:=(blk _ (by omega) (by omega)).trans hl8
    have rX:X.ownsRow (w3.heap.size+3) 31 2 (.slice (some ⟨gl,0,none⟩) (chainP s).length cl) (chainP s).length (Za (chainP s)):=Z08 hr8 fun b hb=>by cases hb;exact blk gl (by omega) (by omega)
    have BX:Below w.heap.size w X:=hB8.trans ⟨hI.grown.os,hI.grown.tape,hI.grown.output,hzX,fun b hb=>blk b (by omega) (by omega)⟩
    have l0:=Low.fact (lX.cell (i:=0) rfl);have h0':=Low.fact (hh1.cell (i:=0) rfl);have la:=Z0i s s.length;have lb:=Z0i s.reverse s.reverse.length;rw [List.length_reverse] at lb;have lbe:chainTo s.reverse s.length=chainP s.reverse:=by unfold chainP;rw [List.length_reverse]
    rw [hcA] at la;rw [lbe] at lb;have htw:Hid (twoP s=(chainP s).take ((chainP s).length-1)++(chainP s.reverse).take ((chainP s.reverse).length-1)):=by
     show _=_
     unfold twoP;rw [List.dropLast_eq_take,List.dropLast_eq_take]
    have hcl1:=(Z0c rX).resolve_left (by simp)
    have hcl2:=(Z0c hh2).resolve_left (by simp)
    obtain⟨_,_,e1,hcl1⟩:=hcl1;obtain⟨_,_,e2,hcl2⟩:=hcl2;simp only [Value.slice.injEq,true_and] at e1 e2;rw [← e1.2] at hcl1;rw [← e2.2] at hcl2;clear e1 e2 hcA lbe;obtain⟨A,hA⟩:∃ A,chainP s=A:=⟨_,rfl⟩;obtain⟨B,hB⟩:∃ B,chainP s.reverse=B:=⟨_,rfl⟩;rw [hA] at l0 la htw hct rX lX hcl1;rw [hB] at h0' lb htw hct hh1 hh2 hcl2;have HX:=Lib.hid (And.intro rX (And.intro hh2 (And.intro BX hK)));have k1:IntKind.i64.wrap ((A.length:Int)-1)=(A.length:Int)-1:=zW2;have k2:IntKind.i64.wrap ((B.length:Int)-1)=(B.length:Int)-1:=zW2;have k3:(0:Int)≤(A.length:Int)-1:=by omega
    have k4:(0:Int)≤(B.length:Int)-1:=by omega
    have k5:((A.length:Int)-1).toNat=A.length-1:=by omega
    have k6:((B.length:Int)-1).toNat=B.length-1:=by omega
    have k7:(A.length:Int)-1≤(cl:Int):=by omega
    have k8:(B.length:Int)-1≤(ch:Int):=by omega
    have k9:A.length-1≤cl:=by omega
    have k10:B.length-1≤ch:=by omega
    have k11:(1:Int)≤A.length:=by omega
    have k12:(1:Int)≤B.length:=by omega
    clear hI hg8 hl8 hr8 hB8 hh1 hh2 hK lX rX BX blk hA hB hgl;go_wp2
    (refine (wpIn_wide (n:=9)).1 ?_;refine Zl (Zj _) 13 (by kernel_rfl) (by kernel_rfl) (by kernel_rfl) ?_;simp only [List.take_succ_cons,List.take_zero,List.drop_succ_cons,List.drop_zero];(iterate 13 (apply Zf;(case hw=>rfl);(case hval=>(intro w1 hw1;have hcx:=Low.cells hw1;simp only [Oper.quietAt];go_simp;first | done | rfl | exact⟨rfl,rfl⟩));simp only [Act.put,zq4,zr4,zs4]));refine wpQuiet_nil ?_;intro w2 hw2)
    obtain⟨i0,hi,hz0',hz1',hz2'⟩:=info_parts ptInfo;obtain⟨rX,rH,BX,hK⟩:=HX.out;have rX2:=Z4Y (m:=A.length-1) (Zr rX hw2.out) (by omega)
    have rH2:=Z4Y (m:=B.length-1) (Zr rH hw2.out) (by omega)
    have hlA:(A.take (A.length-1)).length=A.length-1:=by rw [List.length_take];omega
    have hlB:(B.take (B.length-1)).length=B.length-1:=by rw [List.length_take];omega
    obtain⟨v',w9,hap,r9,g9⟩:=run_append_arg_grows (P:=Tryz.prog) w2 171 171 31 i0 (.agg #[.int .i64 0,.int .i64 0]) 2 16 Tryz.underlying171 hi hz0' hz1' hz2' rfl (by decide) ⟨gl,0,none⟩ (A.length-1) (A.length-1) (Za (A.take (A.length-1))) (by rw [Zt,hlA]) (rX2.cells rfl) ⟨gh,0,none⟩ (B.length-1) ch (Za (B.take (B.length-1))) (by rw [Zt,hlB]) (rH2.cells rfl) (by omega) (by unfold maxLen;omega) (by omega)
    have hD2:=(hw2.out.block D (Array.getElem?_eq_some_iff.1 hK).1).trans hK;have hD9:=(g9.block D (Array.getElem?_eq_some_iff.1 hD2).1 (fun e=>by cases e)).trans hD2
    have B9:Below w.heap.size w w9:=BX.trans ((hw2.out.mono BX.size).trans ((Below.refl w.heap.size w2).grown g9 (Nat.le_trans BX.size hw2.out.size) (fun k e=>by cases e)))
    have HK:=Lib.hid hD9;have R9:=Lib.hid r9;have HB9:=Lib.hid B9;have HZ2:=Lib.hid (Nat.le_trans BX.size hw2.out.size);clear hw2 l0 h0' rX rH BX hK rX2 rH2 g9 hD2 hD9 B9 r9;refine Z1a rfl (.tmp 47) (.tmp 52) 171 rfl rfl rfl hap ?_;simp only [Act.put,zq4,zr4,zs4];clear hap;obtain⟨gv,cv,rfl⟩:=Z0k R9.out (by omega)
    have hne:gv≠D:=fun e=>by
     rcases R9.out.2 with⟨h',_⟩ | ⟨g',cap',cur,h',_,hg',_⟩
     ·cases h'
     ·simp only [Value.slice.injEq,Option.some.injEq,Addr.mk.injEq,and_true,true_and] at h'
      rw [← h'.1,e,HK.out] at hg';cases hg'
    have PF:Z8 (w9.putObj D (.deferred none)).heap.size (w9.putObj D (.deferred none)) (.slice (some ⟨gv,0,none⟩) (A.length-1+(B.length-1)) cv) (twoP s):=by
     refine Z8.own (base:=w2.heap.size) (n:=A.length-1+(B.length-1)) ?_ ?_
     ·rw [htw.out,ZL]
      exact Z08 R9.out fun b hb=>by cases hb;exact World.putObj_heap_other hne
     ·rw [htw.out,List.length_append,hlA,hlB];omega
    have PFF:=Lib.hid PF;have BF:=Lib.hid (HB9.out.trans (belowK_b (w:=w) (Nat.le_refl _) _ D _ (.deferred none) (by omega) HK.out rfl rfl))
    clear PF;gi_wp2;go_wp2;refine⟨by simp,.inl ⟨_,_,rfl,run_takeDeferred HK.out,?_⟩⟩
    refine⟨.slice (some ⟨gv,0,none⟩) (A.length-1+(B.length-1)) cv,by simp [results,Tryz.f105,go_sem],_,rfl,?_,BF.out,fun b' o' n' c' e'=>by cases e';exact Nat.le_trans HZ2.out (R9.out.lt gv rfl).1⟩
    rw [← HH.out];exact PFF.out
end
section
attribute [local irreducible] wpQuiet
open Go.RowKit
theorem Z6D (x y:Int) (w:World) :
  Calls Tryz.prog 104 #[.agg #[.int .i64 x,.int .i64 y]] w fun e w'=>e=.returned (.bool (!placeB x y))∧Below w.heap.size w w':=by
 have f:=Lib.hid (fun w1=>Z1e x y w1)
 generalize placeB x y=b at *;go_enter Tryz.func104,Tryz.ntmps104;go_wp2_with (go_at_call 47;refine (f.out _).mono ?_;rintro e w1 ⟨rfl,hb1⟩;have hz1:=hb1.size;try simp at hz1)
 go_ret;exact⟨rfl,zB2⟩
def FindQ (b:Bool) (w:World) (e:Ending) (w':World):Prop:=∃ r:Int,e=.returned (.int .i64 r)∧-1≤r∧r≤9223372036854775807∧decide (0≤r)=b∧Below w.heap.size w w'
theorem Z4t (v : Value) (l : List Pt) (w : World) (hp : Z8 w.heap.size w v l) :
  Calls Tryz.prog 123 #[v,.func (.func 104) #[] #[]] w (FindQ (!allPl l) w):=by
 obtain⟨hl,a,cap,rfl,hc⟩:=hp;go_enter Tryz.func123,Tryz.ntmps123;go_wp2
 go_loopw [8] (fun i wr=>∃ k:Nat,k≤l.length∧i=.int .i64 k∧(∀ j,j<k→Z4 (nth l j)=true)∧Below w.heap.size w wr) (fun i _=>l.length-(intOf i).toNat)
 case atStart=>exact⟨0,Nat.zero_le _,rfl,fun j h=>by omega,Below.refl _ _⟩
 case round =>
  obtain⟨k,hk,rfl,hall,hB⟩:=hrel;by_cases hlt:k<l.length
  ·rcases hc with rfl | ⟨b,o,rfl,hb,hc⟩
   ·simp at hlt
   have c1:=(hB.cell (p:=⟨b,o+k*2,none⟩) hb).trans (hc k hlt).1;have c2:=(hB.cell (p:=⟨b,o+k*2+1,none⟩) hb).trans (hc k hlt).2;have hall':=Lib.hid hall;have hc':=Lib.hid hc;clear hall hc;have hz:=hB.size;have f:=Lib.hid (fun w1=>Z6D (nth l k).x (nth l k).y w1)
   cases hpl:placeB (nth l k).x (nth l k).y
   ·rw [hpl] at f
    have hr:Hid (allPl l=false):=by
     show allPl l=false
     simp only [allPl,decide_eq_false_iff_not];intro h;have:=h k hlt;rw [Z4,hpl] at this;cases this
    go_wp2_with (go_at_call 104;refine (f.out _).mono ?_;rintro e w1 ⟨rfl,hb1⟩;have hz1:=hb1.size;try simp at hz1)
    go_ret;exact⟨k,rfl,by omega,by omega,by rw [hr.out];simp,zB2⟩
   ·rw [hpl] at f
    go_wp2_with (go_at_call 104;refine (f.out _).mono ?_;rintro e w1 ⟨rfl,hb1⟩;have hz1:=hb1.size;try simp at hz1)
    go_roundw
    case rel =>
     refine⟨k+1,by omega,by go_num,fun j hj=>?_,zB2⟩
     by_cases e:j=k
     ·rw [e];exact hpl
     ·exact hall'.out j (by omega)
    case measure=>simp [intOf];omega
  ·have hr:Hid (allPl l=true):=by
    show allPl l=true
    simp only [allPl,decide_eq_true_eq];intro j hj;exact hall j (by omega)
   clear hall;go_wp2;go_ret;exact⟨-1,rfl,by omega,by omega,by rw [hr.out];simp,hB⟩
theorem Z2L (v:Value) (l:List Pt) (w:World) (hp:Z8 w.heap.size w v l) :
  Calls Tryz.prog 103 #[v,.func (.func 104) #[] #[]] w fun e w'=>e=.returned (.bool (!allPl l))∧Below w.heap.size w w':=by
 go_enter Tryz.func103,Tryz.ntmps103;go_wp2_with (go_at_call 123;refine (Z4t _ _ _ hp).mono ?_;rintro e w1 ⟨r,rfl,r1,r2,r3,hb⟩);go_ret;exact⟨by first | rfl | exact ZB r3,hb⟩
theorem Z1F {l:List Pt}:allPl l=true↔∀ k,k<l.length→Z4 (nth l k)=true:=by simp [allPl]
noncomputable def hulE (l:List Pt):Int:=if 4000<l.length then 2 else if l.length=0∨allPl l=false then 1 else if 64<(hullP l).length then 2 else 0
noncomputable def hulL (l:List Pt):List Pt:=if hulE l=0 then hullP l else []
theorem Z5Z (v:Value) (l:List Pt) (w:World) (hp:Z8 w.heap.size w v l) :
  Calls Tryz.prog 52 #[v] w fun e w'=>∃ u,e=.returned (.tuple #[u,.int .i64 (hulE l)])∧Z8 w'.heap.size w' u (hulL l)∧Below w.heap.size w w'∧NewI w.heap.size u:=by
 have f1:=Lib.hid (Z2L v l w hp);have f2:=Lib.hid (fun w1 (B:Below w.heap.size w w1) h0 hs hpl=>Z5k v l w1 ((hp.below B).mono B.size) h0 hs hpl)
 obtain⟨a,cap,rfl⟩:=hp.len;clear hp;by_cases h1:4000<l.length
 ·have d1:decide ((l.length:Int)>4000)=true:=by simp;omega
  have HE:Hid (hulE l=2):=if_pos h1;have HL:Hid (hulL l=[]):=if_neg (by rw [HE.out];omega)
  go_enter Tryz.func52,Tryz.ntmps52;go_wp2;go_ret2;exact⟨.slice none 0 0,by rw [HE.out];rfl,by rw [HL.out];exact Z8.nil _ _,Below.refl _ _,NewI.nil _⟩
 have d1:decide ((l.length:Int)>4000)=false:=by simp;omega
 by_cases h2:l.length=0
 ·have d2:((l.length:Int) == 0)=true:=by rw [beq_iff_eq];omega
  have HE:Hid (hulE l=1):=(if_neg h1).trans (if_pos (.inl h2));have HL:Hid (hulL l=[]):=if_neg (by rw [HE.out];omega)
  go_enter Tryz.func52,Tryz.ntmps52;go_wp2;go_ret2;exact⟨.slice none 0 0,by rw [HE.out];rfl,by rw [HL.out];exact Z8.nil _ _,Below.refl _ _,NewI.nil _⟩
 have d2:((l.length:Int) == 0)=false:=by rw [beq_eq_false_iff_ne];omega
 cases h3:allPl l
 ·rw [h3] at f1
  have HE:Hid (hulE l=1):=(if_neg h1).trans (if_pos (.inr h3));have HL:Hid (hulL l=[]):=if_neg (by rw [HE.out];omega)
  clear h3;go_enter Tryz.func52,Tryz.ntmps52;go_wp2_with fail;refine f1.out.mono ?_;rintro e w1 ⟨rfl,b1⟩;have B1:=Lib.hid b1;clear b1;go_wp2;go_ret2;exact⟨.slice none 0 0,by rw [HE.out];rfl,by rw [HL.out];exact Z8.nil _ _,B1.out,NewI.nil _⟩
 rw [h3] at f1;have F2:=Lib.hid (fun w1 B=>f2.out w1 B (by omega) (by omega) (Z1F.1 h3))
 have HE:Hid (hulE l=if 64<(hullP l).length then 2 else 0):=(if_neg h1).trans (if_neg (by rintro (h | h);exact h2 h;rw [h3] at h;cases h))
 have hhl:=Z1v l;clear h3 f2;go_enter Tryz.func52,Tryz.ntmps52;go_wp2_with fail;refine f1.out.mono ?_;rintro e w1 ⟨rfl,b1⟩;have B1:=Lib.hid b1;clear b1;go_wp2_with fail;refine (F2.out _ B1.out).mono ?_;rintro e w2 ⟨v2,rfl,p2,b2,n2⟩;have B2:=zAg B1 b2;have P2:=Lib.hid p2;have N2:=Lib.hid (n2.mono B1.out.size);obtain⟨a2,c2,rfl⟩:=p2.len;clear p2 b2 n2;by_cases h4:64<(hullP l).length
 ·have d4:decide (((hullP l).length:Int)>64)=true:=by simp;omega
  rw [if_pos h4] at HE;have HL:Hid (hulL l=[]):=if_neg (by rw [HE.out];omega)
  go_wp2;go_ret2;exact⟨.slice none 0 0,by rw [HE.out];rfl,by rw [HL.out];exact Z8.nil _ _,B2.out,NewI.nil _⟩
 ·have d4:decide (((hullP l).length:Int)>64)=false:=by simp;omega
  rw [if_neg h4] at HE;have HL:Hid (hulL l=hullP l):=if_pos HE.out;go_wp2;go_ret2;exact⟨.slice a2 (hullP l).length ((hullP l).length+c2),by rw [HE.out];rfl,by rw [HL.out];exact P2.out,B2.out,N2.out⟩
theorem Z60 (v:Value) (l:List Pt) (w:World) (hp:Z8 w.heap.size w v l) :
  Calls Tryz.prog 52 #[v] w fun e w'=>∃ u,e=.returned (.tuple #[u,.int .i64 (hulE l)])∧Z8 w'.heap.size w' u (hulL l)∧Below w.heap.size w w':=(Z5Z v l w hp).mono fun _ _ ⟨u,a,b,c,_⟩=>⟨u,a,b,c⟩
theorem Z7i (W:World) (x y:Int):Z8 (W.alloc (.cells #[.int .i64 x,.int .i64 y] 31)).heap.size (W.alloc (.cells #[.int .i64 x,.int .i64 y] 31)) (.slice (some ⟨W.heap.size,0,none⟩) 1 1) [⟨x,y⟩] :=
 Z9S (l:=[⟨x,y⟩]) (Has.new W #[.int .i64 x,.int .i64 y] 31) (by simp)
theorem Z96 (p:Pt):hulE [p]=if Z4 p=true then 0 else 1:=by
 have h:hullP [p]=[p]:=(Z2f (Z5R p)).symm;have ha:allPl [p]=Z4 p:=by
  rw [Bool.eq_iff_iff,Z1F];exact⟨fun h=>h 0 (by simp),fun h k hk=>by obtain rfl:k=0:=(by simpa using hk);exact h⟩
 unfold hulE;rw [h,ha];cases Z4 p <;> simp
theorem Z4M (v:Value) (l:List Pt) (w:World) (hp:Z8 w.heap.size w v l) :
  Calls Tryz.prog 106 #[v] w fun e w'=>e=.returned (.bool (!Zb l))∧Below w.heap.size w w':=by
 have f:=Lib.hid (Zo v l w hp);clear hp;generalize Zb l=b at *;go_enter Tryz.func106,Tryz.ntmps106;go_wp2_with (go_at_call 46;refine (f.out).mono ?_;rintro e w1 ⟨rfl,hb1⟩;have hz1:=hb1.size;try simp at hz1)
 go_ret;exact⟨rfl,zB2⟩
theorem Z2U (v : Value) (l : List (List Pt)) (w : World) (hr : Z7 w.heap.size w v l) :
  Calls Tryz.prog 116 #[v,.func (.func 106) #[] #[]] w (FindQ (!polysB l) w):=by
 obtain⟨hl,a,cap,rfl,hc⟩:=hr;go_enter Tryz.func116,Tryz.ntmps116;go_wp2
 go_loopw [8] (fun i wr=>∃ k:Nat,k≤l.length∧i=.int .i64 k∧(∀ j,j<k→Zb (rk l j)=true)∧Below w.heap.size w wr) (fun i _=>l.length-(intOf i).toNat)
 case atStart=>exact⟨0,Nat.zero_le _,rfl,fun j h=>by omega,Below.refl _ _⟩
 case round =>
  obtain⟨k,hk,rfl,hall,hB⟩:=hrel;by_cases hlt:k<l.length
  ·rcases hc with rfl | ⟨b,o,rfl,hb,hc⟩
   ·simp at hlt
   obtain⟨u,hu,hpu⟩:=hc k hlt;have c1:=(hB.cell (p:=⟨b,o+k,none⟩) hb).trans hu;have f:=Lib.hid (Z4M u (rk l k) wr ((hpu.below hB).mono hB.size));have hall':=Lib.hid hall;have hc':=Lib.hid hc;clear hall hc hu hpu;have hz:=hB.size;cases hpl:Zb (rk l k)
   ·rw [hpl] at f
    have hr:Hid (polysB l=false):=by
     show polysB l=false
     simp only [polysB,decide_eq_false_iff_not];intro h;have:=h k hlt;rw [hpl] at this;cases this
    go_wp2_with (go_at_call 106;refine (f.out).mono ?_;rintro e w1 ⟨rfl,hb1⟩;have hz1:=hb1.size;try simp at hz1)
    go_ret;exact⟨k,rfl,by omega,by omega,by rw [hr.out];simp,zB2⟩
   ·rw [hpl] at f
    go_wp2_with (go_at_call 106;refine (f.out).mono ?_;rintro e w1 ⟨rfl,hb1⟩;have hz1:=hb1.size;try simp at hz1)
    go_roundw
    case rel =>
     refine⟨k+1,by omega,by go_num,fun j hj=>?_,zB2⟩
     by_cases e:j=k
     ·rw [e];exact hpl
     ·exact hall'.out j (by omega)
    case measure=>simp [intOf];omega
  ·have hr:Hid (polysB l=true):=by
    show polysB l=true
    simp only [polysB,decide_eq_true_eq];intro j hj;exact hall j (by omega)
   clear hall;go_wp2;go_ret;exact⟨-1,rfl,by omega,by omega,by rw [hr.out];simp,hB⟩
theorem Z1P (v:Value) (l:List (List Pt)) (w:World) (hr:Z7 w.heap.size w v l) :
  Calls Tryz.prog 82 #[v,.func (.func 106) #[] #[]] w fun e w'=>e=.returned (.bool (!polysB l))∧Below w.heap.size w w':=by
 go_enter Tryz.func82,Tryz.ntmps82;go_wp2_with (go_at_call 116;refine (Z2U _ _ _ hr).mono ?_;rintro e w1 ⟨r,rfl,r1,r2,r3,hb⟩);go_ret;exact⟨by first | rfl | exact ZB r3,hb⟩
theorem Z25 (v:Value) (l:List (List Pt)) (w:World) (hr:Z7 w.heap.size w v l) :
  Calls Tryz.prog 53 #[v] w fun e w'=>e=.returned (.bool (polysB l))∧Below w.heap.size w w':=by
 have f:=Lib.hid (Z1P v l w hr);clear hr;generalize polysB l=b at *;go_enter Tryz.func53,Tryz.ntmps53;go_wp2_with (go_at_call 82;refine (f.out).mono ?_;rintro e w1 ⟨rfl,hb1⟩;have hz1:=hb1.size;try simp at hz1)
 go_ret;exact⟨ZB (by simp),zB2⟩
end
theorem Z9V {d x:Pt} {l:List Pt}:x ∈ mvL d l↔∃ y,y ∈ l∧mvP d y=x:=by simp [mvL]
def oct0 (n k:Int):List Pt:=[⟨n,-k⟩,⟨n,k⟩,⟨k,n⟩,⟨-k,n⟩,⟨-n,k⟩,⟨-n,-k⟩,⟨-k,-n⟩,⟨k,-n⟩]
def octG (n k:Int):List Pt:=[⟨-n,-k⟩,⟨-k,-n⟩,⟨-n,k⟩,⟨-k,n⟩,⟨n,-k⟩,⟨k,-n⟩,⟨n,k⟩,⟨k,n⟩]
theorem Z5S (n k:Int):∀ x,x ∈ octG n k↔x ∈ oct0 n k:=by
 intro x;simp only [octG,oct0,List.mem_cons,List.not_mem_nil,or_false];constructor
 ·rintro (h | h | h | h | h | h | h | h) <;> simp [h]
 ·rintro (h | h | h | h | h | h | h | h) <;> simp [h]
noncomputable def Z5 (n:Nat):List Pt:=hullP (oct0 n (octK n))
theorem diskG (n:Nat):hullP (octG n (octK n))=Z5 n:=Z5e (Z5S _ _)
theorem Z4i {n:Nat} (h:n≤100000) {x:Pt} (hx:x ∈ oct0 n (octK n)):(-(n:Int)≤x.x∧x.x≤n∧-(n:Int)≤x.y∧x.y≤n)∧Z4 x=true:=by
 have k:=Z52 n;rw [Z0K];simp only [oct0,List.mem_cons,List.not_mem_nil,or_false] at hx;rcases hx with rfl | rfl | rfl | rfl | rfl | rfl | rfl | rfl
 all_goals (simp only;omega)
theorem Z0A (n:Nat):(Z5 n).length≤8:=Z1v _
theorem Z1N {n:Nat} (h:n≤100000):GoValid (Z5 n):=Z3e (Z13 _) (by simp [oct0]) (by have:=Z0A n;omega) fun _ hx=>(Z4i h hx).2
theorem Z1M {l:List Pt} (d:Pt) (h:GoValid l):Zb (mvL d l)=allPl (mvL d l):=by
 rw [Bool.eq_iff_iff,Z1F];constructor
 ·intro hv k hk
  exact ((Z0n hv).2.2.1 k hk).1
 ·intro hp
  refine Z14 ⟨by rw [Z09];exact h.1,by rw [Z09];exact h.2.1,fun k hk=>⟨hp k hk,fun h0=>?_⟩,fun h3 i hi j hj n1 n2=>?_⟩
  ·rw [Z09] at hk
   rw [Z2u d (by omega),Z2u d hk,cmp_mv]
   exact (h.2.2.1 k hk).2 h0
  ·rw [Z09] at h3 hi hj
   rw [Z9L d hi,Z2u d hj] at n1 n2 ⊢;have:=h.2.2.2 h3 i hi j hj (fun e=>n1 (by rw [e];rfl)) (fun e=>n2 (by rw [e];rfl))
   show 0<Z6 (mvP d _) (mvP d _) (mvP d _)
   rw [Z9H];exact this
noncomputable def shE (l:List Pt) (d:Pt):Int:=if Zb l=true∧Z4 d=true then (if allPl (mvL d l)=true then 0 else 3) else 1
noncomputable def shL (l:List Pt) (d:Pt):List Pt:=if shE l d=0 then mvL d l else []
def radOk (n:Int):Bool:=decide (0≤n∧n≤100000)
noncomputable def corE (a:Pt) (u:Int) (b:Pt) (v:Int):Int :=
 if Z4 a=true∧Z4 b=true∧radOk u=true∧radOk v=true then (if allPl (mvL a (Z5 u.toNat))=true∧allPl (mvL b (Z5 v.toNat))=true then 0 else 3) else 1
noncomputable def corH (a:Pt) (u:Nat) (b:Pt) (v:Nat):List Pt:=hullP (mvL a (Z5 u)++mvL b (Z5 v))
noncomputable def corL (a:Pt) (u:Int) (b:Pt) (v:Int):List Pt:=if corE a u b v=0 then corH a u.toNat b v.toNat else []
theorem Z6b (a:Pt) (u:Nat) (b:Pt) (v:Nat):(corH a u b v).length≤16:=by
 have h:=Z1v (mvL a (Z5 u)++mvL b (Z5 v));rw [List.length_append,Z09,Z09] at h;have:=Z0A u;have:=Z0A v;unfold corH;omega
theorem Z9p {l:List Pt} {x:Pt}:x ∈ l↔∃ k,k<l.length∧nth l k=x:=⟨mem_nth',fun ⟨_,hk,e⟩=>e ▸ nth_mem' hk⟩
theorem Z1E {l:List Pt}:allPl l=true↔∀ x,x ∈ l→Z4 x=true:=by
 rw [Z1F];exact⟨fun h x hx=>by obtain⟨k,hk,rfl⟩:=Z9p.1 hx;exact h k hk,fun h k hk=>h _ (nth_mem' hk)⟩
theorem Z9E {a:Pt} {u:Nat} {b:Pt} {v:Nat}:mvL a (Z5 u)++mvL b (Z5 v)≠[]:=by
 have h1:=(Z13 (oct0 u (octK u))).some (by simp [oct0])
 intro h;have h2:=congrArg List.length h;rw [List.length_append,Z09] at h2;unfold Z5 at h2;simp at h2;rw [h2.1] at h1;simp at h1
theorem Z2K {a:Pt} {u:Int} {b:Pt} {v:Int} (h:corE a u b v=0):(Z4 a=true∧Z4 b=true∧0≤u∧u≤100000∧0≤v∧v≤100000)∧allPl (mvL a (Z5 u.toNat))=true∧allPl (mvL b (Z5 v.toNat))=true:=by
 unfold corE at h
 split at h
 ·rename_i h1
  have r1:0≤u∧u≤100000:=by simpa [radOk] using h1.2.2.1
  have r2:0≤v∧v≤100000:=by simpa [radOk] using h1.2.2.2
  split at h
  ·rename_i h2
   exact⟨⟨h1.1,h1.2.1,r1.1,r1.2,r2.1,r2.2⟩,h2⟩
  ·cases h
 ·cases h
theorem Z8g {a:Pt} {u:Int} {b:Pt} {v:Int} (h:corE a u b v=0):GoValid (corH a u.toNat b v.toNat):=by
 obtain⟨_,h1,h2⟩:=Z2K h;rw [Z1E] at h1 h2;refine Z3e (Z13 _) Z9E (by have:=Z6b a u.toNat b v.toNat;omega) fun x hx=>?_
 rcases List.mem_append.1 hx with h | h
 ·exact h1 x h
 ·exact h2 x h
theorem Z8Y {n:Nat} {x:Pt} (hx:x ∈ oct0 n (octK n)):(-(n:Int)≤x.x∧x.x≤n∧-(n:Int)≤x.y∧x.y≤n)∧(x.x+x.y≤n+octK n∧x.x-x.y≤n+octK n∧-x.x+x.y≤n+octK n∧-x.x-x.y≤n+octK n):=by
 have k:=Z52 n;simp only [oct0,List.mem_cons,List.not_mem_nil,or_false] at hx;rcases hx with rfl | rfl | rfl | rfl | rfl | rfl | rfl | rfl
 all_goals (simp only;omega)
theorem Z9m {a:Pt} {u:Int} {b:Pt} {v:Int} (ha:-400000≤a.x∧a.x≤400000∧-400000≤a.y∧a.y≤400000) (hb:-400000≤b.x∧b.x≤400000∧-400000≤b.y∧b.y≤400000) (hu:0≤u∧u≤100000) (hv:0≤v∧v≤100000):corE a u b v=0:=by
 have pl:∀ {c:Pt} {n:Nat},n≤100000→(-400000≤c.x∧c.x≤400000∧-400000≤c.y∧c.y≤400000)→allPl (mvL c (Z5 n))=true:=fun {c n} hn hc=>by
  rw [Z1E];intro x hx;obtain⟨y,hy,rfl⟩:=Z9V.1 hx;have o:=(Z8Y (Z7L hy)).1;rw [Z0K];unfold mvP;simp only;omega
 unfold corE;rw [if_pos ⟨Z0K.2 (by omega),Z0K.2 (by omega),by simp [radOk];omega,by simp [radOk];omega⟩,if_pos ⟨pl (by omega) ha,pl (by omega) hb⟩]
section
attribute [local irreducible] hulE hulL
attribute [local irreducible] wpQuiet
open Go.RowKit
theorem Z21 (x y:Int) (w:World) :
  Calls Tryz.prog 54 #[.agg #[.int .i64 x,.int .i64 y]] w fun e w'=>e=.returned (.bool (placeB x y))∧Below w.heap.size w w':=by
 have hA:=(Below.refl w.heap.size w).alloc (Nat.le_refl _) (.cells #[.int .i64 x,.int .i64 y] 31);have hs:(w.alloc (.cells #[.int .i64 x,.int .i64 y] 31)).heap.size=w.heap.size+1:=by simp
 have f:=Z60 _ _ _ (Z7i (w.alloc (.cells #[.int .i64 x,.int .i64 y] 31)) x y);rw [hs] at f;have B0:=Lib.hid (hA.alloc hA.size (.cells #[.int .i64 x,.int .i64 y] 31));have he:hulE [⟨x,y⟩]=if placeB x y=true then 0 else 1:=Z96 ⟨x,y⟩
 rw [he] at f;have f:=Lib.hid f;clear hA he hs;cases hp:placeB x y
 ·rw [hp] at f
  go_enter Tryz.func54,Tryz.ntmps54;go_wp2_with fail;refine f.out.mono ?_;rintro e w1 ⟨u,rfl,_,b1⟩;have B1:=zAg B0 b1;clear b1;go_wp2;go_ret;exact⟨rfl,B1.out⟩
 ·rw [hp] at f
  go_enter Tryz.func54,Tryz.ntmps54;go_wp2_with fail;refine f.out.mono ?_;rintro e w1 ⟨u,rfl,_,b1⟩;have B1:=zAg B0 b1;clear b1;go_wp2;go_ret;exact⟨rfl,B1.out⟩
theorem Z4a {W:World} {v:Value} {l:List Pt} (n:Nat) (hn:n=W.heap.size) (hp:Z8 W.heap.size W v l):Z7 (W.alloc (.cells #[v] 23)).heap.size (W.alloc (.cells #[v] 23)) (.slice (some ⟨n,0,none⟩) 1 1) [l]:=by
 subst hn;have h:=Has.new W #[v] 23;have B:=(Below.refl W.heap.size W).alloc (Nat.le_refl _) (.cells #[v] 23);refine⟨by simp,some ⟨W.heap.size,0,none⟩,0,rfl,.inr ⟨W.heap.size,0,rfl,by simp,fun j hj=>?_⟩⟩
 obtain rfl:j=0:=by simpa using hj
 exact⟨v,h.cell (i:=0) rfl,(hp.below B).mono B.size⟩
theorem Z4d (l:List Pt):polysB [l]=Zb l:=by
 rw [Bool.eq_iff_iff,Z6v];exact⟨fun h=>h 0 (by simp),fun h j hj=>by obtain rfl:j=0:=(by simpa using hj);exact h⟩
theorem Z9B {l:List Pt} {d:Pt} (h:Zb l=false∨Z4 d=false):shE l d=1∧shL l d=[]:=by
 have:shE l d=1:=if_neg (by rintro ⟨a,b⟩;rcases h with h | h <;> simp_all)
 exact⟨this,if_neg (by rw [this];omega)⟩
theorem Z0s (v:Value) (l:List Pt) (d:Pt) (w:World) (hp:Z8 w.heap.size w v l) :
  Calls Tryz.prog 22 #[v,.agg #[.int .i64 d.x,.int .i64 d.y]] w fun e w'=>∃ u,e=.returned (.tuple #[u,.int .i64 (shE l d)])∧Z8 w'.heap.size w' u (shL l d)∧Below w.heap.size w w':=by
 have fP:=fun n w1 (hn:n=w1.heap.size) (B:Below w.heap.size w w1)=>Z25 (.slice (some ⟨n,0,none⟩) 1 1) [l] (w1.alloc (.cells #[v] 23)) (Z4a n hn ((hp.below B).mono B.size))
 rw [Z4d] at fP;have HP:=Lib.hid hp;have HA:=Lib.hid ((Below.refl w.heap.size w).alloc (Nat.le_refl _) (.cells #[.int .i64 d.x,.int .i64 d.y] 31));have HN:=Lib.hid (Has.new w #[.int .i64 d.x,.int .i64 d.y] 31);obtain⟨a,cap,hvv⟩:=hp.len;subst hvv;clear hp;have BB:=Lib.hid (fun w1 (B:Below w.heap.size w w1)=>B.alloc B.size (.cells #[.slice a l.length (l.length+cap)] 23))
 cases hv:Zb l
 ·rw [hv] at fP
  obtain⟨e1,e2⟩:=Z9B (d:=d) (.inl hv);have HE:=Lib.hid e1;have HL:=Lib.hid e2;have fP:=Lib.hid fP;clear hv e1 e2;go_enter Tryz.func22,Tryz.ntmps22;go_wp2_with fail;refine (fP.out _ _ (by simp) HA.out).mono ?_
  rintro e w1 ⟨rfl,b1⟩;have B1:=Lib.hid ((BB.out _ HA.out).trans (b1.mono (BB.out _ HA.out).size));clear b1;go_wp2;go_ret2;exact⟨.slice none 0 0,by rw [HE.out];rfl,by rw [HL.out];exact Z8.nil _ _,B1.out⟩
 rw [hv] at fP;have fP:=Lib.hid fP;have GV:=Lib.hid (Z0n hv);have HV:=Lib.hid hv;clear hv;cases hd:Z4 d
 ·obtain⟨e1,e2⟩:=Z9B (l:=l) (.inr hd)
  have HE:=Lib.hid e1;have HL:=Lib.hid e2;have fI:=fun w1=>Z21 d.x d.y w1
  rw [show placeB d.x d.y=false from hd] at fI
  have fI:=Lib.hid fI;clear hd e1 e2;go_enter Tryz.func22,Tryz.ntmps22;go_wp2_with fail;refine (fP.out _ _ (by simp) HA.out).mono ?_
  rintro e w1 ⟨rfl,b1⟩;have B1:=Lib.hid ((BB.out _ HA.out).trans (b1.mono (BB.out _ HA.out).size));have N1:=(HN.out.below ((Below.refl _ _).alloc (Nat.le_refl _) _) (by simp)).below b1 (by simp;omega)
  have x0:=N1.cell (i:=0) rfl;have x1:=N1.cell (i:=1) rfl;clear b1 N1;go_wp2_with fail;refine (fI.out _).mono ?_;rintro e w2 ⟨rfl,b2⟩;have B2:=zAg B1 b2;clear b2 x0 x1;go_wp2;go_ret2;exact⟨.slice none 0 0,by rw [HE.out];rfl,by rw [HL.out];exact Z8.nil _ _,B2.out⟩
 have HE:Hid (shE l d=if allPl (mvL d l)=true then 0 else 3):=if_pos ⟨HV.out,hd⟩
 have fI:=fun w1=>Z21 d.x d.y w1
 rw [show placeB d.x d.y=true from hd] at fI
 have fI:=Lib.hid fI;have fE:=Lib.hid (fun w1 (B:Below w.heap.size w w1) (N:Has w1 w.heap.size #[.int .i64 d.x,.int .i64 d.y] 31)=>Z9l (.slice a l.length (l.length+cap)) l w.heap.size d w1 ((HP.out.below B).mono B.size) N GV.out.2.1 (fun k hk=>(GV.out.2.2.1 k hk).1) hd)
 have fQ:=fun u n w1 (hn:n=w1.heap.size) (P:Z8 w1.heap.size w1 u (mvL d l))=>Z25 (.slice (some ⟨n,0,none⟩) 1 1) [mvL d l] (w1.alloc (.cells #[u] 23)) (Z4a n hn P)
 rw [Z4d,Z1M d GV.out] at fQ;have fQ:=Lib.hid fQ;clear hd;go_enter Tryz.func22,Tryz.ntmps22;go_wp2_with fail;refine (fP.out _ _ (by simp) HA.out).mono ?_
 rintro e w1 ⟨rfl,b1⟩;have B1:=Lib.hid ((BB.out _ HA.out).trans (b1.mono (BB.out _ HA.out).size));have N1:=(HN.out.below ((Below.refl _ _).alloc (Nat.le_refl _) _) (by simp)).below b1 (by simp;omega)
 have x0:=N1.cell (i:=0) rfl;have x1:=N1.cell (i:=1) rfl;have HN1:=Lib.hid N1;clear b1 N1;go_wp2_with fail;refine (fI.out _).mono ?_;rintro e w2 ⟨rfl,b2⟩;have B2:=zAg B1 b2;have HN2:=Lib.hid (HN1.out.below b2 HN1.out.lt);clear b2 x0 x1;go_wp2_with fail;refine (fE.out _ B2.out HN2.out).mono ?_;rintro e w3 ⟨u,rfl,p3,b3⟩;have B3:=zAg B2 b3;have P3:=Lib.hid p3;obtain⟨a3,c3,hu⟩:=p3.len;subst hu;have BA:=Lib.hid ((Below.refl w3.heap.size w3).alloc (Nat.le_refl _) (.cells #[.slice a3 (mvL d l).length ((mvL d l).length+c3)] 23));clear p3 b3;cases hal:allPl (mvL d l)
 ·rw [hal] at fQ
  have HE2:Hid (shE l d=3):=HE.out.trans (if_neg (by rw [hal];simp))
  have HL:Hid (shL l d=[]):=if_neg (by rw [HE2.out];omega)
  clear hal;go_wp2_with fail;refine (fQ.out _ _ _ rfl P3.out).mono ?_;rintro e w4 ⟨rfl,b4⟩;have B4:=Lib.hid (B3.out.trans ((BA.out.trans (b4.mono BA.out.size)).mono B3.out.size));clear b4;go_wp2;go_ret2;exact⟨.slice none 0 0,by rw [HE2.out];rfl,by rw [HL.out];exact Z8.nil _ _,B4.out⟩
 ·rw [hal] at fQ
  have HE2:Hid (shE l d=0):=HE.out.trans (if_pos hal);have HL:Hid (shL l d=mvL d l):=if_pos HE2.out;clear hal;go_wp2_with fail;refine (fQ.out _ _ _ rfl P3.out).mono ?_;rintro e w4 ⟨rfl,b4⟩;have C4:=BA.out.trans (b4.mono BA.out.size);have B4:=zAg B3 C4;have P4:=Lib.hid ((P3.out.below C4).mono C4.size);clear b4 C4;go_wp2;go_ret2;exact⟨_,by rw [HE2.out];rfl,by rw [HL.out];exact P4.out,B4.out⟩
end
end Go.Proofs.YtdolkgihppgpcaaGreat
