/- A range over a function whose iterator writes variables of its own between the rounds. (No program here.) | A range over a function whose iterator .. -/
import Derived.RangeFuncNested
import Derived.RangeFuncLeaves
open Go.Ending renaming returned->qR
open Nat renaming le_refl->qN
namespace Go.Proofs.YthipcinibldgnaaGreat
section
open Go.RowKit
def KeepsP (p:Nat->Prop) (A B:World):Prop:=A.heap.size<=B.heap.size/\∀ b,p b->B.heap[b]?=A.heap[b]?
theorem KeepsP.trans {p:Nat->Prop} {A B C:World} (h:KeepsP p A B) (k:KeepsP p B C):KeepsP p A C:=⟨Nat.le_trans h.1 k.1,fun b hb=>(k.2 b hb).trans (h.2 b hb)⟩
theorem KeepsP.refl (p:Nat->Prop) (A:World):KeepsP p A A:=⟨qN _,fun _ _=>rfl⟩
theorem KeepsP.of_below {p:Nat->Prop} {n:Nat} {A B:World} (h:Below n A B) (hp:∀ b,p b->b<n):KeepsP p A B:=⟨h.size,fun b hb=>h.block b (hp b hb)⟩
theorem KeepsP.putObj {p:Nat->Prop} {A:World} {l:Nat} (o:Obj) (hp:∀ b,p b->b≠l):KeepsP p A (A.putObj l o):=⟨by simp,fun b hb=>World.putObj_heap_other (hp b hb)⟩
theorem KeepsP.cell {p:Nat->Prop} {A B:World} (h:KeepsP p A B) {b i:Nat} (hb:p b):B.cell? ⟨b,i,none⟩=A.cell? ⟨b,i,none⟩:=by simp [World.cell?,h.2 b hb]
def MoveM (own:Nat->Prop) (A B:World):Prop:=∃ row,A.grownBy B row/\∀ r,row=some r->own r/\∃ o:Obj,A.heap[r]?=some o/\o.isCells=true
theorem MoveM.alloc (own:Nat->Prop) (W:World) (o:Obj):MoveM own W (W.alloc o):=⟨none,World.grownBy_alloc _ _ none,fun r e=>by cases e⟩
theorem MoveM.low {own:Nat->Prop} {A B:World} (h:Below A.heap.size A B):MoveM own A B:=⟨none,⟨h.os,h.tape,h.output,h.size,fun i hi _=>h.block i hi⟩,fun r e=>by cases e⟩
theorem MoveM.set {own:Nat->Prop} {W:World} {a:Addr} {v u:Value} (ho:own a.block) (hc:W.cell? a=some u):MoveM own W (W.setCell a v) :=
 ⟨some a.block,⟨rfl,rfl,rfl,by simp [World.setCell],fun k _ hk=>Below.heap_setCell _ _ _ k (fun e=>hk (by rw [e]))⟩,fun r e=>by cases e;exact⟨ho,cells_of_cell hc⟩⟩
theorem MoveM.one {own:Nat->Prop} {A B:World} {b:Nat} (ho:own b) (hc:∃ o:Obj,A.heap[b]?=some o/\o.isCells=true) (h1:B.os=A.os) (h2:B.tape=A.tape) (h3:B.output=A.output) (h4:A.heap.size<=B.heap.size) (h5:∀ k,k<A.heap.size->k≠b->B.heap[k]?=A.heap[k]?):MoveM own A B :=
 ⟨some b,⟨h1,h2,h3,h4,fun k hk hne=>h5 k hk (fun e=>hne (by rw [e]))⟩,fun r e=>by cases e;exact⟨ho,hc⟩⟩
def SeqM {α : Type} (n : Nat) (P : Program) (g : Nat) (lb : Array Value) (encs : α -> Array Value) (Kp : Nat -> World -> World -> Prop) (own : Nat -> Nat -> Prop) (c N : Nat) (S Sp : List α -> Prop) (w : World) : Prop :=
 ∀ (l : Nat) (J Jx : List α -> World -> Prop) (W : World), Below w.heap.size w W ->
  (∀ s A B,J s A->MoveM (own W.heap.size) A B->J s B)->(∀ s A B,Jx s A->MoveM (own W.heap.size) A B->Jx s B) ->
  (∀ pre x W1,J pre W1->pre.length<N->W.heap.size+c<=W1.heap.size->YieldAt Fence.wide (n-1) P l (encs x) W1 fun e W' =>
   (e=qR (.bool true)/\J (pre++[x]) W'/\Kp W.heap.size W1 W')\/(e=qR (.bool false)/\Jx (pre++[x]) W')) ->
  J [] W ->
  CallsIn Fence.wide n P g (#[.func (.yield l) #[] #[]]++lb) W fun e W'=>(∃ v,e=qR v)/\((∃ xs,S xs/\J xs W')\/(∃ pre,Sp pre/\Jx pre W'))
def OwnM {β:Type} (own:Nat->Nat->Prop) (B:Nat) (I:β->World->Prop):Prop :=
 ∀ s W W' row,I s W->W.grownBy W' row->(∀ r,row=some r->∃ o:Obj,W.heap[r]?=some o/\((o.isCells=true/\own (B+2) r)\/(o.isCells=false/\B<=r)))->I s W'
section
variable {β:Type} {own:Nat->Nat->Prop} {B:Nat}
theorem OwnM.move {I:β->World->Prop} (h:OwnM own B I) {s:β} {X Y:World} (hs:I s X) (hm:MoveM (own (B+2)) X Y):I s Y:=by
 obtain⟨a,f,c⟩:=hm;exact h s X Y a hs f fun r e=>by obtain⟨g,o,b,d⟩:=c r e;exact⟨o,b,.inl ⟨d,g⟩⟩
theorem OwnM.new {I:β->World->Prop} (h:OwnM own B I) {s:β} {X:World} (o:Obj) (hs:I s X):I s (X.alloc o) :=
 h s X _ none hs (World.grownBy_alloc _ _ none) (fun r e=>by cases e)
theorem OwnM.turn {I:β->World->Prop} (h:OwnM own B I) {s:β} {X:World} {l:Nat} {o:Obj} (o':Obj) (hs:I s X) (hB:B<=l) (hl:X.heap[l]?=some o) (hc:o.isCells=false):I s (X.putObj l o') :=
 h s X _ (some l) hs (grownBy_putObj' X l o') (fun r e=>by cases e;exact⟨o,hl,.inr ⟨hc,hB⟩⟩)
theorem OwnM.and {I I':β->World->Prop} (h:OwnM own B I) (h':OwnM own B I'):OwnM own B (fun s W=>I s W/\I' s W):=fun s X Y row hs hg hr=>⟨h s X Y row hs.1 hg hr,h' s X Y row hs.2 hg hr⟩
theorem OwnM.pure (p:β->Prop):OwnM own B (fun s (_:World)=>p s):=fun _ _ _ _ hs _ _=>hs
theorem OwnM.below {m:Nat} (w0:World) (hn:m<=w0.heap.size) (hm:m<=B) (ho:∀ r,own (B+2) r->m<=r):OwnM own B (fun (_:β) W=>Below m w0 W):=fun _ _ _ _ hs hg hr =>
 hs.grown hg (Nat.le_trans hn hs.size) (fun k e=>by
  obtain⟨o,_,h2⟩:=hr k e;rcases h2 with⟨_,h2⟩ | ⟨_,h2⟩
  ·exact ho k h2
  ·omega)
end
section
variable {n:Nat} {P:Program}
structure Books (B:Nat) (r:Loop) (W:World):Prop where
 loop:W.heap[B+1]?=some (.loop r)
 late:W.heap[B]?=some (.deferred (some []))
theorem Books.move {B:Nat} {r:Loop} {own:Nat->Prop} {X Y:World} (h:Books B r X) (hm:MoveM own X Y):Books B r Y:=by
 obtain⟨g,f,d⟩:=hm;have a:∀ (k:Nat) (o:Obj),X.heap[k]?=some o->o.isCells=false->Y.heap[k]?=some o:=fun k o hk hc =>
  (f.block k (Array.getElem?_eq_some_iff.1 hk).1 (fun e=>by
   obtain⟨_,i,c,b⟩:=d k e.symm;rw [hk] at c;cases c;rw [hc] at b;cases b)).trans hk
 exact⟨a _ _ h.loop rfl,a _ _ h.late rfl⟩
theorem Books.kept {B:Nat} {r:Loop} {X Y:World} (h:Books B r X) (hk:KeepsFrom B X Y):Books B r Y:=⟨hk.same _ _ (by omega) h.loop rfl,hk.same _ _ (qN _) h.late rfl⟩
theorem Books.put {B:Nat} {r:Loop} {X:World} (h:Books B r X) (r':Loop):Books B r' (X.putObj (B+1) (.loop r')) :=
 ⟨World.putObj_heap_same (Array.getElem?_eq_some_iff.1 h.loop).1,(World.putObj_heap_other (by omega)).trans h.late⟩
theorem Z2s {α : Type} {g : Operand} {ps : Array Tmp} {assign body : Code} {Q : Exit -> Act -> World -> Prop} {a : Act} {w : World} {gf : Nat} {lb : Array Value}
  (h1:1<=n) (hg:a.eval g=.func (.func gf) #[] lb) (eg:∀ args w,(callFunc gf args).run P w=.ok (.enter gf args) w)
  {encs:α->Array Value} {Kp:Nat->World->World->Prop} {own:Nat->Nat->Prop} {c N:Nat} {S Sp:List α->Prop} {w0:World} (hseq:SeqM (n-1) P gf lb encs Kp own c N S Sp w0)
  (hKt:∀ {A B C:World},Kp (w.heap.size+2) A B->Kp (w.heap.size+2) B C->Kp (w.heap.size+2) A C) (hKb:∀ (W:World) (o o':Obj),W.heap[w.heap.size+1]?=some o->o.isCells=false->Kp (w.heap.size+2) W (W.putObj (w.heap.size+1) o')) (hb0:Below w0.heap.size w0 w) (hps:∀ x,(encs x).size=ps.size)
  (I:List α->World->Prop) (Ix:Code->List α->World->Prop) (hI:OwnM own w.heap.size I) (hIx:∀ c,OwnM own w.heap.size (Ix c)) (h0:I [] w)
  (Ax:α->Act->World->Prop) (hAx:∀ x a',OwnM own w.heap.size (fun (_:Unit) W=>Ax x a' W))
  (hassign:∀ (l:Nat) (pre:List α) (x:α) (W:World) (K:Act->World->Prop),I pre W->w.heap.size+2+c<=W.heap.size->(∀ a' W',KeepsFrom w.heap.size W W'->Kp (w.heap.size+2) W W'->I pre W'->Ax x a' W'->K a' W') ->
   assign.wpIn (Fence.wide.inRound l) (n-1-1) P (Exit.then K (fun _ _ _=>False)) { tmps:=(ps.zip (encs x)).foldl (fun t (p,v)=>t.setIfInBounds p v) a.tmps,defers:=[] } W)
  (hbody:∀ (l:Nat) (pre:List α) (x:α) (a':Act) (W:World),w.heap.size<=l->(∃ r,W.heap[l]?=some (.loop r))->I pre W->Ax x a' W->pre.length<N->w.heap.size+2+c<=W.heap.size->body.wpIn (Fence.wide.inRound l) (n-1-1) P (ownPostG w.heap.size (Kp (w.heap.size+2)) I Ix (pre++[x]) W) a' W)
  (hdone:∀ (D:Nat) (xs:List α) (W:World),w.heap.size<=D->S xs->I xs W->W.heap[D]?=some (.deferred (some []))->Q .normal { a with defers:={ target:=.collected D,args:=#[] }::a.defers } W)
  (hstop:∀ (D:Nat) (c:Code) (pre:List α) (W:World),w.heap.size<=D->Sp pre->Ix c pre W->W.heap[D]?=some (.deferred (some []))->c.wpIn Fence.wide n P Q { a with defers:={ target:=.collected D,args:=#[] }::a.defers } W) :
  (Code.rangeFunc g ps assign body).wpIn Fence.wide n P Q a w:=by
 refine wpIn_rangeFunc fun fn hfn=>?_
 let rec0:LoopState->Option Code->Loop:=fun st pe=>{ state:=st,pending:=pe,fn,tmps:=a.tmps,params:=ps,assign,body,defers:=w.heap.size }
 have G:Books w.heap.size (rec0 .ready none) ((w.alloc (.deferred (some []))).alloc (.loop (rec0 .ready none))) :=
  ⟨by have:=World.alloc_heap_new (w.alloc (.deferred (some []))) (.loop (rec0 .ready none));rwa [World.size_alloc] at this,(Below.heap_alloc _ _ _ (by simp)).trans (World.alloc_heap_new w _)⟩
 have R:I [] ((w.alloc (.deferred (some []))).alloc (.loop (rec0 .ready none))):=hI.new _ (hI.new _ h0);have J:Below w0.heap.size w0 ((w.alloc (.deferred (some []))).alloc (.loop (rec0 .ready none))):=hb0.trans ((((Below.refl _ w).alloc (qN _) _).alloc (by simp) _).mono hb0.size)
 have i:((w.alloc (.deferred (some []))).alloc (.loop (rec0 .ready none))).heap.size=w.heap.size+2:=by simp
 have V:=run_enterLoop_outer (P:=P) (w:=w) fn a.tmps ps assign body;refine⟨w.heap.size+1,[{ target:=.collected w.heap.size,args:=#[] }],_,{ target:=.fn (.func gf) lb,args:=#[.func (.yield (w.heap.size+1)) #[] #[]] },_,gf,
  #[.func (.yield (w.heap.size+1)) #[] #[]]++lb,_,V,by simp only [resolve,hg];simp [go_sem];rfl,fun _ _=>trivial,by simp [invoke,go_sem,eg];rfl,fun _=>h1,?_⟩
 change CallsIn Fence.wide (n-1) P gf _ ((w.alloc (.deferred (some []))).alloc (.loop (rec0 .ready none))) _
 generalize (w.alloc (.deferred (some []))).alloc (.loop (rec0 .ready none))=W1 at G R J i;refine (hseq (w.heap.size+1) (fun pre W=>I pre W/\Books w.heap.size (rec0 .ready none) W) (fun pre W=>∃ c,Ix c pre W/\Books w.heap.size (rec0 .done (some c)) W) W1 J
  (fun s A B hs hm=>by rw [i] at hm;exact⟨hI.move hs.1 hm,hs.2.move hm⟩)
  (fun s A B hs hm=>by rw [i] at hm;obtain⟨c,h1,h2⟩:=hs;exact⟨c,(hIx c).move h1 hm,h2.move hm⟩) ?_ ⟨R,G⟩).mono ?_
 ·rintro pre x W ⟨L,k⟩ H u
  rw [i] at u;rw [i];refine⟨fn,_,assign,body,run_yield k.loop (hps x),roundIn_of_wpIn hfn (hassign _ pre x W _ L u fun a' Wa hkf hkp hia hax=>?_)⟩
  have h:=k.kept hkf;have M:w.heap.size+2+c<=Wa.heap.size:=Nat.le_trans u hkf.size;refine⟨_,run_beginRound h.loop rfl,?_⟩;have q:=h.put { rec0 .ready none with state:=.busy }
  have X:Kp (w.heap.size+2) Wa (Wa.putObj (w.heap.size+1) (.loop { rec0 .ready none with state:=.busy })):=hKb _ _ _ h.loop rfl
  refine wpIn_mono (hbody _ pre x a' _ (by omega) ⟨_,q.loop⟩ (hI.turn _ hia (by omega) h.loop rfl) ((hAx x a').turn (s:=()) _ hax (by omega) h.loop rfl) H (by simpa using M)) ?_
  rintro e a3 y z;have f:∀ (j:Code),KeepsFrom w.heap.size (Wa.putObj (w.heap.size+1) (.loop { rec0 .ready none with state:=.busy })) y->Ix j (pre++[x]) y ->
    (Instr.endRound (w.heap.size+1) (some j)).run P y=.ok (.bool false) (y.putObj (w.heap.size+1) (.loop (rec0 .done (some j))))/\Ix j (pre++[x]) (y.putObj (w.heap.size+1) (.loop (rec0 .done (some j))))/\Books w.heap.size (rec0 .done (some j)) (y.putObj (w.heap.size+1) (.loop (rec0 .done (some j)))):=fun j b d =>
   have m:=q.kept b
   ⟨run_endRound (P:=P) (some j) m.loop,(hIx j).turn _ d (by omega) m.loop rfl,m.put _⟩
  cases e with
  | normal =>
   obtain⟨b,T,d⟩:=z;have m:=q.kept b;exact⟨_,_,run_endRound (P:=P) none m.loop,.inl ⟨rfl,⟨hI.turn _ d (by omega) m.loop rfl,m.put _⟩,hKt hkp (hKt (hKt X T) (hKb _ _ _ m.loop rfl))⟩⟩
  | ret=>obtain⟨b,d⟩:=z;obtain⟨U,E,F⟩:=f .ret b d;exact⟨_,_,U,.inr ⟨rfl,_,E,F⟩⟩
  | exit id=>obtain⟨b,d⟩:=z;obtain⟨U,E,F⟩:=f (.exit id) b d;exact⟨_,_,U,.inr ⟨rfl,_,E,F⟩⟩
  | goto t=>obtain⟨b,d⟩:=z;obtain⟨U,E,F⟩:=f (.goto t) b d;exact⟨_,_,U,.inr ⟨rfl,_,E,F⟩⟩
  | panic ch=>exact z.elim
  | outgrown=>exact z.elim
 ·rintro e W2 ⟨⟨v,rfl⟩,(⟨xs,Z,L,k⟩ | ⟨pre,Y,j,L,k⟩)⟩
  ·exact⟨none,_,run_endLoop (P:=P) k.loop (by simp [rec0]),hdone _ xs _ (qN _) Z (hI.turn _ L (by omega) k.loop rfl) (k.put _).late⟩
  ·exact⟨some j,_,run_endLoop (P:=P) k.loop (by simp [rec0]),hstop _ j pre _ (qN _) Y ((hIx j).turn _ L (by omega) k.loop rfl) (k.put _).late⟩
end
def SeqD {α : Type} (P : Program) (g : Nat) (lb : Array Value) (encs : α -> Array Value) (Hx : α -> World -> Prop) (Kp : Nat -> World -> World -> Prop) (own : List α -> Nat -> Nat -> Prop) (S Sp : List α -> Prop) (w : World) : Prop :=
 ∀ (n l : Nat) (J Jx : List α -> World -> Prop) (W : World), Below w.heap.size w W ->
  (∀ s A B,J s A->MoveM (own s W.heap.size) A B->J s B)->(∀ s A B,Jx s A->MoveM (own s W.heap.size) A B->Jx s B) ->
  (∀ m pre x W1,J pre W1->Hx x W1->W.heap.size<=W1.heap.size->YieldAt Fence.wide m P l (encs x) W1 fun e W' =>
   ((e=qR (.bool true)/\J (pre++[x]) W')\/(e=qR (.bool false)/\Jx (pre++[x]) W'))/\Kp W.heap.size W1 W') ->
  J [] W ->
  CallsIn Fence.wide n P g (#[.func (.yield l) #[] #[]]++lb) W fun e W'=>(∃ v,e=qR v)/\((∃ xs,S xs/\J xs W')\/(∃ pre,Sp pre/\Jx pre W'))
def OwnD {α:Type} (own:List α->Nat->Nat->Prop) (B:Nat) (I:List α->World->Prop):Prop :=
 ∀ s W W' row,I s W->W.grownBy W' row->(∀ r,row=some r->∃ o:Obj,W.heap[r]?=some o/\((o.isCells=true/\own s (B+2) r)\/(o.isCells=false/\B<=r)))->I s W'
section
variable {α:Type} {own:List α->Nat->Nat->Prop} {B:Nat}
theorem OwnD.move {I:List α->World->Prop} (h:OwnD own B I) {s:List α} {X Y:World} (hs:I s X) (hm:MoveM (own s (B+2)) X Y):I s Y:=by
 obtain⟨a,f,c⟩:=hm;exact h s X Y a hs f fun r e=>by obtain⟨g,o,b,d⟩:=c r e;exact⟨o,b,.inl ⟨d,g⟩⟩
theorem OwnD.new {I:List α->World->Prop} (h:OwnD own B I) {s:List α} {X:World} (o:Obj) (hs:I s X):I s (X.alloc o) :=
 h s X _ none hs (World.grownBy_alloc _ _ none) (fun r e=>by cases e)
theorem OwnD.turn {I:List α->World->Prop} (h:OwnD own B I) {s:List α} {X:World} {l:Nat} {o:Obj} (o':Obj) (hs:I s X) (hB:B<=l) (hl:X.heap[l]?=some o) (hc:o.isCells=false):I s (X.putObj l o') :=
 h s X _ (some l) hs (grownBy_putObj' X l o') (fun r e=>by cases e;exact⟨o,hl,.inr ⟨hc,hB⟩⟩)
theorem OwnD.and {I I':List α->World->Prop} (h:OwnD own B I) (h':OwnD own B I'):OwnD own B (fun s W=>I s W/\I' s W):=fun s X Y row hs hg hr=>⟨h s X Y row hs.1 hg hr,h' s X Y row hs.2 hg hr⟩
theorem OwnD.pure (p:List α->Prop):OwnD own B (fun s (_:World)=>p s):=fun _ _ _ _ hs _ _=>hs
theorem OwnD.has (b:Nat) (hb:∀ s,¬ own s (B+2) b) (cs:List α->Array Value) (t:TypeId):OwnD own B (fun s W=>W.heap[b]?=some (.cells (cs s) t (0,0))):=fun s X Y row hs hg hr =>
 (hg.block b (Array.getElem?_eq_some_iff.1 hs).1 (fun e=>by
  obtain⟨o,h1,h2⟩:=hr b e.symm;rcases h2 with⟨_,h2⟩ | ⟨h2,_⟩
  ·exact hb s h2
  ·rw [hs] at h1;cases h1;cases h2)).trans hs
theorem OwnD.below {m:Nat} (w0:World) (hn:m<=w0.heap.size) (hm:m<=B) (ho:∀ s r,own s (B+2) r->m<=r):OwnD own B (fun (_:List α) W=>Below m w0 W):=fun s _ _ _ hs hg hr =>
 hs.grown hg (Nat.le_trans hn hs.size) (fun k e=>by
  obtain⟨o,_,h2⟩:=hr k e;rcases h2 with⟨_,h2⟩ | ⟨_,h2⟩
  ·exact ho s k h2
  ·omega)
end
def postD {α:Type} (B:Nat) (Kp:World->World->Prop) (I:List α->World->Prop) (Ix:Code->List α->World->Prop) (xs:List α) (W:World):Exit->Act->World->Prop
 | .normal,_,W'=>KeepsFrom B W W'/\Kp W W'/\I xs W'
 | .ret,_,W'=>KeepsFrom B W W'/\Kp W W'/\Ix .ret xs W'
 | .exit id,_,W'=>KeepsFrom B W W'/\Kp W W'/\Ix (.exit id) xs W'
 | .goto t,_,W'=>KeepsFrom B W W'/\Kp W W'/\Ix (.goto t) xs W'
 | .panic _,_,_=>False
 | .outgrown,_,_=>False
section
variable {n:Nat} {P:Program}
theorem Z6t {α : Type} {g : Operand} {ps : Array Tmp} {assign body : Code} {Q : Exit -> Act -> World -> Prop} {a : Act} {w : World} {gf : Nat} {lb : Array Value}
  (h1:1<=n) (hg:a.eval g=.func (.func gf) #[] lb) (eg:∀ args w,(callFunc gf args).run P w=.ok (.enter gf args) w)
  {encs:α->Array Value} {Hx:α->World->Prop} {Kp:Nat->World->World->Prop} {own:List α->Nat->Nat->Prop} {S Sp:List α->Prop} {w0:World} (hseq:SeqD P gf lb encs Hx Kp own S Sp w0)
  (hHx:∀ x W (l:Nat) (o o':Obj),Hx x W->W.heap[l]?=some o->o.isCells=false->Hx x (W.putObj l o'))
  (hKt:∀ {A B C:World},Kp (w.heap.size+2) A B->Kp (w.heap.size+2) B C->Kp (w.heap.size+2) A C) (hKb:∀ (W:World) (o o':Obj),W.heap[w.heap.size+1]?=some o->o.isCells=false->Kp (w.heap.size+2) W (W.putObj (w.heap.size+1) o')) (hb0:Below w0.heap.size w0 w) (hps:∀ x,(encs x).size=ps.size)
  (I:List α->World->Prop) (Ix:Code->List α->World->Prop) (hI:OwnD own w.heap.size I) (hIx:∀ c,OwnD own w.heap.size (Ix c)) (h0:I [] w)
  (up:α->Array Value) (hassign:∀ (l m:Nat) (x:α) (W:World) (K:Act->World->Prop),Hx x W->K { tmps:=up x,defers:=[] } W ->
   assign.wpIn (Fence.wide.inRound l) m P (Exit.then K (fun _ _ _=>False)) { tmps:=(ps.zip (encs x)).foldl (fun t (p,v)=>t.setIfInBounds p v) a.tmps,defers:=[] } W)
  (hbody:∀ (l m:Nat) (pre:List α) (x:α) (W:World),w.heap.size<=l->(∃ r,W.heap[l]?=some (.loop r))->I pre W->Hx x W->w.heap.size+2<=W.heap.size->body.wpIn (Fence.wide.inRound l) m P (postD w.heap.size (Kp (w.heap.size+2)) I Ix (pre++[x]) W) { tmps:=up x,defers:=[] } W)
  (hdone:∀ (D:Nat) (xs:List α) (W:World),w.heap.size<=D->S xs->I xs W->W.heap[D]?=some (.deferred (some []))->Q .normal { a with defers:={ target:=.collected D,args:=#[] }::a.defers } W)
  (hstop:∀ (D:Nat) (c:Code) (pre:List α) (W:World),w.heap.size<=D->Sp pre->Ix c pre W->W.heap[D]?=some (.deferred (some []))->c.wpIn Fence.wide n P Q { a with defers:={ target:=.collected D,args:=#[] }::a.defers } W) :
  (Code.rangeFunc g ps assign body).wpIn Fence.wide n P Q a w:=by
 refine wpIn_rangeFunc fun fn hfn=>?_
 let rec0:LoopState->Option Code->Loop:=fun st pe=>{ state:=st,pending:=pe,fn,tmps:=a.tmps,params:=ps,assign,body,defers:=w.heap.size }
 have G:Books w.heap.size (rec0 .ready none) ((w.alloc (.deferred (some []))).alloc (.loop (rec0 .ready none))) :=
  ⟨by have:=World.alloc_heap_new (w.alloc (.deferred (some []))) (.loop (rec0 .ready none));rwa [World.size_alloc] at this,(Below.heap_alloc _ _ _ (by simp)).trans (World.alloc_heap_new w _)⟩
 have R:I [] ((w.alloc (.deferred (some []))).alloc (.loop (rec0 .ready none))):=hI.new _ (hI.new _ h0);have H:Below w0.heap.size w0 ((w.alloc (.deferred (some []))).alloc (.loop (rec0 .ready none))):=hb0.trans ((((Below.refl _ w).alloc (qN _) _).alloc (by simp) _).mono hb0.size)
 have k:((w.alloc (.deferred (some []))).alloc (.loop (rec0 .ready none))).heap.size=w.heap.size+2:=by simp
 have U:=run_enterLoop_outer (P:=P) (w:=w) fn a.tmps ps assign body;refine⟨w.heap.size+1,[{ target:=.collected w.heap.size,args:=#[] }],_,{ target:=.fn (.func gf) lb,args:=#[.func (.yield (w.heap.size+1)) #[] #[]] },_,gf,
  #[.func (.yield (w.heap.size+1)) #[] #[]]++lb,_,U,by simp only [resolve,hg];simp [go_sem];rfl,fun _ _=>trivial,by simp [invoke,go_sem,eg];rfl,fun _=>h1,?_⟩
 change CallsIn Fence.wide (n-1) P gf _ ((w.alloc (.deferred (some []))).alloc (.loop (rec0 .ready none))) _
 generalize (w.alloc (.deferred (some []))).alloc (.loop (rec0 .ready none))=W1 at G R H k;refine (hseq (n-1) (w.heap.size+1) (fun pre W=>I pre W/\Books w.heap.size (rec0 .ready none) W) (fun pre W=>∃ c,Ix c pre W/\Books w.heap.size (rec0 .done (some c)) W) W1 H
  (fun s A B hs hm=>by rw [k] at hm;exact⟨hI.move hs.1 hm,hs.2.move hm⟩)
  (fun s A B hs hm=>by rw [k] at hm;obtain⟨c,h1,Z⟩:=hs;exact⟨c,(hIx c).move h1 hm,Z.move hm⟩) ?_ ⟨R,G⟩).mono ?_
 ·rintro m pre x W ⟨L,i⟩ X N
  rw [k] at N;rw [k];refine⟨fn,_,assign,body,run_yield i.loop (hps x),roundIn_of_wpIn hfn (hassign _ m x W _ X ?_)⟩;refine⟨_,run_beginRound i.loop rfl,?_⟩;have y:=i.put { rec0 .ready none with state:=.busy }
  have M:Kp (w.heap.size+2) W (W.putObj (w.heap.size+1) (.loop { rec0 .ready none with state:=.busy })):=hKb _ _ _ i.loop rfl
  refine wpIn_mono (hbody _ m pre x _ (by omega) ⟨_,y.loop⟩ (hI.turn _ L (by omega) i.loop rfl) (hHx _ _ _ _ _ X i.loop rfl) (by simpa using N)) ?_
  rintro e a3 u z;have h:∀ (j:Code),KeepsFrom w.heap.size (W.putObj (w.heap.size+1) (.loop { rec0 .ready none with state:=.busy })) u->Kp (w.heap.size+2) (W.putObj (w.heap.size+1) (.loop { rec0 .ready none with state:=.busy })) u->Ix j (pre++[x]) u ->
    (Instr.endRound (w.heap.size+1) (some j)).run P u=.ok (.bool false) (u.putObj (w.heap.size+1) (.loop (rec0 .done (some j))))/\Ix j (pre++[x]) (u.putObj (w.heap.size+1) (.loop (rec0 .done (some j))))/\Books w.heap.size (rec0 .done (some j)) (u.putObj (w.heap.size+1) (.loop (rec0 .done (some j))))/\Kp (w.heap.size+2) W (u.putObj (w.heap.size+1) (.loop (rec0 .done (some j)))):=fun j d b f =>
   have q:=y.kept d
   ⟨run_endRound (P:=P) (some j) q.loop,(hIx j).turn _ f (by omega) q.loop rfl,q.put _,hKt M (hKt b (hKb _ _ _ q.loop rfl))⟩
  cases e with
  | normal =>
   obtain⟨d,b,f⟩:=z;have q:=y.kept d;exact⟨_,_,run_endRound (P:=P) none q.loop,.inl ⟨rfl,⟨hI.turn _ f (by omega) q.loop rfl,q.put _⟩⟩,hKt M (hKt b (hKb _ _ _ q.loop rfl))⟩
  | ret=>obtain⟨d,b,f⟩:=z;obtain⟨T,E,F,J⟩:=h .ret d b f;exact⟨_,_,T,.inr ⟨rfl,_,E,F⟩,J⟩
  | exit id=>obtain⟨d,b,f⟩:=z;obtain⟨T,E,F,J⟩:=h (.exit id) d b f;exact⟨_,_,T,.inr ⟨rfl,_,E,F⟩,J⟩
  | goto t=>obtain⟨d,b,f⟩:=z;obtain⟨T,E,F,J⟩:=h (.goto t) d b f;exact⟨_,_,T,.inr ⟨rfl,_,E,F⟩,J⟩
  | panic ch=>exact z.elim
  | outgrown=>exact z.elim
 ·rintro e W2 ⟨⟨v,rfl⟩,(⟨xs,Y,L,i⟩ | ⟨pre,V,j,L,i⟩)⟩
  ·exact⟨none,_,run_endLoop (P:=P) i.loop (by simp [rec0]),hdone _ xs _ (qN _) Y (hI.turn _ L (by omega) i.loop rfl) (i.put _).late⟩
  ·exact⟨some j,_,run_endLoop (P:=P) i.loop (by simp [rec0]),hstop _ j pre _ (qN _) V ((hIx j).turn _ L (by omega) i.loop rfl) (i.put _).late⟩
end
def SeqE {α : Type} (P : Program) (g : Nat) (lb : Array Value) (encs : α -> Array Value) (Hx : α -> World -> Prop) (Kp : Nat -> World -> World -> Prop) (S Sp : List α -> Prop) (w : World) : Prop :=
 ∀ (n l : Nat) (J Jx : List α -> World -> Prop) (W : World), Below w.heap.size w W ->
  (∀ s A B,J s A->Below A.heap.size A B->J s B)->(∀ s A B,Jx s A->Below A.heap.size A B->Jx s B) ->
  (∀ m pre x W1,J pre W1->Hx x W1->W.heap.size<=W1.heap.size->YieldAt Fence.wide m P l (encs x) W1 fun e W' =>
   (e=qR (.bool true)/\J (pre++[x]) W'/\Kp W.heap.size W1 W')\/(e=qR (.bool false)/\Jx (pre++[x]) W')) ->
  J [] W ->
  CallsIn Fence.wide n P g (#[.func (.yield l) #[] #[]]++lb) W fun e W'=>(∃ v,e=qR v)/\((∃ xs,S xs/\J xs W')\/(∃ pre,Sp pre/\Jx pre W'))
abbrev noOwn {α:Type}:List α->Nat->Nat->Prop:=fun _ _ _=>False
def postE {α:Type} (B:Nat) (Kp:World->World->Prop) (I:List α->World->Prop) (Ix:Code->List α->World->Prop) (xs:List α) (W:World):Exit->Act->World->Prop
 | .normal,_,W'=>KeepsFrom B W W'/\Kp W W'/\I xs W'
 | .ret,_,W'=>KeepsFrom B W W'/\Ix .ret xs W'
 | .exit id,_,W'=>KeepsFrom B W W'/\Ix (.exit id) xs W'
 | .goto t,_,W'=>KeepsFrom B W W'/\Ix (.goto t) xs W'
 | .panic _,_,_=>False
 | .outgrown,_,_=>False
section
variable {n:Nat} {P:Program}
theorem Z1Q {α : Type} {g : Operand} {ps : Array Tmp} {assign body : Code} {Q : Exit -> Act -> World -> Prop} {a : Act} {w : World} {gf : Nat} {lb : Array Value}
  (h1:1<=n) (hg:a.eval g=.func (.func gf) #[] lb) (eg:∀ args w,(callFunc gf args).run P w=.ok (.enter gf args) w)
  {encs:α->Array Value} {Hx:α->World->Prop} {Kp:Nat->World->World->Prop} {S Sp:List α->Prop} {w0:World} (hseq:SeqE P gf lb encs Hx Kp S Sp w0)
  (hHx:∀ x W (l:Nat) (o o':Obj),Hx x W->W.heap[l]?=some o->o.isCells=false->Hx x (W.putObj l o'))
  (hKt:∀ {A B C:World},Kp (w.heap.size+2) A B->Kp (w.heap.size+2) B C->Kp (w.heap.size+2) A C) (hKb:∀ (W:World) (o o':Obj),W.heap[w.heap.size+1]?=some o->o.isCells=false->Kp (w.heap.size+2) W (W.putObj (w.heap.size+1) o')) (hb0:Below w0.heap.size w0 w) (hps:∀ x,(encs x).size=ps.size)
  (I:List α->World->Prop) (Ix:Code->List α->World->Prop) (hI:OwnD noOwn w.heap.size I) (hIx:∀ c,OwnD noOwn w.heap.size (Ix c)) (h0:I [] w)
  (hround:∀ (l m:Nat) (pre:List α) (x:α) (W:World),w.heap.size<=l->I pre W->Hx x W->w.heap.size+2<=W.heap.size ->
   assign.wpIn (Fence.wide.inRound l) m P (Exit.then (fun a' W'=>W'=W/\∀ V,(∃ r,V.heap[l]?=some (.loop r))->I pre V->Hx x V->V.heap.size=W.heap.size->body.wpIn (Fence.wide.inRound l) m P (postE w.heap.size (Kp (w.heap.size+2)) I Ix (pre++[x]) V) a' V) (fun _ _ _=>False))
    { tmps:=(ps.zip (encs x)).foldl (fun t (p,v)=>t.setIfInBounds p v) a.tmps,defers:=[] } W)
  (hdone:∀ (D:Nat) (xs:List α) (W:World),w.heap.size<=D->S xs->I xs W->W.heap[D]?=some (.deferred (some []))->Q .normal { a with defers:={ target:=.collected D,args:=#[] }::a.defers } W)
  (hstop:∀ (D:Nat) (c:Code) (pre:List α) (W:World),w.heap.size<=D->Sp pre->Ix c pre W->W.heap[D]?=some (.deferred (some []))->c.wpIn Fence.wide n P Q { a with defers:={ target:=.collected D,args:=#[] }::a.defers } W) :
  (Code.rangeFunc g ps assign body).wpIn Fence.wide n P Q a w:=by
 refine wpIn_rangeFunc fun fn hfn=>?_
 let rec0:LoopState->Option Code->Loop:=fun st pe=>{ state:=st,pending:=pe,fn,tmps:=a.tmps,params:=ps,assign,body,defers:=w.heap.size }
 have H:Books w.heap.size (rec0 .ready none) ((w.alloc (.deferred (some []))).alloc (.loop (rec0 .ready none))) :=
  ⟨by have:=World.alloc_heap_new (w.alloc (.deferred (some []))) (.loop (rec0 .ready none));rwa [World.size_alloc] at this,(Below.heap_alloc _ _ _ (by simp)).trans (World.alloc_heap_new w _)⟩
 have L:I [] ((w.alloc (.deferred (some []))).alloc (.loop (rec0 .ready none))):=hI.new _ (hI.new _ h0);have J:Below w0.heap.size w0 ((w.alloc (.deferred (some []))).alloc (.loop (rec0 .ready none))):=hb0.trans ((((Below.refl _ w).alloc (qN _) _).alloc (by simp) _).mono hb0.size)
 have u:((w.alloc (.deferred (some []))).alloc (.loop (rec0 .ready none))).heap.size=w.heap.size+2:=by simp
 have R:=run_enterLoop_outer (P:=P) (w:=w) fn a.tmps ps assign body;refine⟨w.heap.size+1,[{ target:=.collected w.heap.size,args:=#[] }],_,{ target:=.fn (.func gf) lb,args:=#[.func (.yield (w.heap.size+1)) #[] #[]] },_,gf,
  #[.func (.yield (w.heap.size+1)) #[] #[]]++lb,_,R,by simp only [resolve,hg];simp [go_sem];rfl,fun _ _=>trivial,by simp [invoke,go_sem,eg];rfl,fun _=>h1,?_⟩
 change CallsIn Fence.wide (n-1) P gf _ ((w.alloc (.deferred (some []))).alloc (.loop (rec0 .ready none))) _
 generalize (w.alloc (.deferred (some []))).alloc (.loop (rec0 .ready none))=W1 at H L J u;refine (hseq (n-1) (w.heap.size+1) (fun pre W=>I pre W/\Books w.heap.size (rec0 .ready none) W) (fun pre W=>∃ c,Ix c pre W/\Books w.heap.size (rec0 .done (some c)) W) W1 J
  (fun s A B hs hm=>⟨hI.move hs.1 (MoveM.low hm),hs.2.move (MoveM.low (own:=fun _=>False) hm)⟩)
  (fun s A B hs hm=>by obtain⟨c,h1,Z⟩:=hs;exact⟨c,(hIx c).move h1 (MoveM.low hm),Z.move (MoveM.low (own:=fun _=>False) hm)⟩) ?_ ⟨L,H⟩).mono ?_
 ·rintro m pre x W ⟨z,h⟩ X K
  rw [u] at K;rw [u];refine⟨fn,_,assign,body,run_yield h.loop (hps x),roundIn_of_wpIn hfn (wpIn_mono (hround _ m pre x W (by omega) z X K) ?_)⟩
  intro e1 a1 V1 h1;cases e1 <;> first | exact h1.elim | skip
  obtain⟨q,h1⟩:=h1;replace q:=q.symm;subst q;refine⟨_,run_beginRound h.loop rfl,?_⟩;have k:=h.put { rec0 .ready none with state:=.busy }
  have T:Kp (w.heap.size+2) W (W.putObj (w.heap.size+1) (.loop { rec0 .ready none with state:=.busy })):=hKb _ _ _ h.loop rfl
  refine wpIn_mono (h1 _ ⟨_,k.loop⟩ (hI.turn _ z (by omega) h.loop rfl) (hHx _ _ _ _ _ X h.loop rfl) (by simp)) ?_
  rintro e a3 y E;have f:∀ (j:Code),KeepsFrom w.heap.size (W.putObj (w.heap.size+1) (.loop { rec0 .ready none with state:=.busy })) y->Ix j (pre++[x]) y ->
    (Instr.endRound (w.heap.size+1) (some j)).run P y=.ok (.bool false) (y.putObj (w.heap.size+1) (.loop (rec0 .done (some j))))/\Ix j (pre++[x]) (y.putObj (w.heap.size+1) (.loop (rec0 .done (some j))))/\Books w.heap.size (rec0 .done (some j)) (y.putObj (w.heap.size+1) (.loop (rec0 .done (some j)))):=fun j b d =>
   have i:=k.kept b
   ⟨run_endRound (P:=P) (some j) i.loop,(hIx j).turn _ d (by omega) i.loop rfl,i.put _⟩
  cases e with
  | normal =>
   obtain⟨b,M,d⟩:=E;have i:=k.kept b;exact⟨_,_,run_endRound (P:=P) none i.loop,.inl ⟨rfl,⟨hI.turn _ d (by omega) i.loop rfl,i.put _⟩,hKt T (hKt M (hKb _ _ _ i.loop rfl))⟩⟩
  | ret=>obtain⟨b,d⟩:=E;obtain⟨N,F,G⟩:=f .ret b d;exact⟨_,_,N,.inr ⟨rfl,_,F,G⟩⟩
  | exit id=>obtain⟨b,d⟩:=E;obtain⟨N,F,G⟩:=f (.exit id) b d;exact⟨_,_,N,.inr ⟨rfl,_,F,G⟩⟩
  | goto t=>obtain⟨b,d⟩:=E;obtain⟨N,F,G⟩:=f (.goto t) b d;exact⟨_,_,N,.inr ⟨rfl,_,F,G⟩⟩
  | panic ch=>exact E.elim
  | outgrown=>exact E.elim
 ·rintro e W2 ⟨⟨v,rfl⟩,(⟨xs,Y,z,h⟩ | ⟨pre,U,j,z,h⟩)⟩
  ·exact⟨none,_,run_endLoop (P:=P) h.loop (by simp [rec0]),hdone _ xs _ (qN _) Y (hI.turn _ z (by omega) h.loop rfl) (h.put _).late⟩
  ·exact⟨some j,_,run_endLoop (P:=P) h.loop (by simp [rec0]),hstop _ j pre _ (qN _) U ((hIx j).turn _ z (by omega) h.loop rfl) (h.put _).late⟩
end
end
end Go.Proofs.YthipcinibldgnaaGreat
