/- power.Used. | Plain: the radii of a vehicle at its ways. No program here. | package power: Home. | The reference of package power: Between, Cost, B .. -/
import Derived.OwnWalkIn
import Derived.Test.YtdolkgihppgpcaaGreatBin12
namespace Go.Proofs.YtdolkgihppgpcaaGreat
section
attribute [local go_sem] Oper.semAt_some
attribute [local irreducible] wpQuiet
open Go.RowKit Go.Shelf
def UsedQ (l1 l2:List Int) (er:Int) (w:World) (e:Ending) (w':World):Prop :=
 ∃ v1 v2,e=.returned (.tuple #[v1,v2,.int .i64 er])∧Z9 w'.heap.size w' v1 l1∧Z9 w'.heap.size w' v2 l2∧Below w.heap.size w w'
def UsedN (l1 l2:List Int) (er:Int) (w:World) (e:Ending) (w':World):Prop :=
 ∃ v1 v2,e=.returned (.tuple #[v1,v2,.int .i64 er])∧Z9 w'.heap.size w' v1 l1∧Z9 w'.heap.size w' v2 l2∧Below w.heap.size w w'∧NewI w.heap.size v1∧NewI w.heap.size v2
theorem UsedN.used {l1 l2:List Int} {er:Int} {w:World} {e:Ending} {w':World} (h:UsedN l1 l2 er w e w'):UsedQ l1 l2 er w e w':=by
 obtain⟨v1,v2,a,b,c,d,_,_⟩:=h;exact⟨v1,v2,a,b,c,d⟩
theorem three (w:World) (cs:Array Value) (T:TypeId) :
  Has (((w.alloc (.cells cs T)).alloc (.cells #[.slice none 0 0] 27)).alloc (.cells #[.slice none 0 0] 27)) w.heap.size cs T ∧
  Boxed (((w.alloc (.cells cs T)).alloc (.cells #[.slice none 0 0] 27)).alloc (.cells #[.slice none 0 0] 27)) (w.heap.size+1) 27 (.slice none 0 0) ∧
  Boxed (((w.alloc (.cells cs T)).alloc (.cells #[.slice none 0 0] 27)).alloc (.cells #[.slice none 0 0] 27)) (w.heap.size+1+1) 27 (.slice none 0 0) ∧
  Below w.heap.size w (((w.alloc (.cells cs T)).alloc (.cells #[.slice none 0 0] 27)).alloc (.cells #[.slice none 0 0] 27)) ∧
  (((w.alloc (.cells cs T)).alloc (.cells #[.slice none 0 0] 27)).alloc (.cells #[.slice none 0 0] 27)).heap.size=w.heap.size+3:=by
 have s1:(w.alloc (.cells cs T)).heap.size=w.heap.size+1:=by simp
 have s2:((w.alloc (.cells cs T)).alloc (.cells #[.slice none 0 0] 27)).heap.size=w.heap.size+1+1:=by simp
 have h1:=Boxed.new (w.alloc (.cells cs T)) 27 (.slice none 0 0);have h2:=Boxed.new ((w.alloc (.cells cs T)).alloc (.cells #[.slice none 0 0] 27)) 27 (.slice none 0 0);rw [s1] at h1;rw [s2] at h2;exact⟨((Has.new w cs T).below ((Below.refl (w.heap.size+1) _).alloc (by simp) _) (by omega)).below ((Below.refl (w.heap.size+1) _).alloc (by simp) _) (by omega),h1.alloc _,h2,
  (((Below.refl _ _).alloc (Nat.le_refl _) _).alloc (by first | omega | (simp;done) | (simp;omega)) _).alloc (by first | omega | (simp;done) | (simp;omega)) _,by simp⟩
theorem ZE {W:World} {B:Nat} {t:TypeId} {x:Value} (h:Boxed W B t x):∀ j u,[x][j]?=some u→W.cell? ((⟨B,0,none⟩:Addr).add j)=some u:=by
 intro j u hj
 match j,hj with
 | 0, hj =>
  simp at hj;subst hj;exact h.cell
 | j+1,hj=>simp at hj
def tL (m:Msn) (l:List Int) (k:Nat):Value:=.int .i64 (usT m l k)
def eL (m:Msn) (l:List Int) (k:Nat):Value:=.int .i64 (usE m l k)
noncomputable def usedT (m:Msn) (l:List Int):List Int:=upto (usT m l) m.ways.length
noncomputable def usedE (m:Msn) (l:List Int):List Int:=upto (usE m l) m.ways.length
set_option linter.unusedSimpArgs false in
set_option maxRecDepth 8000 in
set_option maxHeartbeats 4000000 in
theorem Z8E (m : Msn) (vw vh vr vl : Value) (l : List Int) (w : World) (hm : MsnAt w.heap.size w m vw vh vr) (hl : Z9 w.heap.size w vl l) (hV : validB m = true) (hst : stopsB m l = true) :
  Calls Tryz.prog 67 #[.agg (Zc m vw vh vr),vl] w (UsedN (usedT m l) (usedE m l) 0 w):=by
 obtain⟨t1,t2,t3,tb,tz⟩:=three w (Zc m vw vh vr) 26;have hv:=Z0p m vw vh vr _ ((hm.below tb).mono (by omega))
 rw [hV] at hv;have hv:=Lib.hid hv;have HT:=Lib.hid (And.intro t1 (And.intro t2 (And.intro t3 tb)));have HM:=Lib.hid hm;have HL:=Lib.hid hl;have HV:=Lib.hid (And.intro hV hst);have hse:=Lib.hid (fun w1 h1 h2=>Z9N m vw vh vr vl l w1 h1 h2)
 have hwy:=Lib.hid (fun b w1=>Z8C m vw vh vr b w1)
 obtain⟨⟨_,a1,cap1,rfl,_⟩,⟨_,a2,cap2,rfl,_⟩,⟨_,a3,cap3,rfl,_⟩⟩:=hm;obtain⟨_,al,capl,rfl,_⟩:=hl;have n41:=((Zs m).1 hV).n41;clear t1 t2 t3 tb tz hV hst;unfold Zc at *;refine (callsIn_wide (n:=9)).1 ?_;refine callsIn_of_wp_marks Tryz.func67 rfl trivial ?_ rfl;simp only [Tryz.ntmps67,List.size_toArray,List.length_cons,List.length_nil,Nat.reduceAdd,Nat.reduceSub,Array.replicate_succ,Array.replicate_zero,List.push_toArray,List.append_toArray,List.nil_append,List.cons_append];refine wpIn_wide.2 ?_;go_wp2_with fail;refine hv.out.mono ?_;rintro e w1 ⟨rfl,hb1⟩;obtain⟨t1,t2,t3,tb⟩:=HT.out;have H1:=t1.below (hb1.mono (by simp):Below (w.heap.size+3) _ w1) (by omega)
 have k1:=Boxed.below t2 (hb1.mono (by simp):Below (w.heap.size+3) _ w1) (by omega)
 have k2:=Boxed.below t3 (hb1.mono (by simp):Below (w.heap.size+3) _ w1) (by omega)
 have B1:=tb.trans (hb1.mono (by simp;omega))
 have z1:w.heap.size+3≤w1.heap.size:=by have:=hb1.size;simp at this;omega
 obtain⟨c0,c1,c2,c3,c4,c5,c6,c7,c8,c9,c10⟩:=Zi (m:=m) (vw:=.slice a1 m.ways.length (m.ways.length+cap1)) (vh:=.slice a2 m.home.length (m.home.length+cap2)) (vr:=.slice a3 m.rocks.length (m.rocks.length+cap3)) H1;have HK:=Lib.hid (And.intro k1 (And.intro k2 (And.intro B1 H1)));clear hb1 k1 k2 t1 t2 t3 tb B1 H1;go_wp2_with fail;refine (hse.out _ ((HM.out.1.below HK.out.2.2.1).mono HK.out.2.2.1.size) ((HL.out.below HK.out.2.2.1).mono HK.out.2.2.1.size)).mono ?_;rintro e w2 (⟨h0,_⟩ | ⟨_,bm,rfl,hS,hsz,hb2⟩)
 ·exact absurd h0 (by rw [HV.out.2];simp)
 obtain⟨k1,k2,B1,H1⟩:=HK.out;have k1:=Boxed.below k1 hb2 (by omega)
 have k2:=Boxed.below k2 hb2 (by omega)
 have H2:=H1.below hb2 H1.lt;have B2:=B1.trans (hb2.mono B1.size);have z2:w.heap.size+3≤w2.heap.size:=Nat.le_trans z1 hb2.size;clear c0 c1 c2 c3 c4 c5 c6 c7 c8 c9 c10 HK;obtain⟨c0,c1,c2,c3,c4,c5,c6,c7,c8,c9,c10⟩:=Zi (m:=m) (vw:=.slice a1 m.ways.length (m.ways.length+cap1)) (vh:=.slice a2 m.home.length (m.home.length+cap2)) (vr:=.slice a3 m.rocks.length (m.rocks.length+cap3)) H2;have HK:=Lib.hid (And.intro k1 (And.intro k2 (And.intro B2 hS)));clear hb2 k1 k2 B1 B2 H1 H2 hS hsz;go_wp2_with (go_at_call 113;refine (hwy.out _ _).mono ?_;rintro e w3 ⟨rfl,rfl⟩);generalize hW0:World.alloc (World.alloc w2 _) _=W0;have hz0:W0.heap.size=w2.heap.size+2:=by rw [← hW0];simp
 have hB0:Below w2.heap.size w2 W0:=by rw [← hW0];exact ((Below.refl _ w2).alloc (Nat.le_refl _) _).alloc (by first | omega | (simp;done) | (simp;omega)) _
 obtain⟨k1,k2,B2,hS⟩:=HK.out;have bT:=Boxed.below k1 hB0 (by omega)
 have bE:=Boxed.below k2 hB0 (by omega)
 have hBw:Below w.heap.size w W0:=B2.trans (hB0.mono (by omega))
 have bM:Has W0 w2.heap.size #[.slice a1 m.ways.length (m.ways.length+cap1),.slice a2 m.home.length (m.home.length+cap2),.int .i64 m.start,.slice a3 m.rocks.length (m.rocks.length+cap3),.int .i64 m.speed,.int .i64 m.part,.int .i64 m.flow,.int .i64 m.idle,.int .i64 m.drive,.int .i64 m.battery,.int .i64 m.deadline] 26:=by
  rw [← hW0];exact (Has.new w2 _ _).below ((Below.refl (w2.heap.size+1) _).alloc (by simp) _) (by omega)
 have bS:Boxed W0 (w2.heap.size+1) 83 (.map (some bm)):=by
  rw [← hW0];have:=Boxed.new (w2.alloc (.cells #[.slice a1 m.ways.length (m.ways.length+cap1),.slice a2 m.home.length (m.home.length+cap2),.int .i64 m.start,.slice a3 m.rocks.length (m.rocks.length+cap3),.int .i64 m.speed,.int .i64 m.part,.int .i64 m.flow,.int .i64 m.idle,.int .i64 m.drive,.int .i64 m.battery,.int .i64 m.deadline] 26)) 83 (.map (some bm))
  rwa [World.size_alloc] at this
 have hset:SetAt W0 bm l:=hS.block (hB0.block bm hS.lt);have hlt:=hset.lt;have hmW:MsnAt w.heap.size W0 m _ _ _:=HM.out.below hBw;have hbm:bm<w2.heap.size:=hS.lt;have hsb:bm≠w.heap.size+1∧bm≠w.heap.size+1+1:=by
  obtain⟨_,_,⟨es,clock,h0,_⟩,_⟩:=hS;exact⟨fun e=>(by rw [e,show w2.heap[w.heap.size+1]?=_ from k1] at h0;cases h0),fun e=>(by rw [e,show w2.heap[w.heap.size+1+1]?=_ from k2] at h0;cases h0)⟩
 clear hW0 c0 c1 c2 c3 c4 c5 c6 c7 c8 c9 c10 k1 k2 B2 hS HK;refine (wpIn_wide (n:=9)).1 ?_;refine Z1H (by omega) (gf:=132) (lb:=#[.pointer (some ⟨w2.heap.size,0,none⟩),.pointer (some ⟨w2.heap.size+1,0,none⟩)]) rfl (enters_of Tryz.func132 (by kernel_rfl) rfl)
  (Z8B 8 (by omega) (fun B b=>(b<w2.heap.size+2∧b≠w.heap.size+1∧b≠w.heap.size+1+1)∨b=B) m _ _ _ l w2.heap.size (w2.heap.size+1) bm w.heap.size W0 HV.out.1 hmW hBw.size hset bM bS (fun _=>.inr rfl) (fun _=>.inl ⟨by omega,by omega,by omega⟩) (fun _=>.inl ⟨by omega,hsb.1,hsb.2⟩) (fun _ b hb=>.inl ⟨by omega,by omega,by omega⟩))
  (fun h k=>KeepsP.trans h k) ?hKb (Below.refl _ _) (fun _=>rfl)
  (fun pre W=>(∃ v1 v2,Boxed W (w.heap.size+1) 27 v1∧Boxed W (w.heap.size+1+1) 27 v2∧W.ownsRow (w2.heap.size+5) 3 1 v1 pre.length (pre.map (tL m l))∧W.ownsRow (w2.heap.size+5) 3 1 v2 pre.length (pre.map (eL m l))∧(v1.ownBlock=none∨v1.ownBlock≠v2.ownBlock))∧Below w.heap.size w W)
  (fun _ _ _=>False) ?hI (fun _=>OwnM.pure (fun _=>False)) ⟨⟨_,_,bT,bE,World.ownsRow_nil _ _ _ _,World.ownsRow_nil _ _ _ _,.inl rfl⟩,hBw⟩
  (fun x a' W=>∃ Bc,a'={ tmps:=#[.agg #[.slice a1 m.ways.length (m.ways.length+cap1),.slice a2 m.home.length (m.home.length+cap2),.int .i64 m.start,.slice a3 m.rocks.length (m.rocks.length+cap3),.int .i64 m.speed,.int .i64 m.part,.int .i64 m.flow,.int .i64 m.idle,.int .i64 m.drive,.int .i64 m.battery,.int .i64 m.deadline],.slice al l.length (l.length+capl),.pointer (some ⟨w.heap.size,0,none⟩),undef,.pointer (some ⟨w.heap.size+1,0,none⟩),.pointer (some ⟨w.heap.size+1+1,0,none⟩),.int .i64 0,.map (some bm),.bool true,undef,.pointer (some ⟨Bc,0,none⟩),.agg #[.slice a1 m.ways.length (m.ways.length+cap1),.slice a2 m.home.length (m.home.length+cap2),.int .i64 m.start,.slice a3 m.rocks.length (m.rocks.length+cap3),.int .i64 m.speed,.int .i64 m.part,.int .i64 m.flow,.int .i64 m.idle,.int .i64 m.drive,.int .i64 m.battery,.int .i64 m.deadline],.bool true,.bool false,.tuple #[.map (some bm),.bool true],.agg #[.slice a1 m.ways.length (m.ways.length+cap1),.slice a2 m.home.length (m.home.length+cap2),.int .i64 m.start,.slice a3 m.rocks.length (m.rocks.length+cap3),.int .i64 m.speed,.int .i64 m.part,.int .i64 m.flow,.int .i64 m.idle,.int .i64 m.drive,.int .i64 m.battery,.int .i64 m.deadline],.slice al l.length (l.length+capl),.tuple #[.map (some bm),.bool true],.map (some bm),.bool true,.bool true,.bool false,.agg #[.slice a1 m.ways.length (m.ways.length+cap1),.slice a2 m.home.length (m.home.length+cap2),.int .i64 m.start,.slice a3 m.rocks.length (m.rocks.length+cap3),.int .i64 m.speed,.int .i64 m.part,.int .i64 m.flow,.int .i64 m.idle,.int .i64 m.drive,.int .i64 m.battery,.int .i64 m.deadline],.map (some bm),.func (.func 132) #[] #[.pointer (some ⟨w2.heap.size,0,none⟩),.pointer (some ⟨w2.heap.size+1,0,none⟩)],.int .i64 (x:Int),.agg #[.int .i64 (usT m l x),.int .i64 (usE m l x)],undef,undef,undef,undef,undef,undef,undef,undef,undef,undef,undef,undef],defers:=[] }∧W.heap[Bc]?=some (.cells #[tL m l x,eL m l x] 159 (0,0))∧w2.heap.size+5≤Bc)
  ?hAx ?assign ?body ?done ?stop
 case hKb=>exact fun W o o' _ _=>⟨by simp,fun b hb=>World.putObj_heap_other (by rcases hb with⟨h,_⟩ | h <;> omega)⟩
 case hI =>
  refine OwnM.and ?_ (OwnM.below w (Nat.le_refl _) (by omega) (fun r hr=>by omega))
  rintro s X Y row ⟨v1,v2,h1,h2,r1,r2,hne⟩ hg hrow;have off:∀ {b:Nat} {t:TypeId} {v:Value},Boxed X b t v→b<W0.heap.size→some b≠row:=fun {b t v} hb hlt e'=>by
   obtain⟨o,ho,hc⟩:=hrow _ e'.symm;rcases hc with⟨_,hc⟩ | ⟨hc,_⟩
   ·omega
   ·rw [show X.heap[b]?=_ from hb] at ho;cases ho;cases hc
  have offr:∀ {v:Value} {n:Nat} {xs:List Value},X.ownsRow (w2.heap.size+5) 3 1 v n xs→v.ownBlock=none∨v.ownBlock≠row:=fun {v n xs} hr=>by
   rcases hr.2 with⟨rfl,_⟩ | ⟨g,cap,cur,rfl,hbg,hgb,_⟩
   ·exact .inl rfl
   ·refine .inr fun e'=>?_
    obtain⟨o,ho,hc⟩:=hrow g (by simpa [Value.ownBlock] using e'.symm)
    rcases hc with⟨_,hc⟩ | ⟨hc,_⟩
    ·omega
    ·rw [hgb] at ho;cases ho;cases hc
  exact⟨v1,v2,h1.kept hg (off h1 (by omega)),h2.kept hg (off h2 (by omega)),r1.kept hg (offr r1),r2.kept hg (offr r2),hne⟩
 case hAx =>
  rintro x a' s X Y row ⟨Bc,rfl,hc,hBc⟩ hg hrow;refine⟨Bc,rfl,(hg.block Bc (Array.getElem?_eq_some_iff.1 hc).1 fun e'=>?_).trans hc,hBc⟩
  obtain⟨o,ho,h⟩:=hrow _ e'.symm;rcases h with⟨_,h⟩ | ⟨h,_⟩
  ·omega
  ·rw [hc] at ho;cases ho;cases h
 case assign =>
  rintro ll pre x W K hi hsz hK;have hc0:=Has.new W #[tL m l x,eL m l x] 159;obtain⟨⟨v1,v2,h1,h2,r1,r2,hne⟩,hB⟩:=hi;have hI:=Lib.hid (And.intro (⟨v1,v2,h1.alloc (.cells #[tL m l x,eL m l x] 159),h2.alloc _,r1.alloc _,r2.alloc _,hne⟩:∃ v1 v2,Boxed (W.alloc (.cells #[tL m l x,eL m l x] 159)) (w.heap.size+1) 27 v1∧Boxed (W.alloc (.cells #[tL m l x,eL m l x] 159)) (w.heap.size+1+1) 27 v2∧(W.alloc (.cells #[tL m l x,eL m l x] 159)).ownsRow (w2.heap.size+5) 3 1 v1 pre.length (pre.map (tL m l))∧(W.alloc (.cells #[tL m l x,eL m l x] 159)).ownsRow (w2.heap.size+5) 3 1 v2 pre.length (pre.map (eL m l))∧(v1.ownBlock=none∨v1.ownBlock≠v2.ownBlock)) (hB.trans (((Below.refl w.heap.size W).alloc hB.size (.cells #[tL m l x,eL m l x] 159)))));have HC:=Lib.hid hc0;clear h1 h2 r1 r2 hne hB hc0;unfold encW;gi_wp2;exact hK _ _ ((KeepsOthers.alloc W _).from _) ⟨by simp,fun b hb=>Below.heap_alloc _ _ _ (by rcases hb with⟨h,_⟩ | h <;> omega)⟩ hI.out ⟨_,rfl,HC.out,by omega⟩
 case body =>
  rintro ll pre x a' W hll ⟨r,hr⟩ ⟨⟨v1,v2,h1,h2,r1,r2,hne⟩,hB⟩ ⟨Bc,rfl,hc,hBc⟩ hlt hsz;have hn:pre.length≤100:=by omega
  have hTW:=(Two.refl r1 r2 hne).grow (X':=W.drew) ⟨rfl,rfl,rfl,Nat.le_refl _,fun _ _ _=>rfl⟩
  have hclt:=(Array.getElem?_eq_some_iff.1 hc).1;have hcr:∀ {v:Value} {n:Nat} {xs:List Value},W.ownsRow (w2.heap.size+5) 3 1 v n xs→some Bc≠v.ownBlock:=fun {v n xs} hr e'=>by
   rcases hr.2 with⟨rfl,_⟩ | ⟨g,cap,cur,rfl,_,hg,_⟩
   ·simp [Value.ownBlock] at e'
   ·obtain rfl:Bc=g:=by simpa [Value.ownBlock] using e'
    rw [hc] at hg;cases hg
  have hc1:=hcr r1;have hc2:=hcr r2;simp only [tL,eL] at hc;have SS:Hid (∀ (X:World) (u1 u2:Value) (n1 n2:Nat) (l1 l2:List Value),Two (w2.heap.size+5) 3 W X v1 v2 u1 u2 n1 n2 l1 l2→Boxed X (w.heap.size+1) 27 v1∧Boxed X (w.heap.size+1+1) 27 v2∧X.heap[Bc]?=some (.cells #[.int .i64 (usT m l x),.int .i64 (usE m l x)] 159 (0,0))):=fun X u1 u2 n1 n2 l1 l2 h =>
   ⟨(h.keep _ (by omega) (Zq r1 (by omega)) (Zq r2 (by omega))).trans h1,(h.keep _ (by omega) (Zq r1 (by omega)) (Zq r2 (by omega))).trans h2,(h.keep _ hclt hc1 hc2).trans hc⟩
  have HR:=Lib.hid (And.intro r1 (And.intro r2 (And.intro h1 (And.intro h2 hB))));have hbase:w2.heap.size+5≤W.heap.size:=by omega
  have HT:=Lib.hid hTW;obtain⟨i0,hi,hz0',hz1',hz2'⟩:=info_parts intInfo;clear r1 r2 h1 h2 hB hne hTW hc hcr hc1 hc2 hr;gi_wp2;refine Zg (ZI _ _) 10 (fun X=>Boxed X (w.heap.size+1) 27 v1∧Boxed X (w.heap.size+1+1) 27 v2∧X.heap[Bc]?=some (.cells #[.int .i64 (usT m l x),.int .i64 (usE m l x)] 159 (0,0))) (by kernel_rfl) (by kernel_rfl) (by kernel_rfl) fun hH inv0=>?_
  refine sk hH (i:=0) (v:=v1) (Zd rfl) inv0 (fun X hX=>?_) fun inv1=>?_
  ·have hx:=hX.1.cell;go_simp
  simp only [Act.put,zq4,zr4,zs4];refine sk hH (i:=1) (v:=.pointer (some ⟨Bc,0,none⟩)) (Zd rfl) inv1 (fun X hX=>?_) fun inv2=>?_
  ·go_simp
  simp only [Act.put,zq4,zr4,zs4];refine sk hH (i:=2) (v:=.int .i64 (usT m l x)) (Zd rfl) inv2 (fun X hX=>?_) fun inv3=>?_
  ·have hx:=Zk hX.2.2 (i:=0) rfl;go_simp
  simp only [Act.put,zq4,zr4,zs4];refine sk hH (i:=5) (v:=v2) (Zd rfl) inv3 (fun X hX=>?_) fun inv4=>?_
  ·have hx:=hX.2.1.cell;go_simp
  simp only [Act.put,zq4,zr4,zs4];refine sk hH (i:=6) (v:=.pointer (some ⟨Bc,1,none⟩)) (Zd rfl) inv4 (fun X hX=>?_) fun inv5=>?_
  ·go_simp
  simp only [Act.put,zq4,zr4,zs4];refine sk hH (i:=7) (v:=.int .i64 (usE m l x)) (Zd rfl) inv5 (fun X hX=>?_) fun inv6=>?_
  ·have hx:=Zk hX.2.2 (i:=1) rfl;go_simp
  simp only [Act.put,zq4,zr4,zs4];clear inv0 inv1 inv2 inv3 inv4 inv5 inv6 hH;generalize hTx:usT m l x=T at *;generalize hEx:usE m l x=E at *;generalize W.drew=X0 at *;have hT:=HT.out;clear HT;refine Zw (rs:=[3,8]) (by kernel_rfl) (by simp) (SS.out _ _ _ _ _ _ _ hT) (by simp) (fun i hi'=>?_)
  simp only [List.mem_cons,List.not_mem_nil,or_false] at hi';rcases hi' with rfl | rfl
  ·refine ZU (Zd rfl) rfl (v:=.slice (some ⟨X0.heap.size,0,none⟩) 1 1) (w':=X0.alloc (.cells #[.int .i64 T] 3)) (by go_simp) ?_
   simp only [Act.put,zq4,zr4,zs4];have b3:=Boxed.new X0 3 (.int .i64 T);have zs3:W.heap.size≤X0.heap.size:=hT.size;replace hT:=hT.alloc (.cells #[.int .i64 T] 3);generalize X0.alloc (.cells #[.int .i64 T] 3)=X1 at *;generalize X0.heap.size=s3 at *;refine Zw (rs:=[4,8]) (by kernel_rfl) (by simp) (SS.out _ _ _ _ _ _ _ hT) (by simp) (fun i hi'=>?_)
   simp only [List.mem_cons,List.not_mem_nil,or_false] at hi';rcases hi' with rfl | rfl
   ·refine ZC (Zd rfl) rfl (.tmp 27) (.tmp 30) 27 rfl (w2.heap.size+5) 3 i0 (.int .i64 0) 1 8 Tryz.underlying27 hi hz0' hz1' hz2' rfl (by decide) _ _ _ rfl hT.r1 ⟨s3,0,none⟩ 1 1 [.int .i64 T] rfl rfl (ZE b3) (by simp [Value.oneCell']) (by unfold maxLen;omega) (by omega) (Nat.le_trans hbase hT.size) ?_
    intro u1 X2 hr1 hg1 ho1;simp only [Act.put,zq4,zr4,zs4];replace hT:=hT.app1 hg1 hr1 ho1;obtain⟨g1,cp1,rfl⟩:=ownsRow_succ hr1;clear hg1 hr1 ho1 b3;refine Zw (rs:=[8]) (by kernel_rfl) (by simp) (SS.out _ _ _ _ _ _ _ hT) (by simp) (fun i hi'=>?_)
    simp only [List.mem_cons,List.not_mem_nil,or_false] at hi';subst hi';refine ZU (Zd rfl) rfl (v:=.slice (some ⟨X2.heap.size,0,none⟩) 1 1) (w':=X2.alloc (.cells #[.int .i64 E] 3)) (by go_simp) ?_
    simp only [Act.put,zq4,zr4,zs4];have b8:=Boxed.new X2 3 (.int .i64 E);have zs8:W.heap.size≤X2.heap.size:=hT.size;replace hT:=hT.alloc (.cells #[.int .i64 E] 3);generalize X2.alloc (.cells #[.int .i64 E] 3)=X3 at *;generalize X2.heap.size=s8 at *;refine Zw (rs:=[9]) (by kernel_rfl) (by simp) (SS.out _ _ _ _ _ _ _ hT) (by simp) (fun i hi'=>?_)
    simp only [List.mem_cons,List.not_mem_nil,or_false] at hi';subst hi';refine ZC (Zd rfl) rfl (.tmp 32) (.tmp 35) 27 rfl (w2.heap.size+5) 3 i0 (.int .i64 0) 1 8 Tryz.underlying27 hi hz0' hz1' hz2' rfl (by decide) _ _ _ rfl hT.r2 ⟨s8,0,none⟩ 1 1 [.int .i64 E] rfl rfl (ZE b8) (by simp [Value.oneCell']) (by unfold maxLen;omega) (by omega) (Nat.le_trans hbase hT.size) ?_
    intro u2 X4 hr2 hg2 ho2;simp only [Act.put,zq4,zr4,zs4];replace hT:=hT.app2 hg2 hr2 ho2;obtain⟨g2,cp2,rfl⟩:=ownsRow_succ hr2;clear hg2 hr2 ho2 b8;refine Zm (by kernel_rfl) (SS.out _ _ _ _ _ _ _ hT) ?_
    simp only [List.drop_succ_cons,List.drop_zero];obtain⟨r1,r2,h1,h2,hB⟩:=HR.out;obtain⟨_,⟨q3,q4⟩,⟨q5,q6⟩,q7,q8,q9⟩:=hT.store (t:=27) r1 r2 h1 h2 (by omega) (by omega) (by omega)
    obtain⟨p1,p2,_⟩:=SS.out _ _ _ _ _ _ _ hT;have x1:=p1.cell;have y1:=p1.frozen;have x2:=p2.cell;have y2:=p2.frozen;have HQ:=Lib.hid (And.intro q3 (And.intro q4 (And.intro q5 (And.intro q6 (And.intro q7 (And.intro q8 (And.intro q9 (And.intro hT.ne (And.intro r1 (And.intro r2 hB))))))))));clear q3 q4 q5 q6 q7 q8 q9 r1 r2 h1 h2 hB p1 p2 hT;gi_wp2;obtain⟨q3,q4,q5,q6,q7,q8,q9,hne,r1,r2,hB⟩:=HQ.out;refine⟨q7.from _,⟨q9.1,fun b hb=>?_⟩,⟨_,_,q3,q4,?_,?_,hne⟩,hB.trans (q8 _ (by omega) (by omega) (by omega))⟩
    ·rcases hb with⟨b1,b2,b3⟩ | b1
     ·exact q9.2 b (by omega) b2 b3 (Zq r1 (by omega)) (Zq r2 (by omega))
     ·exact q9.2 b (by omega) (by omega) (by omega) (Zq r1 (by omega)) (Zq r2 (by omega))
    ·rw [show (pre++[x]).length=pre.length+1 by simp,show (pre++[x]).map (tL m l)=pre.map (tL m l)++[.int .i64 T] by rw [← hTx];simp [tL]]
     exact q5
    ·rw [show (pre++[x]).length=pre.length+1 by simp,show (pre++[x]).map (eL m l)=pre.map (eL m l)++[.int .i64 E] by rw [← hEx];simp [eL]]
     exact q6
   ·refine ZU (Zd rfl) rfl (v:=.slice (some ⟨X1.heap.size,0,none⟩) 1 1) (w':=X1.alloc (.cells #[.int .i64 E] 3)) (by go_simp) ?_
    simp only [Act.put,zq4,zr4,zs4];have b8:=Boxed.new X1 3 (.int .i64 E);have zs8:W.heap.size≤X1.heap.size:=hT.size;have b3:=b3.alloc (.cells #[.int .i64 E] 3);replace hT:=hT.alloc (.cells #[.int .i64 E] 3);generalize X1.alloc (.cells #[.int .i64 E] 3)=X2 at *;generalize X1.heap.size=s8 at *;refine Zw (rs:=[4]) (by kernel_rfl) (by simp) (SS.out _ _ _ _ _ _ _ hT) (by simp) (fun i hi'=>?_)
    simp only [List.mem_cons,List.not_mem_nil,or_false] at hi';subst hi';refine ZC (Zd rfl) rfl (.tmp 27) (.tmp 30) 27 rfl (w2.heap.size+5) 3 i0 (.int .i64 0) 1 8 Tryz.underlying27 hi hz0' hz1' hz2' rfl (by decide) _ _ _ rfl hT.r1 ⟨s3,0,none⟩ 1 1 [.int .i64 T] rfl rfl (ZE b3) (by simp [Value.oneCell']) (by unfold maxLen;omega) (by omega) (Nat.le_trans hbase hT.size) ?_
    intro u1 X3 hr1 hg1 ho1;simp only [Act.put,zq4,zr4,zs4];have b8:=b8.kept hg1 (fun e'=>by have:=(HR.out.1.lt _ e'.symm).2;omega)
    replace hT:=hT.app1 hg1 hr1 ho1;obtain⟨g1,cp1,rfl⟩:=ownsRow_succ hr1;clear hg1 hr1 ho1 b3;refine Zw (rs:=[9]) (by kernel_rfl) (by simp) (SS.out _ _ _ _ _ _ _ hT) (by simp) (fun i hi'=>?_)
    simp only [List.mem_cons,List.not_mem_nil,or_false] at hi';subst hi';refine ZC (Zd rfl) rfl (.tmp 32) (.tmp 35) 27 rfl (w2.heap.size+5) 3 i0 (.int .i64 0) 1 8 Tryz.underlying27 hi hz0' hz1' hz2' rfl (by decide) _ _ _ rfl hT.r2 ⟨s8,0,none⟩ 1 1 [.int .i64 E] rfl rfl (ZE b8) (by simp [Value.oneCell']) (by unfold maxLen;omega) (by omega) (Nat.le_trans hbase hT.size) ?_
    intro u2 X4 hr2 hg2 ho2;simp only [Act.put,zq4,zr4,zs4];replace hT:=hT.app2 hg2 hr2 ho2;obtain⟨g2,cp2,rfl⟩:=ownsRow_succ hr2;clear hg2 hr2 ho2 b8;refine Zm (by kernel_rfl) (SS.out _ _ _ _ _ _ _ hT) ?_
    simp only [List.drop_succ_cons,List.drop_zero];obtain⟨r1,r2,h1,h2,hB⟩:=HR.out;obtain⟨_,⟨q3,q4⟩,⟨q5,q6⟩,q7,q8,q9⟩:=hT.store (t:=27) r1 r2 h1 h2 (by omega) (by omega) (by omega)
    obtain⟨p1,p2,_⟩:=SS.out _ _ _ _ _ _ _ hT;have x1:=p1.cell;have y1:=p1.frozen;have x2:=p2.cell;have y2:=p2.frozen;have HQ:=Lib.hid (And.intro q3 (And.intro q4 (And.intro q5 (And.intro q6 (And.intro q7 (And.intro q8 (And.intro q9 (And.intro hT.ne (And.intro r1 (And.intro r2 hB))))))))));clear q3 q4 q5 q6 q7 q8 q9 r1 r2 h1 h2 hB p1 p2 hT;gi_wp2;obtain⟨q3,q4,q5,q6,q7,q8,q9,hne,r1,r2,hB⟩:=HQ.out;refine⟨q7.from _,⟨q9.1,fun b hb=>?_⟩,⟨_,_,q3,q4,?_,?_,hne⟩,hB.trans (q8 _ (by omega) (by omega) (by omega))⟩
    ·rcases hb with⟨b1,b2,b3⟩ | b1
     ·exact q9.2 b (by omega) b2 b3 (Zq r1 (by omega)) (Zq r2 (by omega))
     ·exact q9.2 b (by omega) (by omega) (by omega) (Zq r1 (by omega)) (Zq r2 (by omega))
    ·rw [show (pre++[x]).length=pre.length+1 by simp,show (pre++[x]).map (tL m l)=pre.map (tL m l)++[.int .i64 T] by rw [← hTx];simp [tL]]
     exact q5
    ·rw [show (pre++[x]).length=pre.length+1 by simp,show (pre++[x]).map (eL m l)=pre.map (eL m l)++[.int .i64 E] by rw [← hEx];simp [eL]]
     exact q6
  ·refine ZU (Zd rfl) rfl (v:=.slice (some ⟨X0.heap.size,0,none⟩) 1 1) (w':=X0.alloc (.cells #[.int .i64 E] 3)) (by go_simp) ?_
   simp only [Act.put,zq4,zr4,zs4];have b8:=Boxed.new X0 3 (.int .i64 E);have zs8:W.heap.size≤X0.heap.size:=hT.size;replace hT:=hT.alloc (.cells #[.int .i64 E] 3);generalize X0.alloc (.cells #[.int .i64 E] 3)=X1 at *;generalize X0.heap.size=s8 at *;refine Zw (rs:=[3]) (by kernel_rfl) (by simp) (SS.out _ _ _ _ _ _ _ hT) (by simp) (fun i hi'=>?_)
   simp only [List.mem_cons,List.not_mem_nil,or_false] at hi';subst hi';refine ZU (Zd rfl) rfl (v:=.slice (some ⟨X1.heap.size,0,none⟩) 1 1) (w':=X1.alloc (.cells #[.int .i64 T] 3)) (by go_simp) ?_
   simp only [Act.put,zq4,zr4,zs4];have b3:=Boxed.new X1 3 (.int .i64 T);have zs3:W.heap.size≤X1.heap.size:=hT.size;have b8:=b8.alloc (.cells #[.int .i64 T] 3);replace hT:=hT.alloc (.cells #[.int .i64 T] 3);generalize X1.alloc (.cells #[.int .i64 T] 3)=X2 at *;generalize X1.heap.size=s3 at *;refine Zw (rs:=[4]) (by kernel_rfl) (by simp) (SS.out _ _ _ _ _ _ _ hT) (by simp) (fun i hi'=>?_)
   simp only [List.mem_cons,List.not_mem_nil,or_false] at hi';subst hi';refine ZC (Zd rfl) rfl (.tmp 27) (.tmp 30) 27 rfl (w2.heap.size+5) 3 i0 (.int .i64 0) 1 8 Tryz.underlying27 hi hz0' hz1' hz2' rfl (by decide) _ _ _ rfl hT.r1 ⟨s3,0,none⟩ 1 1 [.int .i64 T] rfl rfl (ZE b3) (by simp [Value.oneCell']) (by unfold maxLen;omega) (by omega) (Nat.le_trans hbase hT.size) ?_
   intro u1 X3 hr1 hg1 ho1;simp only [Act.put,zq4,zr4,zs4];have b8:=b8.kept hg1 (fun e'=>by have:=(HR.out.1.lt _ e'.symm).2;omega)
   replace hT:=hT.app1 hg1 hr1 ho1;obtain⟨g1,cp1,rfl⟩:=ownsRow_succ hr1;clear hg1 hr1 ho1 b3;refine Zw (rs:=[9]) (by kernel_rfl) (by simp) (SS.out _ _ _ _ _ _ _ hT) (by simp) (fun i hi'=>?_)
   simp only [List.mem_cons,List.not_mem_nil,or_false] at hi';subst hi';refine ZC (Zd rfl) rfl (.tmp 32) (.tmp 35) 27 rfl (w2.heap.size+5) 3 i0 (.int .i64 0) 1 8 Tryz.underlying27 hi hz0' hz1' hz2' rfl (by decide) _ _ _ rfl hT.r2 ⟨s8,0,none⟩ 1 1 [.int .i64 E] rfl rfl (ZE b8) (by simp [Value.oneCell']) (by unfold maxLen;omega) (by omega) (Nat.le_trans hbase hT.size) ?_
   intro u2 X4 hr2 hg2 ho2;simp only [Act.put,zq4,zr4,zs4];replace hT:=hT.app2 hg2 hr2 ho2;obtain⟨g2,cp2,rfl⟩:=ownsRow_succ hr2;clear hg2 hr2 ho2 b8;refine Zm (by kernel_rfl) (SS.out _ _ _ _ _ _ _ hT) ?_
   simp only [List.drop_succ_cons,List.drop_zero];obtain⟨r1,r2,h1,h2,hB⟩:=HR.out;obtain⟨_,⟨q3,q4⟩,⟨q5,q6⟩,q7,q8,q9⟩:=hT.store (t:=27) r1 r2 h1 h2 (by omega) (by omega) (by omega)
   obtain⟨p1,p2,_⟩:=SS.out _ _ _ _ _ _ _ hT;have x1:=p1.cell;have y1:=p1.frozen;have x2:=p2.cell;have y2:=p2.frozen;have HQ:=Lib.hid (And.intro q3 (And.intro q4 (And.intro q5 (And.intro q6 (And.intro q7 (And.intro q8 (And.intro q9 (And.intro hT.ne (And.intro r1 (And.intro r2 hB))))))))));clear q3 q4 q5 q6 q7 q8 q9 r1 r2 h1 h2 hB p1 p2 hT;gi_wp2;obtain⟨q3,q4,q5,q6,q7,q8,q9,hne,r1,r2,hB⟩:=HQ.out;refine⟨q7.from _,⟨q9.1,fun b hb=>?_⟩,⟨_,_,q3,q4,?_,?_,hne⟩,hB.trans (q8 _ (by omega) (by omega) (by omega))⟩
   ·rcases hb with⟨b1,b2,b3⟩ | b1
    ·exact q9.2 b (by omega) b2 b3 (Zq r1 (by omega)) (Zq r2 (by omega))
    ·exact q9.2 b (by omega) (by omega) (by omega) (Zq r1 (by omega)) (Zq r2 (by omega))
   ·rw [show (pre++[x]).length=pre.length+1 by simp,show (pre++[x]).map (tL m l)=pre.map (tL m l)++[.int .i64 T] by rw [← hTx];simp [tL]]
    exact q5
   ·rw [show (pre++[x]).length=pre.length+1 by simp,show (pre++[x]).map (eL m l)=pre.map (eL m l)++[.int .i64 E] by rw [← hEx];simp [eL]]
    exact q6
 case done =>
  rintro D ys W hD rfl ⟨⟨v1,v2,h1,h2,r1,r2,hne⟩,hB⟩ hK;have e1:(upto id m.ways.length).length=m.ways.length:=Zx _ _;have e2:(upto id m.ways.length).map (tL m l)=(usedT m l).map (Value.int .i64):=by simp [usedT,upto,tL]
  have e3:(upto id m.ways.length).map (eL m l)=(usedE m l).map (Value.int .i64):=by simp [usedE,upto,eL]
  rw [e1,e2] at r1;rw [e1,e3] at r2;have g1:(usedT m l).length≤70368744177663:=by simp [usedT,upto];omega
  have g2:(usedE m l).length≤70368744177663:=by simp [usedE,upto];omega
  obtain⟨_,av1,cv1,hv1,_⟩:=Z9.own r1 g1;obtain⟨_,av2,cv2,hv2,_⟩:=Z9.own r2 g2;subst hv1;subst hv2;have l1:=Low.fact h1.cell;have l2:=Low.fact h2.cell;have HQ:=Lib.hid (And.intro h1 (And.intro h2 (And.intro r1 (And.intro r2 (And.intro hne (And.intro hB (And.intro hK (And.intro g1 g2))))))));have hDb:=hBw.size;have hzW:=hB.size;clear h1 h2 r1 r2 hne hB hK e1 e2 e3 g1 g2;go_wp2;have hS:Hid (Boxed W (w.heap.size+1) 27 (.slice av1 (usedT m l).length ((usedT m l).length+cv1))∧Boxed W (w.heap.size+1+1) 27 (.slice av2 (usedE m l).length ((usedE m l).length+cv2))):=⟨HQ.out.1,HQ.out.2.1⟩;clear l1 l2;generalize hVa:Value.slice av1 (usedT m l).length ((usedT m l).length+cv1)=va1 at *;generalize hVb:Value.slice av2 (usedE m l).length ((usedE m l).length+cv2)=va2 at *;refine (wpIn_wide (n:=9)).1 ?_;refine Zg (Zj _) 3 (fun X=>Boxed X (w.heap.size+1) 27 va1∧Boxed X (w.heap.size+1+1) 27 va2) (by kernel_rfl) (by kernel_rfl) (by kernel_rfl) fun hH inv0=>?_
  refine sk hH (i:=0) (v:=va1) (Zd rfl) inv0 (fun X hX=>?_) fun inv1=>?_
  ·have hx:=hX.1.cell;go_simp
  simp only [Act.put,zq4,zr4,zs4];refine sk hH (i:=1) (v:=va2) (Zd rfl) inv1 (fun X hX=>?_) fun inv2=>?_
  ·have hx:=hX.2.cell;go_simp
  simp only [Act.put,zq4,zr4,zs4];clear inv0 inv1 inv2 hH;have hSw:Boxed W.drew (w.heap.size+1) 27 va1∧Boxed W.drew (w.heap.size+1+1) 27 va2:=hS.out;have hg2:W.grownBy W.drew none:=⟨rfl,rfl,rfl,Nat.le_refl _,fun _ _ _=>rfl⟩
  have hwd:Hid (Below W.heap.size W W.drew):=⟨rfl,rfl,rfl,Nat.le_refl _,fun _ _=>rfl⟩
  generalize W.drew=w5 at *;refine sa1 (r:=2) hSw ?_;have x1:=hSw.1.cell;have y1:=hSw.1.frozen;subst hVa;subst hVb;refine ZW (Zd rfl) rfl (w':=w5.setCell ⟨w.heap.size+1,0,none⟩ (.slice av1 (usedT m l).length ((usedT m l).length+cv1))) (by go_simp) ?_
  simp only [Act.put,zq4,zr4,zs4];refine Zm (by kernel_rfl) ⟨hSw.1.set _,hSw.2.other (by omega) _⟩ ?_
  simp only [List.drop_succ_cons,List.drop_zero];obtain⟨h1,h2,r1,r2,hne,hB,hK,g1,g2⟩:=HQ.out;have h1:=h1.kept hg2 (by simp)
  have h2:=h2.kept hg2 (by simp)
  have r1:=r1.kept hg2 (by cases (Value.slice av1 (usedT m l).length ((usedT m l).length+cv1)).ownBlock <;> simp)
  have r2:=r2.kept hg2 (by cases (Value.slice av2 (usedE m l).length ((usedE m l).length+cv2)).ownBlock <;> simp)
  have hK2:w5.heap[D]?=some (.deferred (some [])):=(hwd.out.block D (Array.getElem?_eq_some_iff.1 hK).1).trans hK;have hB2:Below w.heap.size w w5:=hB.trans (hwd.out.mono hB.size);obtain⟨_,⟨q3,q4⟩,⟨q5,q6⟩,q7,q8,q9⟩:=(Two.refl r1 r2 hne).store (t:=27) r1 r2 h1 h2 (by omega) (by omega) (by omega)
  have x2:=h2.cell;have y2:=h2.frozen;have HX:=Lib.hid (And.intro q3 (And.intro q4 (And.intro q5 (And.intro q6 (And.intro (q7.same D _ hK2 rfl) (And.intro (hB2.trans (q8 w.heap.size (by omega) (by omega) (by omega))) (And.intro g1 g2)))))))
  clear h1 h2 r1 r2 hne hB hK g1 g2 hg2 hK2 hB2 q3 q4 q5 q6 q7 q8 q9 HQ hSw hS hwd;gi_wp2;generalize World.setCell (World.setCell w5 _ _) _ _=F at *;go_wp2;obtain⟨q3,q4,q5,q6,hK,hB,g1,g2⟩:=HX.out;have f1:=ownsRow_putObj q5 (.deferred none) hK rfl;have f2:=ownsRow_putObj q6 (.deferred none) hK rfl;have b1:=q3.kept (grownBy_putObj' F D (.deferred none)) (fun e=>by cases e;omega)
  have b2:=q4.kept (grownBy_putObj' F D (.deferred none)) (fun e=>by cases e;omega)
  have x1:=b1.cell;have x2:=b2.cell;have I1:=Z9.own f1 g1;have I2:=Z9.own f2 g2;have hBf:Below w.heap.size w (F.putObj D (.deferred none)):=hB.grown (grownBy_putObj' F D _) hB.size (fun j e=>by cases e;omega)
  refine⟨by simp,.inl ⟨_,_,rfl,run_takeDeferred hK,?_⟩⟩
  exact⟨.tuple #[_,_,.int .i64 0],by simp [results,Tryz.f67,go_sem,x1,x2],_,_,rfl,I1,I2,hBf,fun b o n c e=>by have:=(f1.lt b (by rw [e];rfl)).1;omega,fun b o n c e=>by have:=(f2.lt b (by rw [e];rfl)).1;omega⟩
 case stop=>rintro D c pre W _ _ hf;exact hf.elim
end
def min2 (a b:Int):Int:=if b<a then b else a
def rdA (m:Msn) (l:List Int):Nat→Int
 | 0=>m.start
 | k+1=>if ((k+1:Nat):Int) ∈ l then min2 (rdA m l k+gLeg m k (k+1)) (wy m.ways (k+1)).fix else rdA m l k+gLeg m k (k+1)
def rdB (m:Msn) (l:List Int):Nat→Int
 | 0=>m.start
 | k+1=>rdA m l k+gLeg m k (k+1)
theorem Z5N (m:Msn) (l:List Int) (k:Nat):rdA m l (k+1)=if ((k+1:Nat):Int) ∈ l then min2 (rdB m l (k+1)) (wy m.ways (k+1)).fix else rdB m l (k+1):=rfl
theorem Z8L (m:Msn) (l:List Int) (k:Nat):rdB m l (k+1)=rdA m l k+gLeg m k (k+1):=rfl
theorem Z9U (a b:Int):min2 a b≤a∧min2 a b≤b∧(min2 a b=a∨min2 a b=b):=by unfold min2;split <;> omega
def sumG (m:Msn):Nat→Int
 | 0=>m.start
 | k+1=>sumG m k+gLeg m k (k+1)
theorem Z79 {m:Msn} (V:VMsn m):∀ k,k<m.ways.length→sumG m k≤grownTo m k
 | 0,_=>Int.le_refl _
 | k + 1, h => by
  have ih:=Z79 V k (by omega)
  have b:=Z0v V.ways h;have g2:=Z01 V.leg V.ways (i:=k+1) (j:=(wy m.ways (k+1)).back.toNat) h (by omega)
  simp only [sumG,grownTo];omega
theorem Z9K {m:Msn} (V:VMsn m) {k:Nat} (h:k<m.ways.length):sumG m k≤100000:=by
 have a:=Z79 V k h;have b:=Z0O V.leg V.start V.ways k (m.ways.length-1) (by omega) (by omega)
 have:=V.grown;unfold grownV at this;omega
theorem rd_bd {m:Msn} (V:VMsn m) (l:List Int):∀ k,k<m.ways.length→0≤rdB m l k∧rdB m l k≤sumG m k∧0≤rdA m l k∧rdA m l k≤sumG m k
 | 0,_=>by have:=V.start;simp only [rdB,rdA,sumG];omega
 | k + 1, h => by
  have ih:=rd_bd V l k (by omega)
  have g:=Z01 V.leg V.ways (i:=k) (j:=k+1) (by omega) h
  have wb:=ZR (Z0u V.ways h);have e:rdB m l (k+1)=rdA m l k+gLeg m k (k+1):=rfl;have e2:sumG m (k+1)=sumG m k+gLeg m k (k+1):=rfl;have h1:0≤rdB m l (k+1)∧rdB m l (k+1)≤sumG m (k+1):=by omega
  refine⟨h1.1,h1.2,?_⟩;rw [Z5N];have mn:=Z9U (rdB m l (k+1)) (wy m.ways (k+1)).fix
  split
  ·omega
  ·omega
theorem rd_le {m:Msn} (V:VMsn m) (l:List Int) {k:Nat} (h:k<m.ways.length):0≤rdB m l k∧rdB m l k≤100000∧0≤rdA m l k∧rdA m l k≤100000:=by
 have:=rd_bd V l k h;have:=Z9K V h;omega
noncomputable def radOkB (m:Msn) (l:List Int):Bool:=validB m && stopsB m l
noncomputable def rdBL (m:Msn) (l:List Int):List Int:=if radOkB m l=true then upto (rdB m l) m.ways.length else []
noncomputable def rdAL (m:Msn) (l:List Int):List Int:=if radOkB m l=true then upto (rdA m l) m.ways.length else []
noncomputable def rdE (m:Msn) (l:List Int):Int:=if radOkB m l=true then 0 else 1
section
attribute [local irreducible] wpQuiet
open Go.RowKit
def homeT (m:Msn) (a:Nat):Nat→Int
 | 0=>0
 | j+1=>homeT m a j+tLeg m (itB m a j) (itB m a (j+1))
def homeE (m:Msn) (a:Nat):Nat→Int
 | 0=>0
 | j+1=>homeE m a j+eLeg m (itB m a j) (itB m a (j+1))
theorem Z2C {m:Msn} (V:VMsn m) {a:Nat} (ha:a<m.ways.length):∀ j,j≤dep m a→0≤homeT m a j∧homeT m a j≤j*90000000∧0≤homeE m a j∧homeE m a j≤j*90900000000
 | 0,_=>by simp [homeT,homeE]
 | j + 1, h => by
  have ih:=Z2C V ha j (by omega)
  have x1:=Z0m V.ways ha (j:=j) (by omega)
  have x2:=Z0m V.ways ha h;have t:=Z3u V.leg V.ways x1 x2;have e:=Z3Q V x1 x2;simp only [homeT,homeE];omega
noncomputable def hT (m:Msn) (i:Int):Int:=if okR m i=true then homeT m i.toNat (dep m i.toNat) else 0
noncomputable def hE (m:Msn) (i:Int):Int:=if okR m i=true then homeE m i.toNat (dep m i.toNat) else 0
theorem Z12 {n0:Nat} {W:World} {v:Value} {l:List Int} {n:Nat} (h:Z9 n0 W v l) (hl:l.length=n+1):∃ b o cap,v=.slice (some ⟨b,o,none⟩) (n+1) (n+1+cap)∧b<n0∧∀ j,j<n+1→W.cell? ⟨b,o+j,none⟩=some (.int .i64 (l.getD j 0)):=by
 obtain⟨_,a,cap,rfl,hc⟩:=h;rcases hc with h0 | ⟨b,o,rfl,hb,hc⟩
 ·rw [h0] at hl;simp at hl
 ·rw [hl] at hc ⊢
  exact⟨b,o,cap,rfl,hb,hc⟩
theorem Z0I {m:Msn} {a n j:Nat} (hj:j<n+1):(intL (upto (itB m a) (n+1))).getD j 0=(itB m a j:Int):=by
 simp [intL,upto,List.getD,hj]
set_option maxRecDepth 8000 in
set_option maxHeartbeats 1600000 in
theorem Z7k (m : Msn) (vw vh vr : Value) (a : Nat) (w : World) (hm : MsnAt w.heap.size w m vw vh vr) (hV : validB m = true) (ha : a < m.ways.length) :
  Calls Tryz.prog 69 #[.agg (Zc m vw vh vr),.int .i64 a] w fun e w'=>e=.returned (.tuple #[.int .i64 (homeT m a (dep m a)),.int .i64 (homeE m a (dep m a)),.int .i64 0])∧Below w.heap.size w w':=by
 have W1:Below w.heap.size w (w.alloc (.cells (Zc m vw vh vr) 26)):=(Below.refl _ _).alloc (Nat.le_refl _) _;have hr:=Z49 m vw vh vr a _ ((hm.below W1).mono W1.size);rw [(Z1n hV ha).1,(Z1n hV ha).2] at hr;have V:=(Zs m).1 hV;have hd:=Z2I V.ways ha;have n41:=V.n41;obtain⟨n,hn⟩:∃ n,dep m a=n:=⟨_,rfl⟩;rw [hn] at hr hd ⊢;have hlen:(intL (upto (itB m a) (n+1))).length=n+1:=by simp [intL,upto]
 have hr:=Lib.hid hr;have HM:=Lib.hid hm;have HV:=Lib.hid (And.intro hV (And.intro V (And.intro hlen hn)));have H0:=Has.new w (Zc m vw vh vr) 26;have H0':=Lib.hid H0;obtain⟨⟨_,a1,cap1,rfl,_⟩,⟨_,a2,cap2,rfl,_⟩,⟨_,a3,cap3,rfl,_⟩⟩:=hm;clear hV V hlen hn W1 H0;unfold Zc at *;go_enter Tryz.func69,Tryz.ntmps69;go_wp2_with fail;refine hr.out.mono ?_;rintro e w1 ⟨v1,rfl,hI,hb1⟩;obtain⟨b2,o2,cap4,rfl,hb2',hcell⟩:=Z12 hI HV.out.2.2.1;have B1:Below w.heap.size w w1:=((Below.refl _ w).alloc (Nat.le_refl _) _).trans (hb1.mono (by simp))
 have H1:=H0'.out.below (hb1.mono (by simp):Below (w.heap.size+1) _ w1) (by omega)
 obtain⟨c0,c1,c2,c3,c4,c5,c6,c7,c8,c9,c10⟩:=Zi (m:=m) (vw:=.slice a1 m.ways.length (m.ways.length+cap1)) (vh:=.slice a2 m.home.length (m.home.length+cap2)) (vr:=.slice a3 m.rocks.length (m.rocks.length+cap3)) H1;have z1:=H1.lt;have HCL:=Lib.hid hcell;have HS:=Lib.hid (Has.new w1 (spentCells m (.slice a1 m.ways.length (m.ways.length+cap1)) (.slice a2 m.home.length (m.home.length+cap2)) (.slice a3 m.rocks.length (m.rocks.length+cap3)) 0 0) 161);clear hI hb1 hcell H1;by_cases hc4:n+1+cap4=1
 all_goals
  go_wp2;have HX:=Lib.hid (Only.of_below (b:=w1.heap.size) ((Below.refl _ w1).alloc (Nat.le_refl _) (.cells (spentCells m (.slice a1 m.ways.length (m.ways.length+cap1)) (.slice a2 m.home.length (m.home.length+cap2)) (.slice a3 m.rocks.length (m.rocks.length+cap3)) 0 0) 161)))
  go_loopw [25] (fun i wr=>∃ j:Nat,j≤n∧i=.int .i64 (j:Int)∧wr.heap[w1.heap.size]?=some (.cells (spentCells m (.slice a1 m.ways.length (m.ways.length+cap1)) (.slice a2 m.home.length (m.home.length+cap2)) (.slice a3 m.rocks.length (m.rocks.length+cap3)) (homeT m a j) (homeE m a j)) 161 (0,0))∧Only w1.heap.size w1 wr) (fun i _=>n-(intOf i).toNat)
  case atStart=>exact⟨0,by omega,rfl,HS.out,HX.out⟩
  case round =>
   obtain⟨j,hj,rfl,H,hO⟩:=hrel;have hzr:=hO.size;have BO:Below w1.heap.size w1 wr:=hO.below (Nat.le_refl _) (Nat.le_refl _);have BW:=B1.trans (BO.mono B1.size);obtain⟨hV,V,hlen,hn⟩:=HV.out;have tb:=Z2C V ha j (by omega)
   have hlt1:=(Array.getElem?_eq_some_iff.1 H).1;by_cases hlt:j<n
   ·(try (exfalso;omega))
    all_goals
     have x1:=Z0m V.ways ha (j:=j) (by omega)
     have x2:=Z0m V.ways ha (j:=j+1) (by omega)
     have f1:=HCL.out j (by omega)
     have f2:=HCL.out (j+1) (by omega)
     rw [Z0I (by omega)] at f1 f2
     have l1:=(BO.cell (p:=⟨b2,o2+j,none⟩) hb2').trans f1;have l2:=(BO.cell (p:=⟨b2,o2+(j+1),none⟩) hb2').trans f2;rw [show o2+(j+1)=o2+1+j by omega] at l2
     have hg:=Z7X w1.heap.size m (.slice a1 m.ways.length (m.ways.length+cap1)) (.slice a2 m.home.length (m.home.length+cap2)) (.slice a3 m.rocks.length (m.rocks.length+cap3)) (homeT m a j) (homeE m a j) _ _ wr H ((HM.out.below BW).mono BW.size) hV x1 x2 tb.1 (by omega) tb.2.2.1 (by omega)
     have hs:homeT m a (j+1)=homeT m a j+tLeg m (itB m a j) (itB m a (j+1))∧homeE m a (j+1)=homeE m a j+eLeg m (itB m a j) (itB m a (j+1)):=⟨rfl,rfl⟩;have hs:=Lib.hid hs;have hg:=Lib.hid hg;have HH:=Lib.hid H;have hOO:=Lib.hid hO;generalize itB m a j=p1 at *;generalize itB m a (j+1)=p2 at *;generalize homeT m a j=t0 at *;generalize homeE m a j=e0 at *;have jl:(j:Int)<(n:Int):=by omega
     have jl1:(j:Int)<(n:Int)+1:=by omega
     clear hV V hlen hn f1 f2 H hO;go_wp2_with fail;refine hg.out.mono ?_;rintro r w4 ⟨⟨v,rfl⟩,hH4,hO4⟩;have HZ:=Lib.hid (And.intro hH4 (hOO.out.trans hO4));clear hH4 hO4;go_wp2;go_roundw
     case rel=>exact⟨j+1,by omega,by go_num,by rw [hs.out.1,hs.out.2];exact HZ.out.1,HZ.out.2⟩
     case measure=>simp [intOf];omega
   ·obtain rfl:j=n:=by omega
    have c0:=Low.fact (Zk H (i:=0) rfl);have c1:=Low.fact (Zk H (i:=1) rfl);have dj:decide ((j:Int)<(j:Int))=false:=by simp
    clear hV V hlen hn H;go_wp2
    (refine Zh (by kernel_rfl) (by kernel_rfl) ?_;(iterate 9 (apply Zf;(case hw=>rfl);(case hval=>(intro w1 hw1;have hcx:=Low.cells hw1;simp only [Oper.quietAt];go_simp;first | done | rfl | exact⟨rfl,rfl⟩));simp only [Act.put,zq4,zr4,zs4]));refine wpQuiet_nil ?_;intro w2 hw2)
    go_wp2;go_ret3;exact⟨rfl,BW.trans (hw2.out.mono BW.size)⟩
end
theorem Z4f {l:List Int} {k:Nat} (hk:k<l.length):l.getD k 0 ∈ l:=by simp [List.getD,List.getElem?_eq_getElem hk]
theorem Z7j {m:Msn} {l:List Int} (h1:l.Pairwise (·<·)) (h2:∀ x ∈ l,0<x∧x<m.ways.length∧(wy m.ways x.toNat).fix≠0):stopsB m l=true:=by
 simp only [stopsB,decide_eq_true_eq];intro k hk;refine⟨?_,(h2 _ (Z4f hk)).2⟩;unfold prevS
 split
 ·exact (h2 _ (Z4f hk)).1
 ·have:=List.pairwise_iff_getElem.1 h1 (k-1) k (by omega) hk (by omega)
  simpa [List.getD,List.getElem?_eq_getElem hk,List.getElem?_eq_getElem (show k-1<l.length by omega)] using this
section
attribute [local irreducible] wpQuiet
open Go.RowKit
theorem Two.low {base:Nat} {e:TypeId} {W X:World} {v1 v2 u1 u2:Value} {n1 n2 k1 k2:Nat} {l1 l2 m1 m2:List Value} (h:Two base e W X v1 v2 u1 u2 n1 n2 l1 l2) (r1:W.ownsRow base e 1 v1 k1 m1) (r2:W.ownsRow base e 1 v2 k2 m2) (hb:base≤W.heap.size):Below base W X :=
 ⟨h.os,h.tape,h.output,h.size,fun b hlt=>h.keep b (by omega) (Zq r1 hlt) (Zq r2 hlt)⟩
theorem Z6r (va vb : Value) (a b : List Int) (w : World) (ha : Z9 w.heap.size w va a) (hb : Z9 w.heap.size w vb b) :
  Calls Tryz.prog 30 #[va,vb] w fun e w'=>e=.returned (.bool (decide (a=b)))∧Below w.heap.size w w':=by
 obtain⟨hla,aa,capa,rfl,hca⟩:=ha;obtain⟨hlb,ab,capb,rfl,hcb⟩:=hb;by_cases hl:a.length=b.length
 ·rw [← hl]
  have d0:((a.length:Int) != (a.length:Int))=false:=by simp
  have hcaH:=Lib.hid hca;have hcbH:=Lib.hid hcb;have hlH:=Lib.hid hl;clear hca hcb hl;go_enter Tryz.func30,Tryz.ntmps30;go_wp2
  go_loopw [5] (fun i wr=>∃ k:Nat,k≤a.length∧i=.int .i64 k∧(∀ j,j<k→a.getD j 0=b.getD j 0)∧Below w.heap.size w wr) (fun i _=>a.length-(intOf i).toNat)
  case atStart=>exact⟨0,by omega,rfl,fun j hj=>by omega,Below.refl _ _⟩
  case round =>
   obtain⟨k,hk,rfl,hall,hB⟩:=hrel;have hall':=Lib.hid hall;clear hall;by_cases hlt:k<a.length
   ·obtain⟨ba,oa,rfl,hba,hcA⟩:∃ b1 o1,aa=some ⟨b1,o1,none⟩∧b1<w.heap.size∧∀ j,j<a.length→w.cell? ⟨b1,o1+j,none⟩=some (.int .i64 (a.getD j 0)):=by
     rcases hcaH.out with h | h
     ·rw [h] at hlt;simp at hlt
     ·exact h
    obtain⟨bb,ob,rfl,hbb,hcB⟩:∃ b1 o1,ab=some ⟨b1,o1,none⟩∧b1<w.heap.size∧∀ j,j<b.length→w.cell? ⟨b1,o1+j,none⟩=some (.int .i64 (b.getD j 0)):=by
     rcases hcbH.out with h | h
     ·have:=hlH.out;rw [h] at this;simp at this;rw [this] at hlt;simp at hlt
     ·exact h
    have c1:=Low.fact ((hB.cell (p:=⟨ba,oa+k,none⟩) hba).trans (hcA k hlt));have c2:=Low.fact ((hB.cell (p:=⟨bb,ob+k,none⟩) hbb).trans (hcB k (by have:=hlH.out;omega)))
    have hi:(k:Int)<a.length:=by omega
    have hz:=hB.size;clear hcA hcB;by_cases he:a.getD k 0=b.getD k 0
    ·rw [← he] at c2
     have he':=Lib.hid he;clear he;generalize a.getD k 0=x at c1 c2;have dx:(x != x)=false:=by simp
     go_wp2
     (refine Zh (by kernel_rfl) (by kernel_rfl) ?_;(iterate 9 (apply Zf;(case hw=>rfl);(case hval=>(intro w1 hw1;have hcx:=Low.cells hw1;simp only [Oper.quietAt];go_simp;first | done | rfl | exact⟨rfl,rfl⟩));simp only [Act.put,zq4,zr4,zs4]));refine wpQuiet_nil ?_;intro w2 hw2)
     go_wp2;go_roundw
     case rel =>
      refine⟨k+1,by omega,by go_num,fun j hj=>?_,hB.trans (hw2.out.mono hz)⟩
      by_cases e:j=k
      ·rw [e];exact he'.out
      ·exact hall'.out j (by omega)
     case measure=>simp [intOf];omega
    ·have hne:Hid (decide (a=b)=false):=by
      show decide (a=b)=false
      simp only [decide_eq_false_iff_not];rintro rfl;exact he rfl
     generalize a.getD k 0=x at *;generalize b.getD k 0=y at *;have dx:(x != y)=true:=by simpa using he
     clear he;go_wp2
     (refine Zh (by kernel_rfl) (by kernel_rfl) ?_;(iterate 9 (apply Zf;(case hw=>rfl);(case hval=>(intro w1 hw1;have hcx:=Low.cells hw1;simp only [Oper.quietAt];go_simp;first | done | rfl | exact⟨rfl,rfl⟩));simp only [Act.put,zq4,zr4,zs4]));refine wpQuiet_nil ?_;intro w2 hw2)
     go_wp2;go_ret;exact⟨ZB hne.out.symm,hB.trans (hw2.out.mono hz)⟩
   ·have heq:Hid (decide (a=b)=true):=by
     show decide (a=b)=true
     simp only [decide_eq_true_eq];refine List.ext_getElem hlH.out fun j h1 h2=>?_
     have:=hall'.out j (by omega)
     simpa [List.getD,List.getElem?_eq_getElem h1,List.getElem?_eq_getElem h2] using this
    go_wp2;go_ret;exact⟨ZB heq.out.symm,hB⟩
 ·have hne:decide (a=b)=false:=by
   simp only [decide_eq_false_iff_not];rintro rfl;exact hl rfl
  rw [hne];have d0:((a.length:Int) != (b.length:Int))=true:=by simp;omega
  clear hca hcb hl hne;go_enter Tryz.func30,Tryz.ntmps30;go_wp2;go_ret;exact⟨rfl,zB2⟩
end
end Go.Proofs.YtdolkgihppgpcaaGreat
