/- power.Used. | The reference's stops: has, Stops. | The reference's Spent and Used. | landfallref32's SameInts and Has; landfallref03's Same. (Print .. -/
import Derived.OwnWalkIn
import Derived.Test.YtpimbaaahcemhaaGreatBin23
import Derived.Test.YtpimbaaahcemhaaGreatBin06
import Derived.Test.YtpimbaaahcemhaaGreatBin00
namespace Go.Proofs.YtpimbaaahcemhaaGreat
open Go.RowKit Go.Shelf
attribute [local go_sem] Oper.semAt_some
attribute [local irreducible] wpQuiet
def UsedQ (l1 l2:List Int) (er:Int) (w:World) (e:Ending) (w':World):Prop :=
 ∃ v1 v2,e=.returned (.tuple #[v1,v2,.int .i64 er])∧IntsAt w'.heap.size w' v1 l1∧IntsAt w'.heap.size w' v2 l2∧Below w.heap.size w w'
def UsedN (l1 l2:List Int) (er:Int) (w:World) (e:Ending) (w':World):Prop :=
 ∃ v1 v2,e=.returned (.tuple #[v1,v2,.int .i64 er])∧IntsAt w'.heap.size w' v1 l1∧IntsAt w'.heap.size w' v2 l2∧Below w.heap.size w w'∧NewI w.heap.size v1∧NewI w.heap.size v2
theorem UsedN.used {l1 l2:List Int} {er:Int} {w:World} {e:Ending} {w':World} (h:UsedN l1 l2 er w e w'):UsedQ l1 l2 er w e w':=by
 obtain⟨v1,v2,a,b,c,d,_,_⟩:=h
 exact⟨v1,v2,a,b,c,d⟩
theorem three (w:World) (cs:Array Value) (T:TypeId) :
  Has (((w.alloc (.cells cs T)).alloc (.cells #[.slice none 0 0] 27)).alloc (.cells #[.slice none 0 0] 27)) w.heap.size cs T ∧
  Boxed (((w.alloc (.cells cs T)).alloc (.cells #[.slice none 0 0] 27)).alloc (.cells #[.slice none 0 0] 27)) (w.heap.size+1) 27 (.slice none 0 0) ∧
  Boxed (((w.alloc (.cells cs T)).alloc (.cells #[.slice none 0 0] 27)).alloc (.cells #[.slice none 0 0] 27)) (w.heap.size+1+1) 27 (.slice none 0 0) ∧
  Below w.heap.size w (((w.alloc (.cells cs T)).alloc (.cells #[.slice none 0 0] 27)).alloc (.cells #[.slice none 0 0] 27)) ∧
  (((w.alloc (.cells cs T)).alloc (.cells #[.slice none 0 0] 27)).alloc (.cells #[.slice none 0 0] 27)).heap.size=w.heap.size+3:=by
 have s1:(w.alloc (.cells cs T)).heap.size=w.heap.size+1:=by simp
 have s2:((w.alloc (.cells cs T)).alloc (.cells #[.slice none 0 0] 27)).heap.size=w.heap.size+1+1:=by simp
 have h1:=Boxed.new (w.alloc (.cells cs T)) 27 (.slice none 0 0)
 have h2:=Boxed.new ((w.alloc (.cells cs T)).alloc (.cells #[.slice none 0 0] 27)) 27 (.slice none 0 0)
 rw [s1] at h1
 rw [s2] at h2
 exact⟨((Has.new w cs T).below ((Below.refl (w.heap.size+1) _).alloc (by simp) _) (by omega)).below ((Below.refl (w.heap.size+1) _).alloc (by simp) _) (by omega),h1.alloc _,h2,
  (((Below.refl _ _).alloc (Nat.le_refl _) _).alloc (by first | omega | (simp;done) | (simp;omega)) _).alloc (by first | omega | (simp;done) | (simp;omega)) _,by simp⟩
theorem cell_one_of {W:World} {B:Nat} {t:TypeId} {x:Value} (h:Boxed W B t x):∀ j u,[x][j]?=some u→W.cell? ((⟨B,0,none⟩:Addr).add j)=some u:=by
 intro j u hj
 match j,hj with
 | 0, hj =>
  simp at hj
  subst hj
  exact h.cell
 | j+1,hj=>simp at hj
def tL (m:Msn) (l:List Int) (k:Nat):Value:=.int .i64 (usT m l k)
def eL (m:Msn) (l:List Int) (k:Nat):Value:=.int .i64 (usE m l k)
noncomputable def usedT (m:Msn) (l:List Int):List Int:=upto (usT m l) m.ways.length
noncomputable def usedE (m:Msn) (l:List Int):List Int:=upto (usE m l) m.ways.length
set_option linter.unusedSimpArgs false in
set_option maxRecDepth 8000 in
set_option maxHeartbeats 4000000 in
theorem used_new (m : Msn) (vw vh vr vl : Value) (l : List Int) (w : World) (hm : MsnAt w.heap.size w m vw vh vr) (hl : IntsAt w.heap.size w vl l) (hV : validB m = true) (hst : stopsB m l = true) :
  Calls Tryz.prog 29 #[.agg (msnCells m vw vh vr),vl] w (UsedN (usedT m l) (usedE m l) 0 w):=by
 obtain⟨t1,t2,t3,tb,tz⟩:=three w (msnCells m vw vh vr) 26
 have hv:=valid_any m vw vh vr _ ((hm.below tb).mono (by omega))
 rw [hV] at hv
 have hv:=Lib.hid hv
 have HT:=Lib.hid (And.intro t1 (And.intro t2 (And.intro t3 tb)))
 have HM:=Lib.hid hm
 have HL:=Lib.hid hl
 have HV:=Lib.hid (And.intro hV hst)
 have hse:=Lib.hid (fun w1 h1 h2=>set_any m vw vh vr vl l w1 h1 h2)
 have hwy:=Lib.hid (fun b w1=>ways_any m vw vh vr b w1)
 obtain⟨⟨_,a1,cap1,rfl,_⟩,⟨_,a2,cap2,rfl,_⟩,⟨_,a3,cap3,rfl,_⟩⟩:=hm
 obtain⟨_,al,capl,rfl,_⟩:=hl
 have n41:=((validB_iff m).1 hV).n41
 clear t1 t2 t3 tb tz hV hst
 unfold msnCells at *
 refine (callsIn_wide (n:=9)).1 ?_
 refine callsIn_of_wp_marks Tryz.func29 rfl trivial ?_ rfl
 simp only [Tryz.ntmps29,List.size_toArray,List.length_cons,List.length_nil,Nat.reduceAdd,Nat.reduceSub,Array.replicate_succ,Array.replicate_zero,List.push_toArray,List.append_toArray,List.nil_append,List.cons_append]
 refine wpIn_wide.2 ?_
 go_wp2_with fail
 refine hv.out.mono ?_
 rintro e w1 ⟨rfl,hb1⟩
 obtain⟨t1,t2,t3,tb⟩:=HT.out
 have H1:=t1.below (hb1.mono (by simp):Below (w.heap.size+3) _ w1) (by omega)
 have k1:=Boxed.below t2 (hb1.mono (by simp):Below (w.heap.size+3) _ w1) (by omega)
 have k2:=Boxed.below t3 (hb1.mono (by simp):Below (w.heap.size+3) _ w1) (by omega)
 have B1:=tb.trans (hb1.mono (by simp;omega))
 have z1:w.heap.size+3≤w1.heap.size:=by have:=hb1.size;simp at this;omega
 obtain⟨c0,c1,c2,c3,c4,c5,c6,c7,c8,c9,c10⟩:=msn_cells (m:=m) (vw:=.slice a1 m.ways.length (m.ways.length+cap1)) (vh:=.slice a2 m.home.length (m.home.length+cap2)) (vr:=.slice a3 m.rocks.length (m.rocks.length+cap3)) H1
 have HK:=Lib.hid (And.intro k1 (And.intro k2 (And.intro B1 H1)))
 clear hb1 k1 k2 t1 t2 t3 tb B1 H1
 go_wp2_with fail
 refine (hse.out _ ((HM.out.1.below HK.out.2.2.1).mono HK.out.2.2.1.size) ((HL.out.below HK.out.2.2.1).mono HK.out.2.2.1.size)).mono ?_
 rintro e w2 (⟨h0,_⟩ | ⟨_,bm,rfl,hS,hsz,hb2⟩)
 ·exact absurd h0 (by rw [HV.out.2];simp)
 obtain⟨k1,k2,B1,H1⟩:=HK.out
 have k1:=Boxed.below k1 hb2 (by omega)
 have k2:=Boxed.below k2 hb2 (by omega)
 have H2:=H1.below hb2 H1.lt
 have B2:=B1.trans (hb2.mono B1.size)
 have z2:w.heap.size+3≤w2.heap.size:=Nat.le_trans z1 hb2.size
 clear c0 c1 c2 c3 c4 c5 c6 c7 c8 c9 c10 HK
 obtain⟨c0,c1,c2,c3,c4,c5,c6,c7,c8,c9,c10⟩:=msn_cells (m:=m) (vw:=.slice a1 m.ways.length (m.ways.length+cap1)) (vh:=.slice a2 m.home.length (m.home.length+cap2)) (vr:=.slice a3 m.rocks.length (m.rocks.length+cap3)) H2
 have HK:=Lib.hid (And.intro k1 (And.intro k2 (And.intro B2 hS)))
 clear hb2 k1 k2 B1 B2 H1 H2 hS hsz
 go_wp2_with (go_at_call 75;refine (hwy.out _ _).mono ?_;rintro e w3 ⟨rfl,rfl⟩)
 generalize hW0:World.alloc (World.alloc w2 _) _=W0
 have hz0:W0.heap.size=w2.heap.size+2:=by rw [← hW0];simp
 have hB0:Below w2.heap.size w2 W0:=by rw [← hW0];exact ((Below.refl _ w2).alloc (Nat.le_refl _) _).alloc (by first | omega | (simp;done) | (simp;omega)) _
 obtain⟨k1,k2,B2,hS⟩:=HK.out
 have bT:=Boxed.below k1 hB0 (by omega)
 have bE:=Boxed.below k2 hB0 (by omega)
 have hBw:Below w.heap.size w W0:=B2.trans (hB0.mono (by omega))
 have bM:Has W0 w2.heap.size #[.slice a1 m.ways.length (m.ways.length+cap1),.slice a2 m.home.length (m.home.length+cap2),.int .i64 m.start,.slice a3 m.rocks.length (m.rocks.length+cap3),.int .i64 m.speed,.int .i64 m.part,.int .i64 m.flow,.int .i64 m.idle,.int .i64 m.drive,.int .i64 m.battery,.int .i64 m.deadline] 26:=by
  rw [← hW0]
  exact (Has.new w2 _ _).below ((Below.refl (w2.heap.size+1) _).alloc (by simp) _) (by omega)
 have bS:Boxed W0 (w2.heap.size+1) 103 (.map (some bm)):=by
  rw [← hW0]
  have:=Boxed.new (w2.alloc (.cells #[.slice a1 m.ways.length (m.ways.length+cap1),.slice a2 m.home.length (m.home.length+cap2),.int .i64 m.start,.slice a3 m.rocks.length (m.rocks.length+cap3),.int .i64 m.speed,.int .i64 m.part,.int .i64 m.flow,.int .i64 m.idle,.int .i64 m.drive,.int .i64 m.battery,.int .i64 m.deadline] 26)) 103 (.map (some bm))
  rwa [World.size_alloc] at this
 have hset:SetAt W0 bm l:=hS.block (hB0.block bm hS.lt)
 have hlt:=hset.lt
 have hmW:MsnAt w.heap.size W0 m _ _ _:=HM.out.below hBw
 have hbm:bm<w2.heap.size:=hS.lt
 have hsb:bm≠w.heap.size+1∧bm≠w.heap.size+1+1:=by
  obtain⟨_,_,⟨es,clock,h0,_⟩,_⟩:=hS
  exact⟨fun e=>(by rw [e,show w2.heap[w.heap.size+1]?=_ from k1] at h0;cases h0),fun e=>(by rw [e,show w2.heap[w.heap.size+1+1]?=_ from k2] at h0;cases h0)⟩
 clear hW0 c0 c1 c2 c3 c4 c5 c6 c7 c8 c9 c10 k1 k2 B2 hS HK
 refine (wpIn_wide (n:=9)).1 ?_
 refine wpIn_range (by omega) (gf:=143) (lb:=#[.pointer (some ⟨w2.heap.size,0,none⟩),.pointer (some ⟨w2.heap.size+1,0,none⟩)]) rfl (enters_of Tryz.func143 (by kernel_rfl) rfl)
  (ways_seq 8 (by omega) (fun B b=>(b<w2.heap.size+2∧b≠w.heap.size+1∧b≠w.heap.size+1+1)∨b=B) m _ _ _ l w2.heap.size (w2.heap.size+1) bm w.heap.size W0 HV.out.1 hmW hBw.size hset bM bS (fun _=>.inr rfl) (fun _=>.inl ⟨by omega,by omega,by omega⟩) (fun _=>.inl ⟨by omega,hsb.1,hsb.2⟩) (fun _ b hb=>.inl ⟨by omega,by omega,by omega⟩))
  (fun h k=>KeepsP.trans h k) ?hKb (Below.refl _ _) (fun _=>rfl)
  (fun pre W=>(∃ v1 v2,Boxed W (w.heap.size+1) 27 v1∧Boxed W (w.heap.size+1+1) 27 v2∧W.ownsRow (w2.heap.size+5) 3 1 v1 pre.length (pre.map (tL m l))∧W.ownsRow (w2.heap.size+5) 3 1 v2 pre.length (pre.map (eL m l))∧(v1.ownBlock=none∨v1.ownBlock≠v2.ownBlock))∧Below w.heap.size w W)
  (fun _ _ _=>False) ?hI (fun _=>OwnM.pure (fun _=>False)) ⟨⟨_,_,bT,bE,World.ownsRow_nil _ _ _ _,World.ownsRow_nil _ _ _ _,.inl rfl⟩,hBw⟩
  (fun x a' W=>∃ Bc,a'={ tmps:=#[.agg #[.slice a1 m.ways.length (m.ways.length+cap1),.slice a2 m.home.length (m.home.length+cap2),.int .i64 m.start,.slice a3 m.rocks.length (m.rocks.length+cap3),.int .i64 m.speed,.int .i64 m.part,.int .i64 m.flow,.int .i64 m.idle,.int .i64 m.drive,.int .i64 m.battery,.int .i64 m.deadline],.slice al l.length (l.length+capl),.pointer (some ⟨w.heap.size,0,none⟩),undef,.pointer (some ⟨w.heap.size+1,0,none⟩),.pointer (some ⟨w.heap.size+1+1,0,none⟩),.int .i64 0,.map (some bm),.bool true,undef,.pointer (some ⟨Bc,0,none⟩),.agg #[.slice a1 m.ways.length (m.ways.length+cap1),.slice a2 m.home.length (m.home.length+cap2),.int .i64 m.start,.slice a3 m.rocks.length (m.rocks.length+cap3),.int .i64 m.speed,.int .i64 m.part,.int .i64 m.flow,.int .i64 m.idle,.int .i64 m.drive,.int .i64 m.battery,.int .i64 m.deadline],.bool true,.bool false,.tuple #[.map (some bm),.bool true],.agg #[.slice a1 m.ways.length (m.ways.length+cap1),.slice a2 m.home.length (m.home.length+cap2),.int .i64 m.start,.slice a3 m.rocks.length (m.rocks.length+cap3),.int .i64 m.speed,.int .i64 m.part,.int .i64 m.flow,.int .i64 m.idle,.int .i64 m.drive,.int .i64 m.battery,.int .i64 m.deadline],.slice al l.length (l.length+capl),.tuple #[.map (some bm),.bool true],.map (some bm),.bool true,.bool true,.bool false,.agg #[.slice a1 m.ways.length (m.ways.length+cap1),.slice a2 m.home.length (m.home.length+cap2),.int .i64 m.start,.slice a3 m.rocks.length (m.rocks.length+cap3),.int .i64 m.speed,.int .i64 m.part,.int .i64 m.flow,.int .i64 m.idle,.int .i64 m.drive,.int .i64 m.battery,.int .i64 m.deadline],.map (some bm),.func (.func 143) #[] #[.pointer (some ⟨w2.heap.size,0,none⟩),.pointer (some ⟨w2.heap.size+1,0,none⟩)],.int .i64 (x:Int),.agg #[.int .i64 (usT m l x),.int .i64 (usE m l x)],undef,undef,undef,undef,undef,undef,undef,undef,undef,undef,undef,undef],defers:=[] }∧W.heap[Bc]?=some (.cells #[tL m l x,eL m l x] 115 (0,0))∧w2.heap.size+5≤Bc)
  ?hAx ?assign ?body ?done ?stop
 case hKb=>exact fun W o o' _ _=>⟨by simp,fun b hb=>World.putObj_heap_other (by rcases hb with⟨h,_⟩ | h <;> omega)⟩
 case hI =>
  refine OwnM.and ?_ (OwnM.below w (Nat.le_refl _) (by omega) (fun r hr=>by omega))
  rintro s X Y row ⟨v1,v2,h1,h2,r1,r2,hne⟩ hg hrow
  have off:∀ {b:Nat} {t:TypeId} {v:Value},Boxed X b t v→b<W0.heap.size→some b≠row:=fun {b t v} hb hlt e'=>by
   obtain⟨o,ho,hc⟩:=hrow _ e'.symm
   rcases hc with⟨_,hc⟩ | ⟨hc,_⟩
   ·omega
   ·rw [show X.heap[b]?=_ from hb] at ho;cases ho;cases hc
  have offr:∀ {v:Value} {n:Nat} {xs:List Value},X.ownsRow (w2.heap.size+5) 3 1 v n xs→v.ownBlock=none∨v.ownBlock≠row:=fun {v n xs} hr=>by
   rcases hr.2 with⟨rfl,_⟩ | ⟨g,cap,cur,rfl,hbg,hgb,_⟩
   ·exact .inl rfl
   ·refine .inr fun e'=>?_
    obtain⟨o,ho,hc⟩:=hrow g (by simpa [Value.ownBlock] using e'.symm)
    rcases hc with⟨_,hc⟩ | ⟨hc,_⟩
    ·omega
    ·rw [hgb] at ho;cases ho;cases hc
  exact⟨v1,v2,h1.kept hg (off h1 (by omega)),h2.kept hg (off h2 (by omega)),r1.kept hg (offr r1),r2.kept hg (offr r2),hne⟩
 case hAx =>
  rintro x a' s X Y row ⟨Bc,rfl,hc,hBc⟩ hg hrow
  refine⟨Bc,rfl,(hg.block Bc (Array.getElem?_eq_some_iff.1 hc).1 fun e'=>?_).trans hc,hBc⟩
  obtain⟨o,ho,h⟩:=hrow _ e'.symm
  rcases h with⟨_,h⟩ | ⟨h,_⟩
  ·omega
  ·rw [hc] at ho;cases ho;cases h
 case assign =>
  rintro ll pre x W K hi hsz hK
  have hc0:=Has.new W #[tL m l x,eL m l x] 115
  obtain⟨⟨v1,v2,h1,h2,r1,r2,hne⟩,hB⟩:=hi
  have hI:=Lib.hid (And.intro (⟨v1,v2,h1.alloc (.cells #[tL m l x,eL m l x] 115),h2.alloc _,r1.alloc _,r2.alloc _,hne⟩:∃ v1 v2,Boxed (W.alloc (.cells #[tL m l x,eL m l x] 115)) (w.heap.size+1) 27 v1∧Boxed (W.alloc (.cells #[tL m l x,eL m l x] 115)) (w.heap.size+1+1) 27 v2∧(W.alloc (.cells #[tL m l x,eL m l x] 115)).ownsRow (w2.heap.size+5) 3 1 v1 pre.length (pre.map (tL m l))∧(W.alloc (.cells #[tL m l x,eL m l x] 115)).ownsRow (w2.heap.size+5) 3 1 v2 pre.length (pre.map (eL m l))∧(v1.ownBlock=none∨v1.ownBlock≠v2.ownBlock)) (hB.trans (((Below.refl w.heap.size W).alloc hB.size (.cells #[tL m l x,eL m l x] 115)))))
  have HC:=Lib.hid hc0
  clear h1 h2 r1 r2 hne hB hc0
  unfold encW
  gi_wp2
  exact hK _ _ ((KeepsOthers.alloc W _).from _) ⟨by simp,fun b hb=>Below.heap_alloc _ _ _ (by rcases hb with⟨h,_⟩ | h <;> omega)⟩ hI.out ⟨_,rfl,HC.out,by omega⟩
 case body =>
  rintro ll pre x a' W hll ⟨r,hr⟩ ⟨⟨v1,v2,h1,h2,r1,r2,hne⟩,hB⟩ ⟨Bc,rfl,hc,hBc⟩ hlt hsz
  have hn:pre.length≤100:=by omega
  have hTW:=(Two.refl r1 r2 hne).grow (X':=W.drew) ⟨rfl,rfl,rfl,Nat.le_refl _,fun _ _ _=>rfl⟩
  have hclt:=(Array.getElem?_eq_some_iff.1 hc).1
  have hcr:∀ {v:Value} {n:Nat} {xs:List Value},W.ownsRow (w2.heap.size+5) 3 1 v n xs→some Bc≠v.ownBlock:=fun {v n xs} hr e'=>by
   rcases hr.2 with⟨rfl,_⟩ | ⟨g,cap,cur,rfl,_,hg,_⟩
   ·simp [Value.ownBlock] at e'
   ·obtain rfl:Bc=g:=by simpa [Value.ownBlock] using e'
    rw [hc] at hg;cases hg
  have hc1:=hcr r1
  have hc2:=hcr r2
  simp only [tL,eL] at hc
  have SS:Hid (∀ (X:World) (u1 u2:Value) (n1 n2:Nat) (l1 l2:List Value),Two (w2.heap.size+5) 3 W X v1 v2 u1 u2 n1 n2 l1 l2→Boxed X (w.heap.size+1) 27 v1∧Boxed X (w.heap.size+1+1) 27 v2∧X.heap[Bc]?=some (.cells #[.int .i64 (usT m l x),.int .i64 (usE m l x)] 115 (0,0))):=fun X u1 u2 n1 n2 l1 l2 h =>
   ⟨(h.keep _ (by omega) (row_off r1 (by omega)) (row_off r2 (by omega))).trans h1,(h.keep _ (by omega) (row_off r1 (by omega)) (row_off r2 (by omega))).trans h2,(h.keep _ hclt hc1 hc2).trans hc⟩
  have HR:=Lib.hid (And.intro r1 (And.intro r2 (And.intro h1 (And.intro h2 hB))))
  have hbase:w2.heap.size+5≤W.heap.size:=by omega
  have HT:=Lib.hid hTW
  obtain⟨i0,hi,hz0',hz1',hz2'⟩:=info_parts intInfo
  clear r1 r2 h1 h2 hB hne hTW hc hcr hc1 hc2 hr
  gi_wp2
  refine wpIn_region_sched (lets_inRound _ _) 10 (fun X=>Boxed X (w.heap.size+1) 27 v1∧Boxed X (w.heap.size+1+1) 27 v2∧X.heap[Bc]?=some (.cells #[.int .i64 (usT m l x),.int .i64 (usE m l x)] 115 (0,0))) (by kernel_rfl) (by kernel_rfl) (by kernel_rfl) fun hH inv0=>?_
  refine sched_take hH (i:=0) (v:=v1) (drop_get rfl) (by omega) inv0 (by kernel_rfl) (by kernel_rfl) rfl (fun X hX=>?_) fun inv1=>?_
  ·have hx:=hX.1.cell;go_simp
  simp only [Act.put,List.setIfInBounds_toArray,List.set_cons_zero,List.set_cons_succ]
  refine sched_take hH (i:=1) (v:=.pointer (some ⟨Bc,0,none⟩)) (drop_get rfl) (by omega) inv1 (by kernel_rfl) (by kernel_rfl) rfl (fun X hX=>?_) fun inv2=>?_
  ·go_simp
  simp only [Act.put,List.setIfInBounds_toArray,List.set_cons_zero,List.set_cons_succ]
  refine sched_take hH (i:=2) (v:=.int .i64 (usT m l x)) (drop_get rfl) (by omega) inv2 (by kernel_rfl) (by kernel_rfl) rfl (fun X hX=>?_) fun inv3=>?_
  ·have hx:=cells_cell hX.2.2 (i:=0) rfl;go_simp
  simp only [Act.put,List.setIfInBounds_toArray,List.set_cons_zero,List.set_cons_succ]
  refine sched_take hH (i:=5) (v:=v2) (drop_get rfl) (by omega) inv3 (by kernel_rfl) (by kernel_rfl) rfl (fun X hX=>?_) fun inv4=>?_
  ·have hx:=hX.2.1.cell;go_simp
  simp only [Act.put,List.setIfInBounds_toArray,List.set_cons_zero,List.set_cons_succ]
  refine sched_take hH (i:=6) (v:=.pointer (some ⟨Bc,1,none⟩)) (drop_get rfl) (by omega) inv4 (by kernel_rfl) (by kernel_rfl) rfl (fun X hX=>?_) fun inv5=>?_
  ·go_simp
  simp only [Act.put,List.setIfInBounds_toArray,List.set_cons_zero,List.set_cons_succ]
  refine sched_take hH (i:=7) (v:=.int .i64 (usE m l x)) (drop_get rfl) (by omega) inv5 (by kernel_rfl) (by kernel_rfl) rfl (fun X hX=>?_) fun inv6=>?_
  ·have hx:=cells_cell hX.2.2 (i:=1) rfl;go_simp
  simp only [Act.put,List.setIfInBounds_toArray,List.set_cons_zero,List.set_cons_succ]
  clear inv0 inv1 inv2 inv3 inv4 inv5 inv6 hH
  generalize hTx:usT m l x=T at *
  generalize hEx:usE m l x=E at *
  generalize W.drew=X0 at *
  have hT:=HT.out
  clear HT
  refine sched_all (rs:=[3,8]) (by kernel_rfl) (by simp) (SS.out _ _ _ _ _ _ _ hT) (by simp) (fun i hi'=>?_)
  simp only [List.mem_cons,List.not_mem_nil,or_false] at hi'
  rcases hi' with rfl | rfl
  ·refine okOp_run (drop_get rfl) rfl (v:=.slice (some ⟨X0.heap.size,0,none⟩) 1 1) (w':=X0.alloc (.cells #[.int .i64 T] 3)) (by go_simp) ?_
   simp only [Act.put,List.setIfInBounds_toArray,List.set_cons_zero,List.set_cons_succ]
   have b3:=Boxed.new X0 3 (.int .i64 T)
   have zs3:W.heap.size≤X0.heap.size:=hT.size
   replace hT:=hT.alloc (.cells #[.int .i64 T] 3)
   generalize X0.alloc (.cells #[.int .i64 T] 3)=X1 at *
   generalize X0.heap.size=s3 at *
   refine sched_all (rs:=[4,8]) (by kernel_rfl) (by simp) (SS.out _ _ _ _ _ _ _ hT) (by simp) (fun i hi'=>?_)
   simp only [List.mem_cons,List.not_mem_nil,or_false] at hi'
   rcases hi' with rfl | rfl
   ·refine okOp_append (drop_get rfl) rfl (.tmp 27) (.tmp 30) 27 rfl (w2.heap.size+5) 3 i0 (.int .i64 0) 1 8 Tryz.underlying27 hi hz0' hz1' hz2' rfl (by decide) _ _ _ rfl hT.r1 ⟨s3,0,none⟩ 1 1 [.int .i64 T] rfl rfl (cell_one_of b3) (by simp [Value.oneCell']) (by unfold maxLen;omega) (by omega) (Nat.le_trans hbase hT.size) ?_
    intro u1 X2 hr1 hg1 ho1
    simp only [Act.put,List.setIfInBounds_toArray,List.set_cons_zero,List.set_cons_succ]
    replace hT:=hT.app1 hg1 hr1 ho1
    obtain⟨g1,cp1,rfl⟩:=ownsRow_succ hr1
    clear hg1 hr1 ho1 b3
    refine sched_all (rs:=[8]) (by kernel_rfl) (by simp) (SS.out _ _ _ _ _ _ _ hT) (by simp) (fun i hi'=>?_)
    simp only [List.mem_cons,List.not_mem_nil,or_false] at hi'
    subst hi'
    refine okOp_run (drop_get rfl) rfl (v:=.slice (some ⟨X2.heap.size,0,none⟩) 1 1) (w':=X2.alloc (.cells #[.int .i64 E] 3)) (by go_simp) ?_
    simp only [Act.put,List.setIfInBounds_toArray,List.set_cons_zero,List.set_cons_succ]
    have b8:=Boxed.new X2 3 (.int .i64 E)
    have zs8:W.heap.size≤X2.heap.size:=hT.size
    replace hT:=hT.alloc (.cells #[.int .i64 E] 3)
    generalize X2.alloc (.cells #[.int .i64 E] 3)=X3 at *
    generalize X2.heap.size=s8 at *
    refine sched_all (rs:=[9]) (by kernel_rfl) (by simp) (SS.out _ _ _ _ _ _ _ hT) (by simp) (fun i hi'=>?_)
    simp only [List.mem_cons,List.not_mem_nil,or_false] at hi'
    subst hi'
    refine okOp_append (drop_get rfl) rfl (.tmp 32) (.tmp 35) 27 rfl (w2.heap.size+5) 3 i0 (.int .i64 0) 1 8 Tryz.underlying27 hi hz0' hz1' hz2' rfl (by decide) _ _ _ rfl hT.r2 ⟨s8,0,none⟩ 1 1 [.int .i64 E] rfl rfl (cell_one_of b8) (by simp [Value.oneCell']) (by unfold maxLen;omega) (by omega) (Nat.le_trans hbase hT.size) ?_
    intro u2 X4 hr2 hg2 ho2
    simp only [Act.put,List.setIfInBounds_toArray,List.set_cons_zero,List.set_cons_succ]
    replace hT:=hT.app2 hg2 hr2 ho2
    obtain⟨g2,cp2,rfl⟩:=ownsRow_succ hr2
    clear hg2 hr2 ho2 b8
    refine sched_done (by kernel_rfl) (SS.out _ _ _ _ _ _ _ hT) ?_
    simp only [List.drop_succ_cons,List.drop_zero]
    obtain⟨r1,r2,h1,h2,hB⟩:=HR.out
    obtain⟨_,⟨q3,q4⟩,⟨q5,q6⟩,q7,q8,q9⟩:=hT.store (t:=27) r1 r2 h1 h2 (by omega) (by omega) (by omega)
    obtain⟨p1,p2,_⟩:=SS.out _ _ _ _ _ _ _ hT
    have x1:=p1.cell
    have y1:=p1.frozen
    have x2:=p2.cell
    have y2:=p2.frozen
    have HQ:=Lib.hid (And.intro q3 (And.intro q4 (And.intro q5 (And.intro q6 (And.intro q7 (And.intro q8 (And.intro q9 (And.intro hT.ne (And.intro r1 (And.intro r2 hB))))))))))
    clear q3 q4 q5 q6 q7 q8 q9 r1 r2 h1 h2 hB p1 p2 hT
    gi_wp2
    obtain⟨q3,q4,q5,q6,q7,q8,q9,hne,r1,r2,hB⟩:=HQ.out
    refine⟨q7.from _,⟨q9.1,fun b hb=>?_⟩,⟨_,_,q3,q4,?_,?_,hne⟩,hB.trans (q8 _ (by omega) (by omega) (by omega))⟩
    ·rcases hb with⟨b1,b2,b3⟩ | b1
     ·exact q9.2 b (by omega) b2 b3 (row_off r1 (by omega)) (row_off r2 (by omega))
     ·exact q9.2 b (by omega) (by omega) (by omega) (row_off r1 (by omega)) (row_off r2 (by omega))
    ·rw [show (pre++[x]).length=pre.length+1 by simp,show (pre++[x]).map (tL m l)=pre.map (tL m l)++[.int .i64 T] by rw [← hTx];simp [tL]]
     exact q5
    ·rw [show (pre++[x]).length=pre.length+1 by simp,show (pre++[x]).map (eL m l)=pre.map (eL m l)++[.int .i64 E] by rw [← hEx];simp [eL]]
     exact q6
   ·refine okOp_run (drop_get rfl) rfl (v:=.slice (some ⟨X1.heap.size,0,none⟩) 1 1) (w':=X1.alloc (.cells #[.int .i64 E] 3)) (by go_simp) ?_
    simp only [Act.put,List.setIfInBounds_toArray,List.set_cons_zero,List.set_cons_succ]
    have b8:=Boxed.new X1 3 (.int .i64 E)
    have zs8:W.heap.size≤X1.heap.size:=hT.size
    have b3:=b3.alloc (.cells #[.int .i64 E] 3)
    replace hT:=hT.alloc (.cells #[.int .i64 E] 3)
    generalize X1.alloc (.cells #[.int .i64 E] 3)=X2 at *
    generalize X1.heap.size=s8 at *
    refine sched_all (rs:=[4]) (by kernel_rfl) (by simp) (SS.out _ _ _ _ _ _ _ hT) (by simp) (fun i hi'=>?_)
    simp only [List.mem_cons,List.not_mem_nil,or_false] at hi'
    subst hi'
    refine okOp_append (drop_get rfl) rfl (.tmp 27) (.tmp 30) 27 rfl (w2.heap.size+5) 3 i0 (.int .i64 0) 1 8 Tryz.underlying27 hi hz0' hz1' hz2' rfl (by decide) _ _ _ rfl hT.r1 ⟨s3,0,none⟩ 1 1 [.int .i64 T] rfl rfl (cell_one_of b3) (by simp [Value.oneCell']) (by unfold maxLen;omega) (by omega) (Nat.le_trans hbase hT.size) ?_
    intro u1 X3 hr1 hg1 ho1
    simp only [Act.put,List.setIfInBounds_toArray,List.set_cons_zero,List.set_cons_succ]
    have b8:=b8.kept hg1 (fun e'=>by have:=(HR.out.1.lt _ e'.symm).2;omega)
    replace hT:=hT.app1 hg1 hr1 ho1
    obtain⟨g1,cp1,rfl⟩:=ownsRow_succ hr1
    clear hg1 hr1 ho1 b3
    refine sched_all (rs:=[9]) (by kernel_rfl) (by simp) (SS.out _ _ _ _ _ _ _ hT) (by simp) (fun i hi'=>?_)
    simp only [List.mem_cons,List.not_mem_nil,or_false] at hi'
    subst hi'
    refine okOp_append (drop_get rfl) rfl (.tmp 32) (.tmp 35) 27 rfl (w2.heap.size+5) 3 i0 (.int .i64 0) 1 8 Tryz.underlying27 hi hz0' hz1' hz2' rfl (by decide) _ _ _ rfl hT.r2 ⟨s8,0,none⟩ 1 1 [.int .i64 E] rfl rfl (cell_one_of b8) (by simp [Value.oneCell']) (by unfold maxLen;omega) (by omega) (Nat.le_trans hbase hT.size) ?_
    intro u2 X4 hr2 hg2 ho2
    simp only [Act.put,List.setIfInBounds_toArray,List.set_cons_zero,List.set_cons_succ]
    replace hT:=hT.app2 hg2 hr2 ho2
    obtain⟨g2,cp2,rfl⟩:=ownsRow_succ hr2
    clear hg2 hr2 ho2 b8
    refine sched_done (by kernel_rfl) (SS.out _ _ _ _ _ _ _ hT) ?_
    simp only [List.drop_succ_cons,List.drop_zero]
    obtain⟨r1,r2,h1,h2,hB⟩:=HR.out
    obtain⟨_,⟨q3,q4⟩,⟨q5,q6⟩,q7,q8,q9⟩:=hT.store (t:=27) r1 r2 h1 h2 (by omega) (by omega) (by omega)
    obtain⟨p1,p2,_⟩:=SS.out _ _ _ _ _ _ _ hT
    have x1:=p1.cell
    have y1:=p1.frozen
    have x2:=p2.cell
    have y2:=p2.frozen
    have HQ:=Lib.hid (And.intro q3 (And.intro q4 (And.intro q5 (And.intro q6 (And.intro q7 (And.intro q8 (And.intro q9 (And.intro hT.ne (And.intro r1 (And.intro r2 hB))))))))))
    clear q3 q4 q5 q6 q7 q8 q9 r1 r2 h1 h2 hB p1 p2 hT
    gi_wp2
    obtain⟨q3,q4,q5,q6,q7,q8,q9,hne,r1,r2,hB⟩:=HQ.out
    refine⟨q7.from _,⟨q9.1,fun b hb=>?_⟩,⟨_,_,q3,q4,?_,?_,hne⟩,hB.trans (q8 _ (by omega) (by omega) (by omega))⟩
    ·rcases hb with⟨b1,b2,b3⟩ | b1
     ·exact q9.2 b (by omega) b2 b3 (row_off r1 (by omega)) (row_off r2 (by omega))
     ·exact q9.2 b (by omega) (by omega) (by omega) (row_off r1 (by omega)) (row_off r2 (by omega))
    ·rw [show (pre++[x]).length=pre.length+1 by simp,show (pre++[x]).map (tL m l)=pre.map (tL m l)++[.int .i64 T] by rw [← hTx];simp [tL]]
     exact q5
    ·rw [show (pre++[x]).length=pre.length+1 by simp,show (pre++[x]).map (eL m l)=pre.map (eL m l)++[.int .i64 E] by rw [← hEx];simp [eL]]
     exact q6
  ·refine okOp_run (drop_get rfl) rfl (v:=.slice (some ⟨X0.heap.size,0,none⟩) 1 1) (w':=X0.alloc (.cells #[.int .i64 E] 3)) (by go_simp) ?_
   simp only [Act.put,List.setIfInBounds_toArray,List.set_cons_zero,List.set_cons_succ]
   have b8:=Boxed.new X0 3 (.int .i64 E)
   have zs8:W.heap.size≤X0.heap.size:=hT.size
   replace hT:=hT.alloc (.cells #[.int .i64 E] 3)
   generalize X0.alloc (.cells #[.int .i64 E] 3)=X1 at *
   generalize X0.heap.size=s8 at *
   refine sched_all (rs:=[3]) (by kernel_rfl) (by simp) (SS.out _ _ _ _ _ _ _ hT) (by simp) (fun i hi'=>?_)
   simp only [List.mem_cons,List.not_mem_nil,or_false] at hi'
   subst hi'
   refine okOp_run (drop_get rfl) rfl (v:=.slice (some ⟨X1.heap.size,0,none⟩) 1 1) (w':=X1.alloc (.cells #[.int .i64 T] 3)) (by go_simp) ?_
   simp only [Act.put,List.setIfInBounds_toArray,List.set_cons_zero,List.set_cons_succ]
   have b3:=Boxed.new X1 3 (.int .i64 T)
   have zs3:W.heap.size≤X1.heap.size:=hT.size
   have b8:=b8.alloc (.cells #[.int .i64 T] 3)
   replace hT:=hT.alloc (.cells #[.int .i64 T] 3)
   generalize X1.alloc (.cells #[.int .i64 T] 3)=X2 at *
   generalize X1.heap.size=s3 at *
   refine sched_all (rs:=[4]) (by kernel_rfl) (by simp) (SS.out _ _ _ _ _ _ _ hT) (by simp) (fun i hi'=>?_)
   simp only [List.mem_cons,List.not_mem_nil,or_false] at hi'
   subst hi'
   refine okOp_append (drop_get rfl) rfl (.tmp 27) (.tmp 30) 27 rfl (w2.heap.size+5) 3 i0 (.int .i64 0) 1 8 Tryz.underlying27 hi hz0' hz1' hz2' rfl (by decide) _ _ _ rfl hT.r1 ⟨s3,0,none⟩ 1 1 [.int .i64 T] rfl rfl (cell_one_of b3) (by simp [Value.oneCell']) (by unfold maxLen;omega) (by omega) (Nat.le_trans hbase hT.size) ?_
   intro u1 X3 hr1 hg1 ho1
   simp only [Act.put,List.setIfInBounds_toArray,List.set_cons_zero,List.set_cons_succ]
   have b8:=b8.kept hg1 (fun e'=>by have:=(HR.out.1.lt _ e'.symm).2;omega)
   replace hT:=hT.app1 hg1 hr1 ho1
   obtain⟨g1,cp1,rfl⟩:=ownsRow_succ hr1
   clear hg1 hr1 ho1 b3
   refine sched_all (rs:=[9]) (by kernel_rfl) (by simp) (SS.out _ _ _ _ _ _ _ hT) (by simp) (fun i hi'=>?_)
   simp only [List.mem_cons,List.not_mem_nil,or_false] at hi'
   subst hi'
   refine okOp_append (drop_get rfl) rfl (.tmp 32) (.tmp 35) 27 rfl (w2.heap.size+5) 3 i0 (.int .i64 0) 1 8 Tryz.underlying27 hi hz0' hz1' hz2' rfl (by decide) _ _ _ rfl hT.r2 ⟨s8,0,none⟩ 1 1 [.int .i64 E] rfl rfl (cell_one_of b8) (by simp [Value.oneCell']) (by unfold maxLen;omega) (by omega) (Nat.le_trans hbase hT.size) ?_
   intro u2 X4 hr2 hg2 ho2
   simp only [Act.put,List.setIfInBounds_toArray,List.set_cons_zero,List.set_cons_succ]
   replace hT:=hT.app2 hg2 hr2 ho2
   obtain⟨g2,cp2,rfl⟩:=ownsRow_succ hr2
   clear hg2 hr2 ho2 b8
   refine sched_done (by kernel_rfl) (SS.out _ _ _ _ _ _ _ hT) ?_
   simp only [List.drop_succ_cons,List.drop_zero]
   obtain⟨r1,r2,h1,h2,hB⟩:=HR.out
   obtain⟨_,⟨q3,q4⟩,⟨q5,q6⟩,q7,q8,q9⟩:=hT.store (t:=27) r1 r2 h1 h2 (by omega) (by omega) (by omega)
   obtain⟨p1,p2,_⟩:=SS.out _ _ _ _ _ _ _ hT
   have x1:=p1.cell
   have y1:=p1.frozen
   have x2:=p2.cell
   have y2:=p2.frozen
   have HQ:=Lib.hid (And.intro q3 (And.intro q4 (And.intro q5 (And.intro q6 (And.intro q7 (And.intro q8 (And.intro q9 (And.intro hT.ne (And.intro r1 (And.intro r2 hB))))))))))
   clear q3 q4 q5 q6 q7 q8 q9 r1 r2 h1 h2 hB p1 p2 hT
   gi_wp2
   obtain⟨q3,q4,q5,q6,q7,q8,q9,hne,r1,r2,hB⟩:=HQ.out
   refine⟨q7.from _,⟨q9.1,fun b hb=>?_⟩,⟨_,_,q3,q4,?_,?_,hne⟩,hB.trans (q8 _ (by omega) (by omega) (by omega))⟩
   ·rcases hb with⟨b1,b2,b3⟩ | b1
    ·exact q9.2 b (by omega) b2 b3 (row_off r1 (by omega)) (row_off r2 (by omega))
    ·exact q9.2 b (by omega) (by omega) (by omega) (row_off r1 (by omega)) (row_off r2 (by omega))
   ·rw [show (pre++[x]).length=pre.length+1 by simp,show (pre++[x]).map (tL m l)=pre.map (tL m l)++[.int .i64 T] by rw [← hTx];simp [tL]]
    exact q5
   ·rw [show (pre++[x]).length=pre.length+1 by simp,show (pre++[x]).map (eL m l)=pre.map (eL m l)++[.int .i64 E] by rw [← hEx];simp [eL]]
    exact q6
 case done =>
  rintro D ys W hD rfl ⟨⟨v1,v2,h1,h2,r1,r2,hne⟩,hB⟩ hK
  have e1:(upto id m.ways.length).length=m.ways.length:=upto_length _ _
  have e2:(upto id m.ways.length).map (tL m l)=(usedT m l).map (Value.int .i64):=by simp [usedT,upto,tL]
  have e3:(upto id m.ways.length).map (eL m l)=(usedE m l).map (Value.int .i64):=by simp [usedE,upto,eL]
  rw [e1,e2] at r1
  rw [e1,e3] at r2
  have g1:(usedT m l).length≤70368744177663:=by simp [usedT,upto];omega
  have g2:(usedE m l).length≤70368744177663:=by simp [usedE,upto];omega
  obtain⟨_,av1,cv1,hv1,_⟩:=IntsAt.own r1 g1
  obtain⟨_,av2,cv2,hv2,_⟩:=IntsAt.own r2 g2
  subst hv1
  subst hv2
  have l1:=Low.fact h1.cell
  have l2:=Low.fact h2.cell
  have HQ:=Lib.hid (And.intro h1 (And.intro h2 (And.intro r1 (And.intro r2 (And.intro hne (And.intro hB (And.intro hK (And.intro g1 g2))))))))
  have hDb:=hBw.size
  have hzW:=hB.size
  clear h1 h2 r1 r2 hne hB hK e1 e2 e3 g1 g2
  go_wp2
  have hS:Hid (Boxed W (w.heap.size+1) 27 (.slice av1 (usedT m l).length ((usedT m l).length+cv1))∧Boxed W (w.heap.size+1+1) 27 (.slice av2 (usedE m l).length ((usedE m l).length+cv2))):=⟨HQ.out.1,HQ.out.2.1⟩
  clear l1 l2
  generalize hVa:Value.slice av1 (usedT m l).length ((usedT m l).length+cv1)=va1 at *
  generalize hVb:Value.slice av2 (usedE m l).length ((usedE m l).length+cv2)=va2 at *
  refine (wpIn_wide (n:=9)).1 ?_
  refine wpIn_region_sched (lets_wide _) 3 (fun X=>Boxed X (w.heap.size+1) 27 va1∧Boxed X (w.heap.size+1+1) 27 va2) (by kernel_rfl) (by kernel_rfl) (by kernel_rfl) fun hH inv0=>?_
  refine sched_take hH (i:=0) (v:=va1) (drop_get rfl) (by omega) inv0 (by kernel_rfl) (by kernel_rfl) rfl (fun X hX=>?_) fun inv1=>?_
  ·have hx:=hX.1.cell;go_simp
  simp only [Act.put,List.setIfInBounds_toArray,List.set_cons_zero,List.set_cons_succ]
  refine sched_take hH (i:=1) (v:=va2) (drop_get rfl) (by omega) inv1 (by kernel_rfl) (by kernel_rfl) rfl (fun X hX=>?_) fun inv2=>?_
  ·have hx:=hX.2.cell;go_simp
  simp only [Act.put,List.setIfInBounds_toArray,List.set_cons_zero,List.set_cons_succ]
  clear inv0 inv1 inv2 hH
  have hSw:Boxed W.drew (w.heap.size+1) 27 va1∧Boxed W.drew (w.heap.size+1+1) 27 va2:=hS.out
  have hg2:W.grownBy W.drew none:=⟨rfl,rfl,rfl,Nat.le_refl _,fun _ _ _=>rfl⟩
  have hwd:Hid (Below W.heap.size W W.drew):=⟨rfl,rfl,rfl,Nat.le_refl _,fun _ _=>rfl⟩
  generalize W.drew=w5 at *
  refine sched_all (rs:=[2]) (by kernel_rfl) (by simp) hSw (by simp) (fun i hi'=>?_)
  simp only [List.mem_cons,List.not_mem_nil,or_false] at hi'
  subst hi'
  have x1:=hSw.1.cell
  have y1:=hSw.1.frozen
  subst hVa
  subst hVb
  refine okOp_pass (drop_get rfl) rfl (w':=w5.setCell ⟨w.heap.size+1,0,none⟩ (.slice av1 (usedT m l).length ((usedT m l).length+cv1))) (by go_simp) ?_
  simp only [Act.put,List.setIfInBounds_toArray,List.set_cons_zero,List.set_cons_succ]
  refine sched_done (by kernel_rfl) ⟨hSw.1.set _,hSw.2.other (by omega) _⟩ ?_
  simp only [List.drop_succ_cons,List.drop_zero]
  obtain⟨h1,h2,r1,r2,hne,hB,hK,g1,g2⟩:=HQ.out
  have h1:=h1.kept hg2 (by simp)
  have h2:=h2.kept hg2 (by simp)
  have r1:=r1.kept hg2 (by cases (Value.slice av1 (usedT m l).length ((usedT m l).length+cv1)).ownBlock <;> simp)
  have r2:=r2.kept hg2 (by cases (Value.slice av2 (usedE m l).length ((usedE m l).length+cv2)).ownBlock <;> simp)
  have hK2:w5.heap[D]?=some (.deferred (some [])):=(hwd.out.block D (Array.getElem?_eq_some_iff.1 hK).1).trans hK
  have hB2:Below w.heap.size w w5:=hB.trans (hwd.out.mono hB.size)
  obtain⟨_,⟨q3,q4⟩,⟨q5,q6⟩,q7,q8,q9⟩:=(Two.refl r1 r2 hne).store (t:=27) r1 r2 h1 h2 (by omega) (by omega) (by omega)
  have x2:=h2.cell
  have y2:=h2.frozen
  have HX:=Lib.hid (And.intro q3 (And.intro q4 (And.intro q5 (And.intro q6 (And.intro (q7.same D _ hK2 rfl) (And.intro (hB2.trans (q8 w.heap.size (by omega) (by omega) (by omega))) (And.intro g1 g2)))))))
  clear h1 h2 r1 r2 hne hB hK g1 g2 hg2 hK2 hB2 q3 q4 q5 q6 q7 q8 q9 HQ hSw hS hwd
  gi_wp2
  generalize World.setCell (World.setCell w5 _ _) _ _=F at *
  go_wp2
  obtain⟨q3,q4,q5,q6,hK,hB,g1,g2⟩:=HX.out
  have f1:=ownsRow_putObj q5 (.deferred none) hK rfl
  have f2:=ownsRow_putObj q6 (.deferred none) hK rfl
  have b1:=q3.kept (grownBy_putObj' F D (.deferred none)) (fun e=>by cases e;omega)
  have b2:=q4.kept (grownBy_putObj' F D (.deferred none)) (fun e=>by cases e;omega)
  have x1:=b1.cell
  have x2:=b2.cell
  have I1:=IntsAt.own f1 g1
  have I2:=IntsAt.own f2 g2
  have hBf:Below w.heap.size w (F.putObj D (.deferred none)):=hB.grown (grownBy_putObj' F D _) hB.size (fun j e=>by cases e;omega)
  refine⟨by simp,.inl ⟨_,_,rfl,run_takeDeferred hK,?_⟩⟩
  exact⟨.tuple #[_,_,.int .i64 0],by simp [results,Tryz.f29,go_sem,x1,x2],_,_,rfl,I1,I2,hBf,fun b o n c e=>by have:=(f1.lt b (by rw [e];rfl)).1;omega,fun b o n c e=>by have:=(f2.lt b (by rw [e];rfl)).1;omega⟩
 case stop=>rintro D c pre W _ _ hf;exact hf.elim
end Go.Proofs.YtpimbaaahcemhaaGreat
namespace Go.Proofs.YtpimbaaahcemhaaGreat
open Go.RowKit
attribute [local irreducible] wpQuiet
end Go.Proofs.YtpimbaaahcemhaaGreat
namespace Go.Proofs.YtpimbaaahcemhaaGreat
open Go.RowKit
attribute [local irreducible] wpQuiet
theorem Two.low {base:Nat} {e:TypeId} {W X:World} {v1 v2 u1 u2:Value} {n1 n2 k1 k2:Nat} {l1 l2 m1 m2:List Value} (h:Two base e W X v1 v2 u1 u2 n1 n2 l1 l2) (r1:W.ownsRow base e 1 v1 k1 m1) (r2:W.ownsRow base e 1 v2 k2 m2) (hb:base≤W.heap.size):Below base W X :=
 ⟨h.os,h.tape,h.output,h.size,fun b hlt=>h.keep b (by omega) (row_off r1 hlt) (row_off r2 hlt)⟩
end Go.Proofs.YtpimbaaahcemhaaGreat
namespace Go.Proofs.YtpimbaaahcemhaaGreat
open Go.RowKit
attribute [local irreducible] wpQuiet
theorem same32_any (va vb : Value) (a b : List Int) (w : World) (ha : IntsAt w.heap.size w va a) (hb : IntsAt w.heap.size w vb b) :
  Calls Tryz.prog 39 #[va,vb] w fun e w'=>e=.returned (.bool (decide (a=b)))∧Below w.heap.size w w':=by
 obtain⟨hla,aa,capa,rfl,hca⟩:=ha
 obtain⟨hlb,ab,capb,rfl,hcb⟩:=hb
 by_cases hl:a.length=b.length
 ·rw [← hl]
  have d0:((a.length:Int) != (a.length:Int))=false:=by simp
  have hcaH:=Lib.hid hca
  have hcbH:=Lib.hid hcb
  have hlH:=Lib.hid hl
  clear hca hcb hl
  go_enter Tryz.func39,Tryz.ntmps39
  go_wp2
  go_loopw [5] (fun i wr=>∃ k:Nat,k≤a.length∧i=.int .i64 k∧(∀ j,j<k→a.getD j 0=b.getD j 0)∧Below w.heap.size w wr) (fun i _=>a.length - (intOf i).toNat)
  case atStart=>exact⟨0,by omega,rfl,fun j hj=>by omega,Below.refl _ _⟩
  case round =>
   obtain⟨k,hk,rfl,hall,hB⟩:=hrel
   have hall':=Lib.hid hall
   clear hall
   by_cases hlt:k<a.length
   ·obtain⟨ba,oa,rfl,hba,hcA⟩:∃ b1 o1,aa=some ⟨b1,o1,none⟩∧b1<w.heap.size∧∀ j,j<a.length→w.cell? ⟨b1,o1+j,none⟩=some (.int .i64 (a.getD j 0)):=by
     rcases hcaH.out with h | h
     ·rw [h] at hlt;simp at hlt
     ·exact h
    obtain⟨bb,ob,rfl,hbb,hcB⟩:∃ b1 o1,ab=some ⟨b1,o1,none⟩∧b1<w.heap.size∧∀ j,j<b.length→w.cell? ⟨b1,o1+j,none⟩=some (.int .i64 (b.getD j 0)):=by
     rcases hcbH.out with h | h
     ·have:=hlH.out;rw [h] at this;simp at this;rw [this] at hlt;simp at hlt
     ·exact h
    have c1:=Low.fact ((hB.cell (p:=⟨ba,oa+k,none⟩) hba).trans (hcA k hlt))
    have c2:=Low.fact ((hB.cell (p:=⟨bb,ob+k,none⟩) hbb).trans (hcB k (by have:=hlH.out;omega)))
    have hi:(k:Int)<a.length:=by omega
    have hz:=hB.size
    clear hcA hcB
    by_cases he:a.getD k 0=b.getD k 0
    ·rw [← he] at c2
     have he':=Lib.hid he
     clear he
     generalize a.getD k 0=x at c1 c2
     have dx:(x != x)=false:=by simp
     go_wp2
     (refine wp_region_low (by kernel_rfl) (by kernel_rfl) ?_;(iterate 9 (apply quiet_want;(case hw=>rfl);(case hval=>(intro w1 hw1;have hcx:=Low.cells hw1;simp only [Oper.quietAt];go_simp;first | done | (first | fail) | rfl | exact⟨rfl,rfl⟩));simp only [Act.put,List.setIfInBounds_toArray,List.set_cons_zero,List.set_cons_succ]));refine wpQuiet_nil ?_;intro w2 hw2)
     go_wp2
     go_roundw
     case rel =>
      refine⟨k+1,by omega,by go_num,fun j hj=>?_,hB.trans (hw2.out.mono hz)⟩
      by_cases e:j=k
      ·rw [e];exact he'.out
      ·exact hall'.out j (by omega)
     case measure=>simp [intOf];omega
    ·have hne:Hid (decide (a=b)=false):=by
      show decide (a=b)=false
      simp only [decide_eq_false_iff_not]
      rintro rfl
      exact he rfl
     generalize a.getD k 0=x at *
     generalize b.getD k 0=y at *
     have dx:(x != y)=true:=by simpa using he
     clear he
     go_wp2
     (refine wp_region_low (by kernel_rfl) (by kernel_rfl) ?_;(iterate 9 (apply quiet_want;(case hw=>rfl);(case hval=>(intro w1 hw1;have hcx:=Low.cells hw1;simp only [Oper.quietAt];go_simp;first | done | (first | fail) | rfl | exact⟨rfl,rfl⟩));simp only [Act.put,List.setIfInBounds_toArray,List.set_cons_zero,List.set_cons_succ]));refine wpQuiet_nil ?_;intro w2 hw2)
     go_wp2
     go_ret
     exact⟨ret_bool hne.out.symm,hB.trans (hw2.out.mono hz)⟩
   ·have heq:Hid (decide (a=b)=true):=by
     show decide (a=b)=true
     simp only [decide_eq_true_eq]
     refine List.ext_getElem hlH.out fun j h1 h2=>?_
     have:=hall'.out j (by omega)
     simpa [List.getD,List.getElem?_eq_getElem h1,List.getElem?_eq_getElem h2] using this
    go_wp2
    go_ret
    exact⟨ret_bool heq.out.symm,hB⟩
 ·have hne:decide (a=b)=false:=by
   simp only [decide_eq_false_iff_not]
   rintro rfl
   exact hl rfl
  rw [hne]
  have d0:((a.length:Int) != (b.length:Int))=true:=by simp;omega
  clear hca hcb hl hne
  go_enter Tryz.func39,Tryz.ntmps39
  go_wp2
  go_ret
  exact⟨rfl,by repeat (first | exact Below.refl _ _ | assumption | apply Below.drew | refine Below.setCell ?_ (by first | omega | (simp;done) | (simp;omega)) _ | refine Below.alloc ?_ (by first | omega | (simp;done) | (simp;omega)) _ | refine Below.call (by assumption) ?_ (by first | omega | (simp;done) | (simp;omega)))⟩
theorem samepts_any (va vb : Value) (a b : List Pt) (w : World) (ha : PtsAt w.heap.size w va a) (hb : PtsAt w.heap.size w vb b) :
  Calls Tryz.prog 40 #[va,vb] w fun e w'=>e=.returned (.bool (decide (a=b)))∧Below w.heap.size w w':=by
 obtain⟨hla,aa,capa,rfl,hca⟩:=ha
 obtain⟨hlb,ab,capb,rfl,hcb⟩:=hb
 by_cases hl:a.length=b.length
 ·rw [← hl]
  have d0:((a.length:Int) != (a.length:Int))=false:=by simp
  have hcaH:=Lib.hid hca
  have hcbH:=Lib.hid hcb
  have hlH:=Lib.hid hl
  clear hca hcb hl
  go_enter Tryz.func40,Tryz.ntmps40
  go_wp2
  go_loopw [5] (fun i wr=>∃ k:Nat,k≤a.length∧i=.int .i64 k∧(∀ j,j<k→nth a j=nth b j)∧Below w.heap.size w wr) (fun i _=>a.length - (intOf i).toNat)
  case atStart=>exact⟨0,by omega,rfl,fun j hj=>by omega,Below.refl _ _⟩
  case round =>
   obtain⟨k,hk,rfl,hall,hB⟩:=hrel
   have hall':=Lib.hid hall
   clear hall
   by_cases hlt:k<a.length
   ·obtain⟨ba,oa,rfl,hba,hcA⟩:∃ b1 o1,aa=some ⟨b1,o1,none⟩∧b1<w.heap.size∧∀ j,j<a.length→w.cell? ⟨b1,o1+j*2,none⟩=some (.int .i64 (nth a j).x)∧w.cell? ⟨b1,o1+j*2+1,none⟩=some (.int .i64 (nth a j).y):=by
     rcases hcaH.out with h | h
     ·rw [h] at hlt;simp at hlt
     ·exact h
    obtain⟨bb,ob,rfl,hbb,hcB⟩:∃ b1 o1,ab=some ⟨b1,o1,none⟩∧b1<w.heap.size∧∀ j,j<b.length→w.cell? ⟨b1,o1+j*2,none⟩=some (.int .i64 (nth b j).x)∧w.cell? ⟨b1,o1+j*2+1,none⟩=some (.int .i64 (nth b j).y):=by
     rcases hcbH.out with h | h
     ·have:=hlH.out;rw [h] at this;simp at this;rw [this] at hlt;simp at hlt
     ·exact h
    obtain⟨s1,s2⟩:=hcA k hlt
    obtain⟨s3,s4⟩:=hcB k (by have:=hlH.out;omega)
    have c1:=Low.fact ((hB.cell (p:=⟨ba,oa+k*2,none⟩) hba).trans s1)
    have c2:=Low.fact ((hB.cell (p:=⟨ba,oa+k*2+1,none⟩) hba).trans s2)
    have c3:=Low.fact ((hB.cell (p:=⟨bb,ob+k*2,none⟩) hbb).trans s3)
    have c4:=Low.fact ((hB.cell (p:=⟨bb,ob+k*2+1,none⟩) hbb).trans s4)
    have hi:(k:Int)<a.length:=by omega
    have hz:=hB.size
    clear hcA hcB s1 s2 s3 s4
    by_cases he:nth a k=nth b k
    ·rw [← he] at c3 c4
     have he':=Lib.hid he
     clear he
     generalize (nth a k).x=x at c1 c3
     generalize (nth a k).y=y at c2 c4
     go_wp2
     (refine wp_region_low (by kernel_rfl) (by kernel_rfl) ?_;(iterate 9 (apply quiet_want;(case hw=>rfl);(case hval=>(intro w1 hw1;have hcx:=Low.cells hw1;simp only [Oper.quietAt];go_simp;first | done | (first | fail) | rfl | exact⟨rfl,rfl⟩));simp only [Act.put,List.setIfInBounds_toArray,List.set_cons_zero,List.set_cons_succ]));refine wpQuiet_nil ?_;intro w2 hw2)
     go_wp2
     go_roundw
     case rel =>
      refine⟨k+1,by omega,by go_num,fun j hj=>?_,hB.trans (hw2.out.mono hz)⟩
      by_cases e:j=k
      ·rw [e];exact he'.out
      ·exact hall'.out j (by omega)
     case measure=>simp [intOf];omega
    ·have hne:Hid (decide (a=b)=false):=by
      show decide (a=b)=false
      simp only [decide_eq_false_iff_not]
      rintro rfl
      exact he rfl
     have hxy:¬ (nth a k).x=(nth b k).x∨((nth a k).x=(nth b k).x∧¬ (nth a k).y=(nth b k).y):=by
      by_cases h1:(nth a k).x=(nth b k).x
      ·exact .inr ⟨h1,fun h2=>he (Pt.ext' h1 h2)⟩
      ·exact .inl h1
     clear he
     generalize (nth a k).x=x at *
     generalize (nth a k).y=y at *
     generalize (nth b k).x=x' at *
     generalize (nth b k).y=y' at *
     rcases hxy with h1 | ⟨h1,h2⟩
     ·have h1':¬ x'=x:=fun e=>h1 e.symm
      go_wp2
      (refine wp_region_low (by kernel_rfl) (by kernel_rfl) ?_;(iterate 9 (apply quiet_want;(case hw=>rfl);(case hval=>(intro w1 hw1;have hcx:=Low.cells hw1;simp only [Oper.quietAt];go_simp;first | done | (first | fail) | rfl | exact⟨rfl,rfl⟩));simp only [Act.put,List.setIfInBounds_toArray,List.set_cons_zero,List.set_cons_succ]));refine wpQuiet_nil ?_;intro w2 hw2)
      go_wp2
      go_ret
      exact⟨ret_bool hne.out.symm,hB.trans (hw2.out.mono hz)⟩
     ·subst h1
      have h2':¬ y'=y:=fun e=>h2 e.symm
      go_wp2
      (refine wp_region_low (by kernel_rfl) (by kernel_rfl) ?_;(iterate 9 (apply quiet_want;(case hw=>rfl);(case hval=>(intro w1 hw1;have hcx:=Low.cells hw1;simp only [Oper.quietAt];go_simp;first | done | (first | fail) | rfl | exact⟨rfl,rfl⟩));simp only [Act.put,List.setIfInBounds_toArray,List.set_cons_zero,List.set_cons_succ]));refine wpQuiet_nil ?_;intro w2 hw2)
      go_wp2
      go_ret
      exact⟨ret_bool hne.out.symm,hB.trans (hw2.out.mono hz)⟩
   ·have heq:Hid (decide (a=b)=true):=by
     show decide (a=b)=true
     simp only [decide_eq_true_eq]
     exact ext_nth hlH.out fun j h1=>hall'.out j (by omega)
    go_wp2
    go_ret
    exact⟨ret_bool heq.out.symm,hB⟩
 ·have hne:decide (a=b)=false:=by
   simp only [decide_eq_false_iff_not]
   rintro rfl
   exact hl rfl
  rw [hne]
  have d0:((a.length:Int) != (b.length:Int))=true:=by simp;omega
  clear hca hcb hl hne
  go_enter Tryz.func40,Tryz.ntmps40
  go_wp2
  go_ret
  exact⟨rfl,by repeat (first | exact Below.refl _ _ | assumption | apply Below.drew | refine Below.setCell ?_ (by first | omega | (simp;done) | (simp;omega)) _ | refine Below.alloc ?_ (by first | omega | (simp;done) | (simp;omega)) _ | refine Below.call (by assumption) ?_ (by first | omega | (simp;done) | (simp;omega)))⟩
end Go.Proofs.YtpimbaaahcemhaaGreat
namespace Go.Proofs.YtpimbaaahcemhaaGreat
open Go.RowKit
attribute [local irreducible] wpQuiet
set_option linter.unusedSimpArgs false in
set_option maxRecDepth 8000 in
set_option maxHeartbeats 2400000 in
theorem rstops32_any (m : Msn) (vw vh vr vl : Value) (l : List Int) (w : World) (hfx : ∀ k, k < m.ways.length → 0 ≤ (wy m.ways k).fix) (hw : WaysAt w.heap.size w vw m.ways) (hl : IntsAt w.heap.size w vl l) :
  Calls Tryz.prog 56 #[.agg (msnCells m vw vh vr),vl] w fun e w'=>e=.returned (.bool (stopsB m l))∧Below w.heap.size w w':=by
 obtain⟨hll,al,capl,rfl,hlc⟩:=hl
 obtain⟨hwl,aw,capw,rfl,hwc⟩:=hw
 have H0:=Has.new w (msnCells m (.slice aw m.ways.length (m.ways.length+capw)) vh vr) 26
 have H0':=Lib.hid H0
 have hlH:=Lib.hid hlc
 have hwH:=Lib.hid hwc
 have HFX:=Lib.hid hfx
 clear hlc hwc H0 hfx
 unfold msnCells at *
 go_enter Tryz.func56,Tryz.ntmps56
 go_wp2
 go_loopw [5] (fun i wr=>∃ k:Nat,k≤l.length∧i=.int .i64 k∧(∀ j,j<k→stopOk m l j)∧Has wr w.heap.size (msnCells m (.slice aw m.ways.length (m.ways.length+capw)) vh vr) 26∧Below w.heap.size w wr) (fun i _=>l.length - (intOf i).toNat)
 case atStart=>exact⟨0,by omega,rfl,fun j hj=>by omega,H0'.out,(Below.refl _ _).alloc (Nat.le_refl _) _⟩
 case round =>
  obtain⟨k,hk,rfl,hall,H,hB⟩:=hrel
  have hzr:=hB.size
  have hlt1:=H.lt
  have hall':=Lib.hid hall
  have HH:=Lib.hid H
  have BB:=Lib.hid hB
  have hp:=prevS_nonneg hall k (Nat.le_refl _)
  by_cases hlt:k<l.length
  ·obtain ⟨bl, ol, rfl, hbl, hcl⟩ : ∃ b1 o1, al = some ⟨b1, o1, none⟩ ∧ b1 < w.heap.size ∧ ∀ j, j < l.length → w.cell? ⟨b1, o1 + j, none⟩ = some (.int .i64 (l.getD j 0)) := by
    rcases hlH.out with h | h
    ·rw [h] at hlt;simp at hlt
    ·exact h
   have f1:=Low.fact ((hB.cell (p:=⟨bl,ol+k,none⟩) hbl).trans (hcl k hlt))
   have cc:=Low.fact (show wr.cell? ⟨w.heap.size,0,none⟩=some (.slice aw m.ways.length (m.ways.length+capw)) from H.cell (i:=0) rfl)
   have HC:=Lib.hid hcl
   have hok:stopOk m l k↔prevS l k<l.getD k 0∧l.getD k 0<m.ways.length∧(wy m.ways (l.getD k 0).toNat).fix≠0:=Iff.rfl
   have hpv:∀ j,k=j+1→prevS l k=l.getD j 0:=fun j e=>by subst e;simp [prevS]
   have hp0:k=0→prevS l k=0:=fun e=>by subst e;simp [prevS]
   clear hcl hall H hB
   obtain⟨s,hs⟩:∃ s,l.getD k 0=s:=⟨_,rfl⟩
   rw [hs] at f1 hok
   have HO:=Lib.hid (And.intro hok (And.intro hpv (And.intro hp0 hs)))
   clear hok hpv hp0 hs
   have kl:(k:Int)<l.length:=by omega
   have k0:(0:Int)≤k:=by omega
   have dk:decide ((k:Int)<(l.length:Int))=true:=by rw [decide_eq_true_eq];omega
   by_cases h1:s<1
   ·have hno:Hid (stopsB m l=false):=stopsB_no hlt (fun h=>by have:=(HO.out.1.1 h).1;omega)
    have d1:decide (s<1)=true:=by simpa using h1
    clear h1
    go_wp2
    (refine wp_region_low (by kernel_rfl) (by kernel_rfl) ?_;(iterate 6 (apply quiet_want;(case hw=>rfl);(case hval=>(intro w1 hw1;have hcx:=Low.cells hw1;simp only [Oper.quietAt];go_simp;first | done | (first | fail) | rfl | exact⟨rfl,rfl⟩));simp only [Act.put,List.setIfInBounds_toArray,List.set_cons_zero,List.set_cons_succ]));(iterate 8 (apply quiet_skip;(case hw=>rfl);simp only [Act.put,List.setIfInBounds_toArray,List.set_cons_zero,List.set_cons_succ]));(iterate 2 (apply quiet_want;(case hw=>rfl);(case hval=>(intro w1 hw1;have hcx:=Low.cells hw1;simp only [Oper.quietAt];go_simp;first | done | (first | fail) | rfl | exact⟨rfl,rfl⟩));simp only [Act.put,List.setIfInBounds_toArray,List.set_cons_zero,List.set_cons_succ]));(iterate 14 (apply quiet_skip;(case hw=>rfl);simp only [Act.put,List.setIfInBounds_toArray,List.set_cons_zero,List.set_cons_succ]));(iterate 1 (apply quiet_want;(case hw=>rfl);(case hval=>(intro w1 hw1;have hcx:=Low.cells hw1;simp only [Oper.quietAt];go_simp;first | done | (first | fail) | rfl | exact⟨rfl,rfl⟩));simp only [Act.put,List.setIfInBounds_toArray,List.set_cons_zero,List.set_cons_succ]));refine wpQuiet_nil ?_;intro w2 hw2)
    go_wp2
    go_ret
    exact⟨by rw [hno.out];rfl,BB.out.trans (hw2.out.mono BB.out.size)⟩
   ·have d1 : decide (s < 1) = false := by simpa using h1
    by_cases h2:s<m.ways.length
    ·have d2 : decide ((m.ways.length : Int) ≤ s) = false := by simp; omega
     obtain⟨q,rfl⟩:∃ q:Nat,s=q:=⟨s.toNat,by omega⟩
     obtain⟨bw,ow,rfl,hbw,hcw⟩:∃ b o,aw=some ⟨b,o,none⟩∧b<w.heap.size∧∀ j,j<m.ways.length→w.cell? ⟨b,o+j*5,none⟩=some (.int .i64 (wy m.ways j).x)∧w.cell? ⟨b,o+j*5+1,none⟩=some (.int .i64 (wy m.ways j).y)∧w.cell? ⟨b,o+j*5+2,none⟩=some (.int .i64 (wy m.ways j).fix)∧w.cell? ⟨b,o+j*5+3,none⟩=some (.int .i64 (wy m.ways j).wait)∧w.cell? ⟨b,o+j*5+4,none⟩=some (.int .i64 (wy m.ways j).back):=by
      rcases hwH.out with h | h
      ·rw [h] at h2;simp at h2;omega
      ·exact h
     have hql:q<m.ways.length:=by omega
     have d2n:decide (m.ways.length≤q)=false:=by simp;omega
     have d2m:¬ m.ways.length≤q:=by omega
     have HW2:=Lib.hid ((BB.out.cell (p:=⟨bw,ow+q*5+2,none⟩) hbw).trans (hcw q hql).2.2.1)
     have F1:=Lib.hid ((BB.out.cell (p:=⟨bl,ol+k,none⟩) hbl).trans ((HC.out k hlt).trans (by rw [HO.out.2.2.2])))
     have HOk:=HO.out.1
     rw [Int.toNat_natCast] at HOk
     have HOK:=Lib.hid HOk
     have q0:(0:Int)≤(q:Int):=by omega
     have hf0:=HFX.out q hql
     clear hcw HOk
     obtain⟨fx,hfx⟩:∃ fx,(wy m.ways q).fix=fx:=⟨_,rfl⟩
     rw [hfx] at hf0
     have HFV:=Lib.hid hfx
     clear hfx
     cases k with
     | zero =>
      have d4:decide ((0:Int)>0)=false:=by decide
      have hpz:Hid (prevS l 0<(q:Int)):=by show _<_;simp only [prevS,if_true];omega
      simp only [Int.natCast_zero,Nat.add_zero] at *
      go_wp2
      (refine wp_region_low (by kernel_rfl) (by kernel_rfl) ?_;(iterate 19 (apply quiet_want;(case hw=>rfl);(case hval=>(intro w1 hw1;have hcx:=Low.cells hw1;simp only [Oper.quietAt];go_simp;first | done | (first | fail) | rfl | exact⟨rfl,rfl⟩));simp only [Act.put,List.setIfInBounds_toArray,List.set_cons_zero,List.set_cons_succ]));(iterate 10 (apply quiet_skip;(case hw=>rfl);simp only [Act.put,List.setIfInBounds_toArray,List.set_cons_zero,List.set_cons_succ]));(iterate 2 (apply quiet_want;(case hw=>rfl);(case hval=>(intro w1 hw1;have hcx:=Low.cells hw1;simp only [Oper.quietAt];go_simp;first | done | (first | fail) | rfl | exact⟨rfl,rfl⟩));simp only [Act.put,List.setIfInBounds_toArray,List.set_cons_zero,List.set_cons_succ]));refine wpQuiet_nil ?_;intro w2 hw2)
      clear f1 cc
      have BW:=Lib.hid hw2.out
      have H2:=HH.out.below hw2.out hlt1
      have HH2:=Lib.hid H2
      have g1:=Low.fact (hw2.cell F1.out)
      have gc:=Low.fact (show w2.cell? ⟨w.heap.size,0,none⟩=some (.slice (some ⟨bw,ow,none⟩) m.ways.length (m.ways.length+capw)) from H2.cell (i:=0) rfl)
      have gw:=Low.fact ((hw2.cell HW2.out).trans (by rw [HFV.out]))
      clear H2 hw2 d1 d2
      obtain⟨wa,rfl⟩:∃ wa,wa=w2:=⟨_,rfl⟩
      have hza:=BW.out.size
      by_cases h3:fx=0
      ·have hno:Hid (stopsB m l=false):=stopsB_no hlt (fun h=>(HOK.out.1 h).2.2 (HFV.out.trans h3))
       subst h3
       go_wp2
       (refine wp_region_low (by kernel_rfl) (by kernel_rfl) ?_;(iterate 10 (apply quiet_want;(case hw=>rfl);(case hval=>(intro w1 hw1;have hcx:=Low.cells hw1;simp only [Oper.quietAt];go_simp;first | done | (first | fail) | rfl | exact⟨rfl,rfl⟩));simp only [Act.put,List.setIfInBounds_toArray,List.set_cons_zero,List.set_cons_succ]));refine wpQuiet_nil ?_;intro w2 hw2)
       go_wp2
       go_ret
       exact⟨by rw [hno.out];rfl,BB.out.trans ((BW.out.trans (hw2.out.mono BW.out.size)).mono BB.out.size)⟩
      ·have d3:decide (fx<1)=false:=by simp;omega
       have h3':Hid ((wy m.ways q).fix≠0):=by show _≠_;rw [HFV.out];exact h3
       clear h3
       go_wp2
       (refine wp_region_low (by kernel_rfl) (by kernel_rfl) ?_;(iterate 10 (apply quiet_want;(case hw=>rfl);(case hval=>(intro w1 hw1;have hcx:=Low.cells hw1;simp only [Oper.quietAt];go_simp;first | done | (first | fail) | rfl | exact⟨rfl,rfl⟩));simp only [Act.put,List.setIfInBounds_toArray,List.set_cons_zero,List.set_cons_succ]));refine wpQuiet_nil ?_;intro w2 hw2)
       go_wp2
       go_roundw
       case rel =>
        refine⟨0+1,by omega,by go_num,fun i hi=>?_,HH2.out.below (hw2.out.mono (by omega)) (by omega),BB.out.trans ((BW.out.trans (hw2.out.mono BW.out.size)).mono BB.out.size)⟩
        by_cases e:i=0
        ·rw [e]
         exact HOK.out.2 ⟨hpz.out,h2,h3'.out⟩
        ·exact hall'.out i (by omega)
       case measure=>simp [intOf];omega
     | succ j =>
      have F2:=Low.fact ((BB.out.cell (p:=⟨bl,ol+j,none⟩) hbl).trans (HC.out j (by omega)))
      have hpj:=HO.out.2.1 j rfl
      obtain⟨pv,hpv⟩:∃ pv,l.getD j 0=pv:=⟨_,rfl⟩
      rw [hpv] at F2 hpj
      have HPJ:=Lib.hid hpj
      clear hpv hpj
      have j1:(j:Int)<l.length:=by omega
      have j2:(j:Int)+1<l.length:=by omega
      have j3:(0:Int)≤(j:Int)+1:=by omega
      have j4:(0:Int)≤(j:Int):=by omega
      have j5:IntKind.i64.wrap (j:Int)=j:=IntWalk.i64_in _ (by omega)
      have d4:decide ((j:Int)+1>0)=true:=by rw [decide_eq_true_eq];omega
      by_cases h5:(q:Int)≤pv
      ·have hno:Hid (stopsB m l=false):=stopsB_no hlt (fun h=>by have:=(HOK.out.1 h).1;rw [HPJ.out] at this;omega)
       have d5:decide ((q:Int)≤pv)=true:=by simpa using h5
       clear h5
       go_wp2
       (refine wp_region_low (by kernel_rfl) (by kernel_rfl) ?_;(iterate 31 (apply quiet_want;(case hw=>rfl);(case hval=>(intro w1 hw1;have hcx:=Low.cells hw1;simp only [Oper.quietAt];go_simp;first | done | (first | fail) | rfl | exact⟨rfl,rfl⟩));simp only [Act.put,List.setIfInBounds_toArray,List.set_cons_zero,List.set_cons_succ]));refine wpQuiet_nil ?_;intro w2 hw2)
       go_wp2
       go_ret
       exact⟨by rw [hno.out];rfl,BB.out.trans (hw2.out.mono BB.out.size)⟩
      ·have d5:decide ((q:Int)≤pv)=false:=by simpa using h5
       have h5':Hid (pv<(q:Int)):=by show _<_;omega
       clear h5
       go_wp2
       (refine wp_region_low (by kernel_rfl) (by kernel_rfl) ?_;(iterate 31 (apply quiet_want;(case hw=>rfl);(case hval=>(intro w1 hw1;have hcx:=Low.cells hw1;simp only [Oper.quietAt];go_simp;first | done | (first | fail) | rfl | exact⟨rfl,rfl⟩));simp only [Act.put,List.setIfInBounds_toArray,List.set_cons_zero,List.set_cons_succ]));refine wpQuiet_nil ?_;intro w2 hw2)
       clear f1 cc F2
       have BW:=Lib.hid hw2.out
       have H2:=HH.out.below hw2.out hlt1
       have HH2:=Lib.hid H2
       have g1:=Low.fact (hw2.cell F1.out)
       have gc:=Low.fact (show w2.cell? ⟨w.heap.size,0,none⟩=some (.slice (some ⟨bw,ow,none⟩) m.ways.length (m.ways.length+capw)) from H2.cell (i:=0) rfl)
       have gw:=Low.fact ((hw2.cell HW2.out).trans (by rw [HFV.out]))
       clear H2 hw2 d1 d2
       obtain⟨wa,rfl⟩:∃ wa,wa=w2:=⟨_,rfl⟩
       have hza:=BW.out.size
       by_cases h3:fx=0
       ·have hno:Hid (stopsB m l=false):=stopsB_no hlt (fun h=>(HOK.out.1 h).2.2 (HFV.out.trans h3))
        subst h3
        go_wp2
        (refine wp_region_low (by kernel_rfl) (by kernel_rfl) ?_;(iterate 10 (apply quiet_want;(case hw=>rfl);(case hval=>(intro w1 hw1;have hcx:=Low.cells hw1;simp only [Oper.quietAt];go_simp;first | done | (first | fail) | rfl | exact⟨rfl,rfl⟩));simp only [Act.put,List.setIfInBounds_toArray,List.set_cons_zero,List.set_cons_succ]));refine wpQuiet_nil ?_;intro w2 hw2)
        go_wp2
        go_ret
        exact⟨by rw [hno.out];rfl,BB.out.trans ((BW.out.trans (hw2.out.mono BW.out.size)).mono BB.out.size)⟩
       ·have d3:decide (fx<1)=false:=by simp;omega
        have h3':Hid ((wy m.ways q).fix≠0):=by show _≠_;rw [HFV.out];exact h3
        clear h3
        go_wp2
        (refine wp_region_low (by kernel_rfl) (by kernel_rfl) ?_;(iterate 10 (apply quiet_want;(case hw=>rfl);(case hval=>(intro w1 hw1;have hcx:=Low.cells hw1;simp only [Oper.quietAt];go_simp;first | done | (first | fail) | rfl | exact⟨rfl,rfl⟩));simp only [Act.put,List.setIfInBounds_toArray,List.set_cons_zero,List.set_cons_succ]));refine wpQuiet_nil ?_;intro w2 hw2)
        go_wp2
        go_roundw
        case rel =>
         refine⟨(j+1)+1,by omega,by go_num,fun i hi=>?_,HH2.out.below (hw2.out.mono (by omega)) (by omega),BB.out.trans ((BW.out.trans (hw2.out.mono BW.out.size)).mono BB.out.size)⟩
         by_cases e:i=(j+1)
         ·rw [e]
          exact HOK.out.2 ⟨by rw [HPJ.out];exact h5'.out,h2,h3'.out⟩
         ·exact hall'.out i (by omega)
        case measure=>simp [intOf];omega
    ·have hno:Hid (stopsB m l=false):=stopsB_no hlt (fun h=>h2 (HO.out.1.1 h).2.1)
     have d2:decide ((m.ways.length:Int)≤s)=true:=by simp;omega
     go_wp2
     (refine wp_region_low (by kernel_rfl) (by kernel_rfl) ?_;(iterate 16 (apply quiet_want;(case hw=>rfl);(case hval=>(intro w1 hw1;have hcx:=Low.cells hw1;simp only [Oper.quietAt];go_simp;first | done | (first | fail) | rfl | exact⟨rfl,rfl⟩));simp only [Act.put,List.setIfInBounds_toArray,List.set_cons_zero,List.set_cons_succ]));(iterate 14 (apply quiet_skip;(case hw=>rfl);simp only [Act.put,List.setIfInBounds_toArray,List.set_cons_zero,List.set_cons_succ]));(iterate 1 (apply quiet_want;(case hw=>rfl);(case hval=>(intro w1 hw1;have hcx:=Low.cells hw1;simp only [Oper.quietAt];go_simp;first | done | (first | fail) | rfl | exact⟨rfl,rfl⟩));simp only [Act.put,List.setIfInBounds_toArray,List.set_cons_zero,List.set_cons_succ]));refine wpQuiet_nil ?_;intro w2 hw2)
     go_wp2
     go_ret
     exact⟨by rw [hno.out];rfl,BB.out.trans (hw2.out.mono BB.out.size)⟩
  ·obtain rfl:k=l.length:=by omega
   have hyes:Hid (stopsB m l=true):=by
    show stopsB m l=true
    simp only [stopsB,decide_eq_true_eq]
    exact hall'.out
   have hd:decide ((l.length:Int)<(l.length:Int))=false:=by simp
   clear hall H hB
   go_wp2
   go_ret
   exact⟨by rw [hyes.out];rfl,BB.out⟩
end Go.Proofs.YtpimbaaahcemhaaGreat
