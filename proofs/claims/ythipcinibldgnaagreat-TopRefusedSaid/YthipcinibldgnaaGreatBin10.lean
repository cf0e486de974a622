/- mission.Route. | What Leg and Route return, for all integers: the program's and the reference's. -/
import Derived.OwnWalkIn
import Derived.Test.YthipcinibldgnaaGreatBin09
import Derived.Test.YthipcinibldgnaaGreatBin05
open Go.Value renaming int->O
open Go.IntKind renaming i64->qL
open Go.Lib renaming hid->qH
open Go.RowKit.Below renaming refl->qK
open Nat renaming le_refl->qN
namespace Go.Proofs.YthipcinibldgnaaGreat
section
attribute [local go_sem] Oper.semAt_some
attribute [local irreducible] wpQuiet
open Go.RowKit Go.Shelf
def intL (l:List Nat):List Int:=l.map (fun x:Nat=>(x:Int))
def RouteQ (l:List Int) (er:Int) (w:World) (e:Ending) (w':World):Prop:=∃ v,e=.returned (.tuple #[v,O qL er])/\Z8 w'.heap.size w' v l/\Below w.heap.size w w'
theorem ZaP (m:Msn) (vw vh vr:Value) (i:Int) (w:World) (hm:MsnAt w.heap.size w m vw vh vr) (hE:(validB m && ixB m i)=false) :
  Calls Tryz.prog 25 #[.agg (Zc m vw vh vr),O qL i] w (RouteQ [] 1 w):=by
 have hv:=qH (Z2S m vw vh vr i (w.alloc (.cells (Zc m vw vh vr) 26)) ((hm.below ((qK _ _).alloc (qN _) _)).mono (by simp)))
 obtain⟨⟨hl,a,cap,rfl,_⟩,_,_⟩:=hm;unfold Zc at *;rw [hE] at hv;clear hE;go_enter Tryz.func25,Tryz.ntmps25;go_wp2_with (go_at_call 58;refine (hv.out).mono ?_;rintro e w1 ⟨rfl,hb1⟩;obtain⟨hc1,hf1⟩:=bcell hb1;have hz1:=hb1.size;try simp at hz1)
 go_ret2;exact⟨_,rfl,Z8.nil _ _,zB2⟩
set_option maxRecDepth 4000 in
set_option maxHeartbeats 1000000 in
theorem Z5p (m : Msn) (vw vh vr : Value) (k : Nat) (w : World) (hm : MsnAt w.heap.size w m vw vh vr) (hV : validB m = true) (hk : k < m.ways.length) :
  Calls Tryz.prog 25 #[.agg (Zc m vw vh vr),O qL k] w fun e w'=>∃ v,e=.returned (.tuple #[v,O qL 0])/\Z8 w'.heap.size w' v (intL (upto (itB m k) (dep m k+1)))/\Below w.heap.size w w'/\∀ b o n c,v=.slice (some ⟨b,o,none⟩) n c->w.heap.size<=b:=by
 have hv:=Z2S m vw vh vr k (w.alloc (.cells (Zc m vw vh vr) 26)) ((hm.below ((qK _ _).alloc (qN _) _)).mono (by simp))
 rw [hV,Z5K hk] at hv;have hv:=qH hv;have V:=(Zj m).1 hV;have hwb:=V.ways;have h41:=V.n41;have hd:=Z3F hwb hk;have H0:=Has.new w (Zc m vw vh vr) 26;have H0':=qH H0;have hm':=qH hm;have V':=qH V;have hhome:=fun w=>Zbe m vw vh vr k w
 have hhome':=qH hhome;clear V H0 hm hhome hV;unfold Zc at *;refine (callsIn_wide (n:=9)).1 ?_;refine callsIn_of_wp_marks Tryz.func25 rfl trivial ?_ rfl;simp only [Tryz.ntmps25,List.size_toArray,List.length_cons,List.length_nil,Nat.reduceAdd,Nat.reduceSub,Array.replicate_succ,Array.replicate_zero,List.push_toArray,List.append_toArray,List.nil_append,List.cons_append];refine wpIn_wide.2 ?_;go_wp2_with fail;refine hv.out.mono ?_;rintro e w1 ⟨rfl,hb1⟩;have W1:Below w.heap.size w w1:=((qK _ w).alloc (qN _) _).trans (hb1.mono (by simp))
 have H1:=Has.below H0'.out (hb1.mono (by simp):Below (w.heap.size+1) _ w1) (by omega)
 have z1:w.heap.size<w1.heap.size:=H1.lt;have H2:Has (w1.alloc (.cells #[.slice none 0 0] 29)) w.heap.size _ _:=H1.below ((qK _ w1).alloc (qN _) _) z1;obtain⟨c0,c1,c2,c3,c4,c5,c6,c7,c8,c9,c10⟩:=Zg (m:=m) (vw:=vw) (vh:=vh) (vr:=vr) H2;have hW1:=qH W1;have hH1:=qH H1;clear hb1 H1 H2 W1;go_wp2_with (go_at_call 61;refine (hhome'.out _).mono ?_;rintro e w2 ⟨rfl,rfl⟩);generalize hW0:World.alloc (World.alloc (World.alloc w1 _) _) _=W0;have hz0:W0.heap.size=w1.heap.size+3:=by rw [<- hW0];simp
 have bO:Boxed W0 w1.heap.size 29 (.slice none 0 0):=by rw [<- hW0];exact ((Boxed.new w1 _ _).alloc _).alloc _
 have bM:Has W0 (w1.heap.size+1) (Zc m vw vh vr) 26:=by
  rw [<- hW0];have:=Has.new (w1.alloc (.cells #[.slice none 0 0] 29)) (Zc m vw vh vr) 26;rw [World.size_alloc] at this;exact Has.below this ((qK (w1.heap.size+2) _).alloc (by simp) _) (by omega)
 have bW:Boxed W0 (w1.heap.size+2) 3 (O qL k):=by
  rw [<- hW0];have:=Boxed.new ((w1.alloc (.cells #[.slice none 0 0] 29)).alloc (.cells (Zc m vw vh vr) 26)) 3 (O qL k)
  rwa [World.size_alloc,World.size_alloc] at this
 have hB0:Below w1.heap.size w1 W0:=by rw [<- hW0];exact (((qK _ w1).alloc (qN _) _).alloc (by first | omega | (simp;done) | (simp;omega)) _).alloc (by first | omega | (simp;done) | (simp;omega)) _
 have hBw:Below w.heap.size w W0:=hW1.out.trans (hB0.mono (by omega))
 have hways:WaysAt w.heap.size W0 vw m.ways:=hm'.out.1.below hBw;clear hW0 c0 c1 c2 c3 c4 c5 c6 c7 c8 c9 c10;refine (wpIn_wide (n:=9)).1 ?_;refine Z2h (by omega) (gf:=111) (lb:=#[.pointer (some ⟨w1.heap.size+1+1,0,none⟩),.pointer (some ⟨w1.heap.size+1,0,none⟩)]) rfl (enters_of Tryz.func111 (by kernel_rfl) rfl)
  (Zbd 8 (by omega) (fun b=>b<w1.heap.size+3/\b≠w1.heap.size) m vw vh vr k (w1.heap.size+1+1) (w1.heap.size+1) w.heap.size W0 hwb hk hways ⟨by omega,by omega⟩ ⟨by omega,by omega⟩ (fun b hb=>⟨by omega,by omega⟩) (by omega) (by omega) bW bM)
  (fun h k=>KeepsP.trans h k) ?hKb (qK _ _) (fun _=>rfl)
  (fun pre W=>(∃ v,Boxed W w1.heap.size 29 v/\W.ownsRow (w1.heap.size+3) 3 1 v pre.length ((intL pre).map (O qL)))/\Below w.heap.size w W)
  (fun _ _ _=>False) ?hI (fun _=>OwnM.pure (fun _=>False)) ⟨⟨_,bO,World.ownsRow_nil _ _ _ _⟩,hBw⟩
  (fun x a' _=>a'={ tmps:=#[.agg #[vw,vh,O qL m.start,vr,O qL m.speed,O qL m.part,O qL m.flow,O qL m.idle,O qL m.drive,O qL m.battery,O qL m.deadline],O qL k,.pointer (some ⟨w.heap.size,0,none⟩),undef,.slice none 0 0,O qL 0,.pointer (some ⟨w1.heap.size,0,none⟩),O qL (x:Int),.agg #[vw,vh,O qL m.start,vr,O qL m.speed,O qL m.part,O qL m.flow,O qL m.idle,O qL m.drive,O qL m.battery,O qL m.deadline],O qL k,.bool true,.bool false,.agg #[vw,vh,O qL m.start,vr,O qL m.speed,O qL m.part,O qL m.flow,O qL m.idle,O qL m.drive,O qL m.battery,O qL m.deadline],O qL k,.func (.func 111) #[] #[.pointer (some ⟨w1.heap.size+1+1,0,none⟩),.pointer (some ⟨w1.heap.size+1,0,none⟩)],O qL (x:Int),undef,undef,undef,undef,undef],defers:=[] })
  (fun _ _=>OwnM.pure _) ?assign ?body ?done ?stop
 case hKb=>exact fun W o o' _ _=>⟨by simp,fun b hb=>World.putObj_heap_other (by omega)⟩
 case hI =>
  refine OwnM.and ?_ (OwnM.below w (qN _) (by omega) (fun r hr=>by omega))
  rintro s X Y row ⟨v,hv,hr⟩ hg hrow;refine⟨v,hv.kept hg (fun e'=>?_),hr.kept hg ?_⟩
  ·obtain⟨o,ho,hc⟩:=hrow _ e'.symm
   rcases hc with⟨_,hc⟩ | ⟨hc,_⟩
   ·omega
   ·rw [show X.heap[w1.heap.size]?=_ from hv] at ho;cases ho;cases hc
  ·rcases hr.2 with⟨rfl,_⟩ | ⟨g,cap,cur,rfl,hbg,hgb,_⟩
   ·exact .inl rfl
   ·refine .inr fun e'=>?_
    obtain⟨o,ho,hc⟩:=hrow g (by simpa [Value.ownBlock] using e'.symm)
    rcases hc with⟨_,hc⟩ | ⟨hc,_⟩
    ·omega
    ·rw [hgb] at ho;cases ho;cases hc
 case assign =>
  rintro ll pre x W K hi hsz hK;gi_wp2;exact hK _ _ (KeepsFrom.refl _ _) ⟨qN _,fun _ _=>rfl⟩ hi rfl
 case body =>
  rintro ll pre x a' W hll ⟨r,hr⟩ ⟨⟨v,hv,hrow⟩,hB⟩ rfl hlt hsz;have hll':=qH hll;have hr':=qH hr;have hvc:=hv.cell;have hlb:pre.length<=100:=by omega
  clear hll hr;obtain⟨i0,hi,hz0',hz1',hz2'⟩:=info_parts intInfo;have hbase:w1.heap.size+3<=W.heap.size:=by omega
  have hvo:W.ownsRow (w1.heap.size+3) 3 1 v pre.length ((intL pre).map (O qL)):=hrow
  gi_wp2_with (gi_at_builtin;refine wpListIn_append_own _ rfl _ _ 29 rfl (w1.heap.size+3) 3 i0 (.int .i64 0) 1 8 Tryz.underlying29 hi hz0' hz1' hz2' rfl (by decide) _ _ _ rfl (hrow.alloc _) ⟨W.heap.size,0,none⟩ 1 1 [.int .i64 (x:Int)] rfl rfl (cell_one_new _ _ _) (by simp [Value.oneCell']) (by unfold maxLen;omega) (by omega) (by simp;omega) ?_;intro v' w3 hown' hgrow _;obtain⟨g',cap',rfl⟩:=ownsRow_succ hown';obtain⟨hv1,hv2,hr2,hk2,hb2,hs2,hp2⟩:=Z8h (m0:=w.heap.size) hv hrow (by omega) hbase (by omega) hown' hgrow;have hc1:=hv1.cell;have hf1:=hv1.frozen)
  refine⟨hk2.from _,⟨hs2,fun b hb=>hp2 b hb.1 hb.2⟩,⟨_,hv2,?_⟩,hB.trans hb2⟩
  have e1:(pre++[x]).length=pre.length+1:=by simp
  have e2:(intL (pre++[x])).map (O qL)=(intL pre).map (O qL)++[O qL (x:Int)]:=by simp [intL]
  rw [e1,e2];exact hr2
 case done =>
  rintro D ys W hD rfl ⟨⟨v,hv,hrow⟩,hB⟩ hK;have hv2:Boxed (W.putObj D (.deferred none)) w1.heap.size 29 v:=hv.kept (grownBy_putObj' W D _) (fun e'=>by cases e';omega)
  have hr2:=ownsRow_putObj hrow (.deferred none) hK rfl;have HK:=qH hK;have hI:Z8 (W.putObj D (.deferred none)).heap.size (W.putObj D (.deferred none)) v (intL (upto (itB m k) (dep m k+1))):=Z8.own hr2 (by simp [intL,upto];omega)
  have hbf:Below w.heap.size w (W.putObj D (.deferred none)):=hB.grown (grownBy_putObj' W D _) (by have:=hB.size;omega) (fun j e=>by cases e;have:=hBw.size;omega)
  have hcv:=hv.cell;have HI:=qH (And.intro hI (And.intro hbf (And.intro hv2 hr2)));clear hK hI hbf hv2 hr2;obtain⟨_,av,capv,hvv,_⟩:=HI.out.1;subst hvv;go_wp2;refine⟨by simp,.inl ⟨_,_,rfl,run_takeDeferred HK.out,?_⟩⟩
  exact⟨.tuple #[_,O qL 0],by simp [results,Tryz.f25,go_sem],_,rfl,HI.out.1,HI.out.2.1,fun b o n c e=>by
   rcases HI.out.2.2.2.2 with⟨h,_⟩ | ⟨g,cap,cur,h,hbg,_⟩
   ·rw [e] at h;cases h
   ·rw [e] at h;cases h;have:=hW1.out.size;omega⟩
 case stop=>rintro D c pre W _ _ hf;exact hf.elim
theorem Z94 (m:Msn) (vw vh vr:Value) (k:Nat) (w:World) (hm:MsnAt w.heap.size w m vw vh vr) (hV:validB m=true) (hk:k<m.ways.length) :
  Calls Tryz.prog 25 #[.agg (Zc m vw vh vr),O qL k] w (RouteQ (intL (upto (itB m k) (dep m k+1))) 0 w) :=
 (Z5p m vw vh vr k w hm hV hk).mono fun _ _ ⟨v,h1,h2,h3,_⟩=>⟨v,h1,h2,h3⟩
end
section
open Go.RowKit
noncomputable def okL (m:Msn) (i j:Int):Bool:=validB m && ixB m i && ixB m j
noncomputable def legA (m:Msn) (i j:Int):Int:=if okL m i j=true then dLeg m i.toNat j.toNat else 0
noncomputable def legT (m:Msn) (i j:Int):Int:=if okL m i j=true then tLeg m i.toNat j.toNat else 0
noncomputable def legG (m:Msn) (i j:Int):Int:=if okL m i j=true then gLeg m i.toNat j.toNat else 0
noncomputable def legE (m:Msn) (i j:Int):Int:=if okL m i j=true then 0 else 1
noncomputable def okR (m:Msn) (i:Int):Bool:=validB m && ixB m i
noncomputable def routeR (m:Msn) (i:Int):List Int:=if okR m i=true then intL (upto (itB m i.toNat) (dep m i.toNat+1)) else []
noncomputable def routeE (m:Msn) (i:Int):Int:=if okR m i=true then 0 else 1
theorem Z7i {m:Msn} {i j:Int} (h:okL m i j=true):∃ a b:Nat,i=a/\j=b/\a<m.ways.length/\b<m.ways.length/\validB m=true:=by
 simp only [okL,Bool.and_eq_true] at h;obtain⟨a,rfl,ha⟩:=Z2V h.1.2;obtain⟨b,rfl,hb⟩:=Z2V h.2;exact⟨a,b,rfl,rfl,ha,hb,h.1.1⟩
theorem Zb0 {m:Msn} {i:Int} (h:okR m i=true):∃ a:Nat,i=a/\a<m.ways.length/\validB m=true:=by
 simp only [okR,Bool.and_eq_true] at h;obtain⟨a,rfl,ha⟩:=Z2V h.2;exact⟨a,rfl,ha,h.1⟩
theorem ZbJ {m:Msn} {a b:Nat} (hv:validB m=true) (ha:a<m.ways.length) (hb:b<m.ways.length):okL m a b=true:=by simp [okL,hv,Z5K ha,Z5K hb]
theorem okR_mk {m:Msn} {a:Nat} (hv:validB m=true) (ha:a<m.ways.length):okR m a=true:=by simp [okR,hv,Z5K ha]
noncomputable def legV (m:Msn) (i j:Int):Value:=.tuple #[O qL (legA m i j),O qL (legT m i j),O qL (legG m i j),O qL (legE m i j)]
theorem Z3s {m:Msn} {a b:Nat} (hv:validB m=true) (ha:a<m.ways.length) (hb:b<m.ways.length):legV m a b=.tuple #[O qL (dLeg m a b),O qL (tLeg m a b),O qL (gLeg m a b),O qL 0]:=by
 simp only [legV,legA,legT,legG,legE,ZbJ hv ha hb,if_true,Int.toNat_natCast]
theorem Z0P {m:Msn} {a:Nat} (hv:validB m=true) (ha:a<m.ways.length):routeR m a=intL (upto (itB m a) (dep m a+1))/\routeE m a=0:=by
 simp only [routeR,routeE,okR_mk hv ha,if_true,Int.toNat_natCast];exact⟨trivial,trivial⟩
theorem Z2o (m:Msn) (vw vh vr:Value) (i j:Int) (w:World) (hm:MsnAt w.heap.size w m vw vh vr) :
  Calls Tryz.prog 20 #[.agg (Zc m vw vh vr),O qL i,O qL j] w fun e w'=>e=.returned (legV m i j)/\Below w.heap.size w w':=by
 cases h:okL m i j
 ·simp only [legV,legA,legT,legG,legE,h,Bool.false_eq_true,if_false]
  exact leg_no m vw vh vr i j w hm h
 ·simp only [legV,legA,legT,legG,legE,h,if_true]
  obtain⟨a,b,rfl,rfl,ha,hb,hv⟩:=Z7i h;exact Z9r m vw vh vr a b w hm hv ha hb
theorem Z3c (m:Msn) (vw vh vr:Value) (i:Int) (w:World) (hm:MsnAt w.heap.size w m vw vh vr) :
  Calls Tryz.prog 25 #[.agg (Zc m vw vh vr),O qL i] w (RouteQ (routeR m i) (routeE m i) w):=by
 cases h:okR m i
 ·simp only [routeR,routeE,h,Bool.false_eq_true,if_false]
  exact ZaP m vw vh vr i w hm h
 ·simp only [routeR,routeE,h,if_true]
  obtain⟨a,rfl,ha,hv⟩:=Zb0 h;exact Z94 m vw vh vr a w hm hv ha
end
end Go.Proofs.YthipcinibldgnaaGreat
