/- mission.Route. | What Leg and Route return, for all integers: the program's and the reference's. -/
import Derived.OwnWalkIn
import Derived.Test.YthipcinibldgnaaGreatBin08
import Derived.Test.YthipcinibldgnaaGreatBin05
open Go.Value renaming int->O
open Go.IntKind renaming i64->qL
open Go.Lib renaming hid->qH
open Go.RowKit.Below renaming refl->qK
open Nat renaming le_refl->qN
namespace Go.Proofs.YthipcinibldgnaaGreat
section
attribute [local go_sem] Oper.semAt_some
attribute [local irreducible] wpQuiet
open Go.RowKit Go.Shelf
def intL (l:List Nat):List Int:=l.map (fun x:Nat=>(x:Int))
def RouteQ (l:List Int) (er:Int) (w:World) (e:Ending) (w':World):Prop:=∃ v,e=.returned (.tuple #[v,O qL er])/\Z8 w'.heap.size w' v l/\Below w.heap.size w w'
theorem Zbs (m:Msn) (vw vh vr:Value) (i:Int) (w:World) (hm:MsnAt w.heap.size w m vw vh vr) (hE:(validB m && ixB m i)=false) :
  Calls Tryz.prog 25 #[.agg (Zc m vw vh vr),O qL i] w (RouteQ [] 1 w):=by
 have d:=qH (Z37 m vw vh vr i (w.alloc (.cells (Zc m vw vh vr) 26)) ((hm.below ((qK _ _).alloc (qN _) _)).mono (by simp)))
 obtain⟨⟨k,a,j,rfl,_⟩,_,_⟩:=hm;unfold Zc at *;rw [hE] at d;clear hE;go_enter Tryz.func25,Tryz.ntmps25;go_wp2_with (go_at_call 58;refine (d.out).mono ?_;rintro e l ⟨rfl,b⟩;obtain⟨f,g⟩:=bcell b;have c:=b.size;try simp at c)
 go_ret2;exact⟨_,rfl,Z8.nil _ _,zB2⟩
set_option maxRecDepth 4000 in
set_option maxHeartbeats 1000000 in
theorem Z3q (m : Msn) (vw vh vr : Value) (k : Nat) (w : World) (hm : MsnAt w.heap.size w m vw vh vr) (hV : validB m = true) (hk : k < m.ways.length) :
  Calls Tryz.prog 25 #[.agg (Zc m vw vh vr),O qL k] w fun e w'=>∃ v,e=.returned (.tuple #[v,O qL 0])/\Z8 w'.heap.size w' v (intL (upto (itB m k) (dep m k+1)))/\Below w.heap.size w w'/\∀ b o n c,v=.slice (some ⟨b,o,none⟩) n c->w.heap.size<=b:=by
 have p:=Z37 m vw vh vr k (w.alloc (.cells (Zc m vw vh vr) 26)) ((hm.below ((qK _ _).alloc (qN _) _)).mono (by simp))
 rw [hV,Z63 hk] at p;have p:=qH p;have V:=(Zm m).1 hV;have P:=V.ways;have h41:=V.n41;have hd:=Z2V P hk;have H0:=Has.new w (Zc m vw vh vr) 26;have ah:=qH H0;have aa:=qH hm;have V':=qH V;have t:=fun w=>ZbQ m vw vh vr k w
 have y:=qH t;clear V H0 hm t hV;unfold Zc at *;refine (callsIn_wide (n:=9)).1 ?_;refine callsIn_of_wp_marks Tryz.func25 rfl trivial ?_ rfl;simp only [Tryz.ntmps25,List.size_toArray,List.length_cons,List.length_nil,Nat.reduceAdd,Nat.reduceSub,Array.replicate_succ,Array.replicate_zero,List.push_toArray,List.append_toArray,List.nil_append,List.cons_append];refine wpIn_wide.2 ?_;go_wp2_with fail;refine p.out.mono ?_;rintro e a ⟨rfl,B⟩;have W1:Below w.heap.size w a:=((qK _ w).alloc (qN _) _).trans (B.mono (by simp))
 have S:=Has.below ah.out (B.mono (by simp):Below (w.heap.size+1) _ a) (by omega)
 have z1:w.heap.size<a.heap.size:=S.lt;have H2:Has (a.alloc (.cells #[.slice none 0 0] 29)) w.heap.size _ _:=S.below ((qK _ a).alloc (qN _) _) z1;obtain⟨c0,c1,c2,c3,c4,c5,c6,c7,c8,c9,ac⟩:=Zh (m:=m) (vw:=vw) (vh:=vh) (vr:=vr) H2;have L:=qH W1;have hH1:=qH S;clear B S H2 W1;go_wp2_with (go_at_call 61;refine (y.out _).mono ?_;rintro e w2 ⟨rfl,rfl⟩);generalize l:World.alloc (World.alloc (World.alloc a _) _) _=W0;have hz0:W0.heap.size=a.heap.size+3:=by rw [<- l];simp
 have bO:Boxed W0 a.heap.size 29 (.slice none 0 0):=by rw [<- l];exact ((Boxed.new a _ _).alloc _).alloc _
 have bM:Has W0 (a.heap.size+1) (Zc m vw vh vr) 26:=by
  rw [<- l];have:=Has.new (a.alloc (.cells #[.slice none 0 0] 29)) (Zc m vw vh vr) 26;rw [World.size_alloc] at this;exact Has.below this ((qK (a.heap.size+2) _).alloc (by simp) _) (by omega)
 have bW:Boxed W0 (a.heap.size+2) 3 (O qL k):=by
  rw [<- l];have:=Boxed.new ((a.alloc (.cells #[.slice none 0 0] 29)).alloc (.cells (Zc m vw vh vr) 26)) 3 (O qL k)
  rwa [World.size_alloc,World.size_alloc] at this
 have Z:Below a.heap.size a W0:=by rw [<- l];exact (((qK _ a).alloc (qN _) _).alloc (by first | omega | (simp;done) | (simp;omega)) _).alloc (by first | omega | (simp;done) | (simp;omega)) _
 have C:Below w.heap.size w W0:=L.out.trans (Z.mono (by omega))
 have E:WaysAt w.heap.size W0 vw m.ways:=aa.out.1.below C;clear l c0 c1 c2 c3 c4 c5 c6 c7 c8 c9 ac;refine (wpIn_wide (n:=9)).1 ?_;refine Z2s (by omega) (gf:=111) (lb:=#[.pointer (some ⟨a.heap.size+1+1,0,none⟩),.pointer (some ⟨a.heap.size+1,0,none⟩)]) rfl (enters_of Tryz.func111 (by kernel_rfl) rfl)
  (ZbP 8 (by omega) (fun b=>b<a.heap.size+3/\b≠a.heap.size) m vw vh vr k (a.heap.size+1+1) (a.heap.size+1) w.heap.size W0 P hk E ⟨by omega,by omega⟩ ⟨by omega,by omega⟩ (fun b hb=>⟨by omega,by omega⟩) (by omega) (by omega) bW bM)
  (fun h k=>KeepsP.trans h k) ?hKb (qK _ _) (fun _=>rfl)
  (fun f W=>(∃ v,Boxed W a.heap.size 29 v/\W.ownsRow (a.heap.size+3) 3 1 v f.length ((intL f).map (O qL)))/\Below w.heap.size w W)
  (fun _ _ _=>False) ?hI (fun _=>OwnM.pure (fun _=>False)) ⟨⟨_,bO,World.ownsRow_nil _ _ _ _⟩,C⟩
  (fun x a' _=>a'={ tmps:=#[.agg #[vw,vh,O qL m.start,vr,O qL m.speed,O qL m.part,O qL m.flow,O qL m.idle,O qL m.drive,O qL m.battery,O qL m.deadline],O qL k,.pointer (some ⟨w.heap.size,0,none⟩),undef,.slice none 0 0,O qL 0,.pointer (some ⟨a.heap.size,0,none⟩),O qL (x:Int),.agg #[vw,vh,O qL m.start,vr,O qL m.speed,O qL m.part,O qL m.flow,O qL m.idle,O qL m.drive,O qL m.battery,O qL m.deadline],O qL k,.bool true,.bool false,.agg #[vw,vh,O qL m.start,vr,O qL m.speed,O qL m.part,O qL m.flow,O qL m.idle,O qL m.drive,O qL m.battery,O qL m.deadline],O qL k,.func (.func 111) #[] #[.pointer (some ⟨a.heap.size+1+1,0,none⟩),.pointer (some ⟨a.heap.size+1,0,none⟩)],O qL (x:Int),undef,undef,undef,undef,undef],defers:=[] })
  (fun _ _=>OwnM.pure _) ?assign ?body ?done ?stop
 case hKb=>exact fun W o o' _ _=>⟨by simp,fun b hb=>World.putObj_heap_other (by omega)⟩
 case hI =>
  refine OwnM.and ?_ (OwnM.below w (qN _) (by omega) (fun r F=>by omega))
  rintro s X Y row ⟨v,p,F⟩ hg d;refine⟨v,p.kept hg (fun e'=>?_),F.kept hg ?_⟩
  ·obtain⟨o,R,u⟩:=d _ e'.symm
   rcases u with⟨_,u⟩ | ⟨u,_⟩
   ·omega
   ·rw [show X.heap[a.heap.size]?=_ from p] at R;cases R;cases u
  ·rcases F.2 with⟨rfl,_⟩ | ⟨g,aj,ad,rfl,ak,ai,_⟩
   ·exact .inl rfl
   ·refine .inr fun e'=>?_
    obtain⟨o,R,u⟩:=d g (by simpa [Value.ownBlock] using e'.symm)
    rcases u with⟨_,u⟩ | ⟨u,_⟩
    ·omega
    ·rw [ai] at R;cases R;cases u
 case assign =>
  rintro ll f x W K hi af N;gi_wp2;exact N _ _ (KeepsFrom.refl _ _) ⟨qN _,fun _ _=>rfl⟩ hi rfl
 case body =>
  rintro ll f x a' W J ⟨r,F⟩ ⟨⟨v,p,d⟩,T⟩ rfl hlt af;have hll':=qH J;have hr':=qH F;have hvc:=p.cell;have hlb:f.length<=100:=by omega
  clear J F;obtain⟨i0,hi,Q,M,I⟩:=info_parts intInfo;have A:a.heap.size+3<=W.heap.size:=by omega
  have hvo:W.ownsRow (a.heap.size+3) 3 1 v f.length ((intL f).map (O qL)):=d
  gi_wp2_with (gi_at_builtin;refine wpListIn_append_own _ rfl _ _ 29 rfl (a.heap.size+3) 3 i0 (.int .i64 0) 1 8 Tryz.underlying29 hi Q M I rfl (by decide) _ _ _ rfl (d.alloc _) ⟨W.heap.size,0,none⟩ 1 1 [.int .i64 (x:Int)] rfl rfl (cell_one_new _ _ _) (by simp [Value.oneCell']) (by unfold maxLen;omega) (by omega) (by simp;omega) ?_;intro v' w3 hown' hgrow _;obtain⟨g',cap',rfl⟩:=ownsRow_succ hown';obtain⟨G,z,q,al,hb2,ab,ag⟩:=Z8x (m0:=w.heap.size) p d (by omega) A (by omega) hown' hgrow;have hc1:=G.cell;have hf1:=G.frozen)
  refine⟨al.from _,⟨ab,fun b hb=>ag b hb.1 hb.2⟩,⟨_,z,?_⟩,T.trans hb2⟩
  have e1:(f++[x]).length=f.length+1:=by simp
  have e2:(intL (f++[x])).map (O qL)=(intL f).map (O qL)++[O qL (x:Int)]:=by simp [intL]
  rw [e1,e2];exact q
 case done =>
  rintro D ys W hD rfl ⟨⟨v,p,d⟩,T⟩ N;have z:Boxed (W.putObj D (.deferred none)) a.heap.size 29 v:=p.kept (grownBy_putObj' W D _) (fun e'=>by cases e';omega)
  have q:=ownsRow_putObj d (.deferred none) N rfl;have HK:=qH N;have hI:Z8 (W.putObj D (.deferred none)).heap.size (W.putObj D (.deferred none)) v (intL (upto (itB m k) (dep m k+1))):=Z8.own q (by simp [intL,upto];omega)
  have H:Below w.heap.size w (W.putObj D (.deferred none)):=T.grown (grownBy_putObj' W D _) (by have:=T.size;omega) (fun j e=>by cases e;have:=C.size;omega)
  have hcv:=p.cell;have U:=qH (And.intro hI (And.intro H (And.intro z q)));clear N hI H z q;obtain⟨_,av,capv,ae,_⟩:=U.out.1;subst ae;go_wp2;refine⟨by simp,.inl ⟨_,_,rfl,run_takeDeferred HK.out,?_⟩⟩
  exact⟨.tuple #[_,O qL 0],by simp [results,Tryz.f25,go_sem],_,rfl,U.out.1,U.out.2.1,fun b o n c e=>by
   rcases U.out.2.2.2.2 with⟨h,_⟩ | ⟨g,aj,ad,h,ak,_⟩
   ·rw [e] at h;cases h
   ·rw [e] at h;cases h;have:=L.out.size;omega⟩
 case stop=>rintro D c f W _ _ hf;exact hf.elim
theorem Z9v (m:Msn) (vw vh vr:Value) (k:Nat) (w:World) (hm:MsnAt w.heap.size w m vw vh vr) (hV:validB m=true) (hk:k<m.ways.length) :
  Calls Tryz.prog 25 #[.agg (Zc m vw vh vr),O qL k] w (RouteQ (intL (upto (itB m k) (dep m k+1))) 0 w) :=
 (Z3q m vw vh vr k w hm hV hk).mono fun _ _ ⟨v,h1,h2,h3,_⟩=>⟨v,h1,h2,h3⟩
end
section
open Go.RowKit
noncomputable def okL (m:Msn) (i j:Int):Bool:=validB m && ixB m i && ixB m j
noncomputable def legA (m:Msn) (i j:Int):Int:=if okL m i j=true then dLeg m i.toNat j.toNat else 0
noncomputable def legT (m:Msn) (i j:Int):Int:=if okL m i j=true then tLeg m i.toNat j.toNat else 0
noncomputable def legG (m:Msn) (i j:Int):Int:=if okL m i j=true then gLeg m i.toNat j.toNat else 0
noncomputable def legE (m:Msn) (i j:Int):Int:=if okL m i j=true then 0 else 1
noncomputable def okR (m:Msn) (i:Int):Bool:=validB m && ixB m i
noncomputable def routeR (m:Msn) (i:Int):List Int:=if okR m i=true then intL (upto (itB m i.toNat) (dep m i.toNat+1)) else []
noncomputable def routeE (m:Msn) (i:Int):Int:=if okR m i=true then 0 else 1
theorem Z7z {m:Msn} {i j:Int} (h:okL m i j=true):∃ a b:Nat,i=a/\j=b/\a<m.ways.length/\b<m.ways.length/\validB m=true:=by
 simp only [okL,Bool.and_eq_true] at h;obtain⟨a,rfl,c⟩:=Z39 h.1.2;obtain⟨b,rfl,d⟩:=Z39 h.2;exact⟨a,b,rfl,rfl,c,d,h.1.1⟩
theorem ZbC {m:Msn} {i:Int} (h:okR m i=true):∃ a:Nat,i=a/\a<m.ways.length/\validB m=true:=by
 simp only [okR,Bool.and_eq_true] at h;obtain⟨a,rfl,b⟩:=Z39 h.2;exact⟨a,rfl,b,h.1⟩
theorem Zcp {m:Msn} {a b:Nat} (hv:validB m=true) (ha:a<m.ways.length) (hb:b<m.ways.length):okL m a b=true:=by simp [okL,hv,Z63 ha,Z63 hb]
theorem okR_mk {m:Msn} {a:Nat} (hv:validB m=true) (ha:a<m.ways.length):okR m a=true:=by simp [okR,hv,Z63 ha]
noncomputable def legV (m:Msn) (i j:Int):Value:=.tuple #[O qL (legA m i j),O qL (legT m i j),O qL (legG m i j),O qL (legE m i j)]
theorem Z1T {m:Msn} {a b:Nat} (hv:validB m=true) (ha:a<m.ways.length) (hb:b<m.ways.length):legV m a b=.tuple #[O qL (dLeg m a b),O qL (tLeg m a b),O qL (gLeg m a b),O qL 0]:=by
 simp only [legV,legA,legT,legG,legE,Zcp hv ha hb,if_true,Int.toNat_natCast]
theorem Z0Y {m:Msn} {a:Nat} (hv:validB m=true) (ha:a<m.ways.length):routeR m a=intL (upto (itB m a) (dep m a+1))/\routeE m a=0:=by
 simp only [routeR,routeE,okR_mk hv ha,if_true,Int.toNat_natCast];exact⟨trivial,trivial⟩
theorem Z1U (m:Msn) (vw vh vr:Value) (i j:Int) (w:World) (hm:MsnAt w.heap.size w m vw vh vr) :
  Calls Tryz.prog 20 #[.agg (Zc m vw vh vr),O qL i,O qL j] w fun e w'=>e=.returned (legV m i j)/\Below w.heap.size w w':=by
 cases h:okL m i j
 ·simp only [legV,legA,legT,legG,legE,h,Bool.false_eq_true,if_false]
  exact leg_no m vw vh vr i j w hm h
 ·simp only [legV,legA,legT,legG,legE,h,if_true]
  obtain⟨a,b,rfl,rfl,c,d,f⟩:=Z7z h;exact Z9Y m vw vh vr a b w hm f c d
theorem Z3r (m:Msn) (vw vh vr:Value) (i:Int) (w:World) (hm:MsnAt w.heap.size w m vw vh vr) :
  Calls Tryz.prog 25 #[.agg (Zc m vw vh vr),O qL i] w (RouteQ (routeR m i) (routeE m i) w):=by
 cases h:okR m i
 ·simp only [routeR,routeE,h,Bool.false_eq_true,if_false]
  exact Zbs m vw vh vr i w hm h
 ·simp only [routeR,routeE,h,if_true]
  obtain⟨a,rfl,b,c⟩:=ZbC h;exact Z9v m vw vh vr a w hm c b
end
end Go.Proofs.YthipcinibldgnaaGreat
