/- mission.Route. | The reference's index, Leg, Home, Route. | The reference's Route, SameInts, Few. | What Leg and Route return, for all integers: th .. -/
import Derived.OwnWalkIn
import Derived.Test.YtpimbaaahcemhaaGreatBin11
import Derived.Test.YtpimbaaahcemhaaGreatBin03
set_option maxHeartbeats 1600000
namespace Go.Proofs.YtpimbaaahcemhaaGreat
section
attribute [local go_sem] Oper.semAt_some
attribute [local irreducible] wpQuiet
open Go.RowKit Go.Shelf
def intL (l:List Nat):List Int:=l.map (fun x:Nat=>(x:Int))
def RouteQ (l:List Int) (er:Int) (w:World) (e:Ending) (w':World):Prop:=∃ v,e=.returned (.tuple #[v,.int .i64 er])∧Za w'.heap.size w' v l∧Below w.heap.size w w'
theorem Zah (m:Msn) (vw vh vr:Value) (i:Int) (w:World) (hm:MsnAt w.heap.size w m vw vh vr) (hE:(validB m && ixB m i)=false) :
  Calls Tryz.prog 80 #[.agg (Zd m vw vh vr),.int .i64 i] w (RouteQ [] 1 w):=by
 have hv:=Lib.hid (Z2V m vw vh vr i (w.alloc (.cells (Zd m vw vh vr) 26)) ((hm.below ((Below.refl _ _).alloc (Nat.le_refl _) _)).mono (by simp)))
 obtain⟨⟨hl,a,cap,rfl,_⟩,_,_⟩:=hm;unfold Zd at *;rw [hE] at hv;clear hE;go_enter Tryz.func80,Tryz.ntmps80;go_wp2_with (go_at_call 96;refine (hv.out).mono ?_;rintro e w1 ⟨rfl,hb1⟩;obtain⟨hc1,hf1⟩:=bcell hb1;have hz1:=hb1.size;try simp at hz1)
 go_ret2;exact⟨_,rfl,Za.nil _ _,zB2⟩
set_option maxRecDepth 4000 in
theorem Z8M (m : Msn) (vw vh vr : Value) (k : Nat) (w : World) (hm : MsnAt w.heap.size w m vw vh vr) (hV : validB m = true) (hk : k < m.ways.length) :
  Calls Tryz.prog 80 #[.agg (Zd m vw vh vr),.int .i64 k] w (RouteQ (intL (upto (itB m k) (dep m k+1))) 0 w):=by
 have hv:=Z2V m vw vh vr k (w.alloc (.cells (Zd m vw vh vr) 26)) ((hm.below ((Below.refl _ _).alloc (Nat.le_refl _) _)).mono (by simp))
 rw [hV,Z3t hk] at hv;have hv:=Lib.hid hv;have V:=(Zp m).1 hV;have hwb:=V.ways;have h41:=V.n41;have hd:=Z2f hwb hk;have H0:=Has.new w (Zd m vw vh vr) 26;have H0':=Lib.hid H0;have hm':=Lib.hid hm;have V':=Lib.hid V;have hhome:=fun w=>ZaE m vw vh vr k w
 have hhome':=Lib.hid hhome;clear V H0 hm hhome hV;unfold Zd at *;refine (callsIn_wide (n:=9)).1 ?_;refine callsIn_of_wp_marks Tryz.func80 rfl trivial ?_ rfl;simp only [Tryz.ntmps80,List.size_toArray,List.length_cons,List.length_nil,Nat.reduceAdd,Nat.reduceSub,Array.replicate_succ,Array.replicate_zero,List.push_toArray,List.append_toArray,List.nil_append,List.cons_append];refine wpIn_wide.2 ?_;go_wp2_with fail;refine hv.out.mono ?_;rintro e w1 ⟨rfl,hb1⟩;have W1:Below w.heap.size w w1:=((Below.refl _ w).alloc (Nat.le_refl _) _).trans (hb1.mono (by simp))
 have H1:=Has.below H0'.out (hb1.mono (by simp):Below (w.heap.size+1) _ w1) (by omega)
 have z1:w.heap.size<w1.heap.size:=H1.lt;have H2:Has (w1.alloc (.cells #[.slice none 0 0] 27)) w.heap.size _ _:=H1.below ((Below.refl _ w1).alloc (Nat.le_refl _) _) z1;obtain⟨c0,c1,c2,c3,c4,c5,c6,c7,c8,c9,c10⟩:=Zi (m:=m) (vw:=vw) (vh:=vh) (vr:=vr) H2;have hW1:=Lib.hid W1;have hH1:=Lib.hid H1;clear hb1 H1 H2 W1;go_wp2_with (go_at_call 145;refine (hhome'.out _).mono ?_;rintro e w2 ⟨rfl,rfl⟩);generalize hW0:World.alloc (World.alloc (World.alloc w1 _) _) _=W0;have hz0:W0.heap.size=w1.heap.size+3:=by rw [← hW0];simp
 have bO:Boxed W0 w1.heap.size 27 (.slice none 0 0):=by rw [← hW0];exact ((Boxed.new w1 _ _).alloc _).alloc _
 have bM:Has W0 (w1.heap.size+1) (Zd m vw vh vr) 26:=by
  rw [← hW0];have:=Has.new (w1.alloc (.cells #[.slice none 0 0] 27)) (Zd m vw vh vr) 26;rw [World.size_alloc] at this;exact Has.below this ((Below.refl (w1.heap.size+2) _).alloc (by simp) _) (by omega)
 have bW:Boxed W0 (w1.heap.size+2) 3 (.int .i64 k):=by
  rw [← hW0];have:=Boxed.new ((w1.alloc (.cells #[.slice none 0 0] 27)).alloc (.cells (Zd m vw vh vr) 26)) 3 (.int .i64 k)
  rwa [World.size_alloc,World.size_alloc] at this
 have hB0:Below w1.heap.size w1 W0:=by rw [← hW0];exact (((Below.refl _ w1).alloc (Nat.le_refl _) _).alloc (by first | omega | (simp;done) | (simp;omega)) _).alloc (by first | omega | (simp;done) | (simp;omega)) _
 have hBw:Below w.heap.size w W0:=hW1.out.trans (hB0.mono (by omega))
 have hways:WaysAt w.heap.size W0 vw m.ways:=hm'.out.1.below hBw;clear hW0 c0 c1 c2 c3 c4 c5 c6 c7 c8 c9 c10;refine (wpIn_wide (n:=9)).1 ?_;refine Z2j (by omega) (gf:=178) (lb:=#[.pointer (some ⟨w1.heap.size+1+1,0,none⟩),.pointer (some ⟨w1.heap.size+1,0,none⟩)]) rfl (enters_of Tryz.func178 (by kernel_rfl) rfl)
  (ZaD 8 (by omega) (fun b=>b<w1.heap.size+3∧b≠w1.heap.size) m vw vh vr k (w1.heap.size+1+1) (w1.heap.size+1) w.heap.size W0 hwb hk hways ⟨by omega,by omega⟩ ⟨by omega,by omega⟩ (fun b hb=>⟨by omega,by omega⟩) (by omega) (by omega) bW bM)
  (fun h k=>KeepsP.trans h k) ?hKb (Below.refl _ _) (fun _=>rfl)
  (fun pre W=>(∃ v,Boxed W w1.heap.size 27 v∧W.ownsRow (w1.heap.size+3) 3 1 v pre.length ((intL pre).map (Value.int .i64)))∧Below w.heap.size w W)
  (fun _ _ _=>False) ?hI (fun _=>OwnM.pure (fun _=>False)) ⟨⟨_,bO,World.ownsRow_nil _ _ _ _⟩,hBw⟩
  (fun x a' _=>a'={ tmps:=#[.agg #[vw,vh,.int .i64 m.start,vr,.int .i64 m.speed,.int .i64 m.part,.int .i64 m.flow,.int .i64 m.idle,.int .i64 m.drive,.int .i64 m.battery,.int .i64 m.deadline],.int .i64 k,.pointer (some ⟨w.heap.size,0,none⟩),undef,.slice none 0 0,.int .i64 0,.pointer (some ⟨w1.heap.size,0,none⟩),.int .i64 (x:Int),.agg #[vw,vh,.int .i64 m.start,vr,.int .i64 m.speed,.int .i64 m.part,.int .i64 m.flow,.int .i64 m.idle,.int .i64 m.drive,.int .i64 m.battery,.int .i64 m.deadline],.int .i64 k,.bool true,.bool false,.agg #[vw,vh,.int .i64 m.start,vr,.int .i64 m.speed,.int .i64 m.part,.int .i64 m.flow,.int .i64 m.idle,.int .i64 m.drive,.int .i64 m.battery,.int .i64 m.deadline],.int .i64 k,.func (.func 178) #[] #[.pointer (some ⟨w1.heap.size+1+1,0,none⟩),.pointer (some ⟨w1.heap.size+1,0,none⟩)],.int .i64 (x:Int),undef,undef,undef,undef,undef],defers:=[] })
  (fun _ _=>OwnM.pure _) ?assign ?body ?done ?stop
 case hKb=>exact fun W o o' _ _=>⟨by simp,fun b hb=>World.putObj_heap_other (by omega)⟩
 case hI =>
  refine OwnM.and ?_ (OwnM.below w (Nat.le_refl _) (by omega) (fun r hr=>by omega))
  rintro s X Y row ⟨v,hv,hr⟩ hg hrow;refine⟨v,hv.kept hg (fun e'=>?_),hr.kept hg ?_⟩
  ·obtain⟨o,ho,hc⟩:=hrow _ e'.symm
   rcases hc with⟨_,hc⟩ | ⟨hc,_⟩
   ·omega
   ·rw [show X.heap[w1.heap.size]?=_ from hv] at ho;cases ho;cases hc
  ·rcases hr.2 with⟨rfl,_⟩ | ⟨g,cap,cur,rfl,hbg,hgb,_⟩
   ·exact .inl rfl
   ·refine .inr fun e'=>?_
    obtain⟨o,ho,hc⟩:=hrow g (by simpa [Value.ownBlock] using e'.symm)
    rcases hc with⟨_,hc⟩ | ⟨hc,_⟩
    ·omega
    ·rw [hgb] at ho;cases ho;cases hc
 case assign =>
  rintro ll pre x W K hi hsz hK;gi_wp2;exact hK _ _ (KeepsFrom.refl _ _) ⟨Nat.le_refl _,fun _ _=>rfl⟩ hi rfl
 case body =>
  rintro ll pre x a' W hll ⟨r,hr⟩ ⟨⟨v,hv,hrow⟩,hB⟩ rfl hlt hsz;have hll':=Lib.hid hll;have hr':=Lib.hid hr;have hvc:=hv.cell;have hlb:pre.length≤100:=by omega
  clear hll hr;obtain⟨i0,hi,hz0',hz1',hz2'⟩:=info_parts intInfo;have hbase:w1.heap.size+3≤W.heap.size:=by omega
  have hvo:W.ownsRow (w1.heap.size+3) 3 1 v pre.length ((intL pre).map (Value.int .i64)):=hrow
  gi_wp2_with (gi_at_builtin;refine wpListIn_append_own _ rfl _ _ 27 rfl (w1.heap.size+3) 3 i0 (.int .i64 0) 1 8 Tryz.underlying27 hi hz0' hz1' hz2' rfl (by decide) _ _ _ rfl (hrow.alloc _) ⟨W.heap.size,0,none⟩ 1 1 [.int .i64 (x:Int)] rfl rfl (cell_one_new _ _ _) (by simp [Value.oneCell']) (by unfold maxLen;omega) (by omega) (by simp;omega) ?_;intro v' w3 hown' hgrow _;obtain⟨g',cap',rfl⟩:=ownsRow_succ hown';obtain⟨hv1,hv2,hr2,hk2,hb2,hs2,hp2⟩:=Z7W (m0:=w.heap.size) hv hrow (by omega) hbase (by omega) hown' hgrow;have hc1:=hv1.cell;have hf1:=hv1.frozen)
  refine⟨hk2.from _,⟨hs2,fun b hb=>hp2 b hb.1 hb.2⟩,⟨_,hv2,?_⟩,hB.trans hb2⟩
  have e1:(pre++[x]).length=pre.length+1:=by simp
  have e2:(intL (pre++[x])).map (Value.int .i64)=(intL pre).map (Value.int .i64)++[.int .i64 (x:Int)]:=by simp [intL]
  rw [e1,e2];exact hr2
 case done =>
  rintro D ys W hD rfl ⟨⟨v,hv,hrow⟩,hB⟩ hK;have hv2:Boxed (W.putObj D (.deferred none)) w1.heap.size 27 v:=hv.kept (grownBy_putObj' W D _) (fun e'=>by cases e';omega)
  have hr2:=ownsRow_putObj hrow (.deferred none) hK rfl;have HK:=Lib.hid hK;have hI:Za (W.putObj D (.deferred none)).heap.size (W.putObj D (.deferred none)) v (intL (upto (itB m k) (dep m k+1))):=Za.own hr2 (by simp [intL,upto];omega)
  have hbf:Below w.heap.size w (W.putObj D (.deferred none)):=hB.grown (grownBy_putObj' W D _) (by have:=hB.size;omega) (fun j e=>by cases e;have:=hBw.size;omega)
  have hcv:=hv.cell;have HI:=Lib.hid (And.intro hI (And.intro hbf (And.intro hv2 hr2)));clear hK hI hbf hv2 hr2;obtain⟨_,av,capv,hvv,_⟩:=HI.out.1;subst hvv;go_wp2;refine⟨by simp,.inl ⟨_,_,rfl,run_takeDeferred HK.out,?_⟩⟩
  exact⟨.tuple #[_,.int .i64 0],by simp [results,Tryz.f80,go_sem],_,rfl,HI.out.1,HI.out.2.1⟩
 case stop=>rintro D c pre W _ _ hf;exact hf.elim
end
section
attribute [local irreducible] wpQuiet
open Go.RowKit
theorem Z47 (m:Msn) (vw vh vr:Value) (i:Int) (w:World) (hw:WaysAt w.heap.size w vw m.ways) :
  Calls Tryz.prog 166 #[.agg (Zd m vw vh vr),.int .i64 i] w fun e w'=>e=.returned (.bool (ixB m i))∧Below w.heap.size w w':=by
 obtain⟨_,a,cap,rfl,_⟩:=hw;unfold Zd;cases hi:ixB m i
 ·rcases Z3u hi with h1 | ⟨h1,h2⟩
  ·have d1:decide (0≤i)=false:=by simp;omega
   clear hi h1;go_enter Tryz.func166,Tryz.ntmps166;go_wp2;go_ret;exact⟨rfl,zB2⟩
  ·have d1:decide (0≤i)=true:=by simp;omega
   have d2:decide (i<(m.ways.length:Int))=false:=by simp;omega
   clear hi h1 h2;go_enter Tryz.func166,Tryz.ntmps166;go_wp2;go_ret;exact⟨rfl,zB2⟩
 ·obtain⟨k,rfl,hk⟩:=Z24 hi
  clear hi;go_enter Tryz.func166,Tryz.ntmps166;go_wp2;go_ret;exact⟨rfl,zB2⟩
theorem Zbi (m:Msn) (vw vh vr:Value) (i j:Int) (w:World) (hm:MsnAt w.heap.size w m vw vh vr) (hE:(validB m && ixB m i && ixB m j)=false) :
  Calls Tryz.prog 103 #[.agg (Zd m vw vh vr),.int .i64 i,.int .i64 j] w fun e w'=>e=.returned (.tuple #[.int .i64 0,.int .i64 0,.int .i64 0,.int .i64 1])∧Below w.heap.size w w':=by
 have hv:=Lib.hid (Z0p m vw vh vr (w.alloc (.cells (Zd m vw vh vr) 26)) ((hm.below ((Below.refl _ _).alloc (Nat.le_refl _) _)).mono (by simp)))
 have hix:=fun i w1 hw=>Z47 m vw vh vr i w1 hw
 have hixH:=Lib.hid hix;have H0:=Has.new w (Zd m vw vh vr) 26;have H0':=Lib.hid H0;have hmH:=Lib.hid hm;clear H0 hm hix;unfold Zd at *;cases h:validB m
 ·rw [h] at hv
  have h':=Lib.hid h;clear h hE;go_enter Tryz.func103,Tryz.ntmps103;go_wp2_with (go_at_call 20;refine (hv.out).mono ?_;rintro e w1 ⟨rfl,hb1⟩;obtain⟨hc1,hf1⟩:=bcell hb1;have hz1:=hb1.size;try simp at hz1)
  refine bodyPost_ret (v:=.tuple #[.int .i64 0,.int .i64 0,.int .i64 0,.int .i64 1]) (by simp [results,Tryz.f103,go_sem]) rfl ⟨rfl,zB2⟩
 ·rw [h] at hv hE
  have h':=Lib.hid h;clear h;go_enter Tryz.func103,Tryz.ntmps103;go_wp2_with fail;refine hv.out.mono ?_;rintro e w1 ⟨rfl,hb1⟩;have H1:=H0'.out.below (hb1.mono (by simp):Below (w.heap.size+1) _ w1) (by omega)
  have B1:Below w.heap.size w w1:=((Below.refl _ w).alloc (Nat.le_refl _) _).trans (hb1.mono (by simp))
  have hW1:=hmH.out.1.below B1;have hw1:=Lib.hid (hW1.mono B1.size);obtain⟨c0,c1,c2,c3,c4,c5,c6,c7,c8,c9,c10⟩:=Zi (m:=m) (vw:=vw) (vh:=vh) (vr:=vr) H1;have z1:=H1.lt;have H1':=Lib.hid H1;clear hb1 H1 hW1;cases hi:ixB m i
  ·have hixi:=hixH.out i w1 hw1.out
   rw [hi] at hixi;have hix1:=Lib.hid hixi;clear hixi hE hi;go_wp2_with fail;refine hix1.out.mono ?_;rintro e w2 ⟨rfl,hb2⟩;go_wp2;refine bodyPost_ret (v:=.tuple #[.int .i64 0,.int .i64 0,.int .i64 0,.int .i64 1]) (by simp [results,Tryz.f103,go_sem]) rfl ⟨rfl,zB2⟩
  ·rw [hi] at hE
   have hj:ixB m j=false:=by simpa using hE
   have hixi:=hixH.out i w1 hw1.out;rw [hi] at hixi;have hix1:=Lib.hid hixi;clear hixi hE hi;go_wp2_with fail;refine hix1.out.mono ?_;rintro e w2 ⟨rfl,hb2⟩;have H2:=H1'.out.below hb2 z1;have B2:=B1.trans (hb2.mono (by omega))
   have hixj:=hixH.out j w2 ((hmH.out.1.below B2).mono B2.size);rw [hj] at hixj;have hix2:=Lib.hid hixj;obtain⟨c0,c1,c2,c3,c4,c5,c6,c7,c8,c9,c10⟩:=Zi (m:=m) (vw:=vw) (vh:=vh) (vr:=vr) H2;clear hixj hb2 H2 hj;go_wp2_with fail;refine hix2.out.mono ?_;rintro e w3 ⟨rfl,hb3⟩;go_wp2;refine bodyPost_ret (v:=.tuple #[.int .i64 0,.int .i64 0,.int .i64 0,.int .i64 1]) (by simp [results,Tryz.f103,go_sem]) rfl ⟨rfl,B2.trans (hb3.mono B2.size)⟩
set_option maxRecDepth 4000 in
theorem Zaj (m:Msn) (vw vh vr:Value) (i j:Nat) (w:World) (hm:MsnAt w.heap.size w m vw vh vr) (hV:validB m=true) (hi:i<m.ways.length) (hj:j<m.ways.length) :
  Calls Tryz.prog 103 #[.agg (Zd m vw vh vr),.int .i64 i,.int .i64 j] w fun e w'=>e=.returned (.tuple #[.int .i64 (dLeg m i j),.int .i64 (tLeg m i j),.int .i64 (gLeg m i j),.int .i64 0])∧Below w.heap.size w w':=by
 have hv:=Z0p m vw vh vr (w.alloc (.cells (Zd m vw vh vr) 26)) ((hm.below ((Below.refl _ _).alloc (Nat.le_refl _) _)).mono (by simp))
 rw [hV] at hv;have hv:=Lib.hid hv;have V:=(Zp m).1 hV;obtain⟨b,o,cap,rfl,hb,hc2⟩:=hm.1.cells (by omega)
 have hix:=fun (k:Nat) (hk:k<m.ways.length) w1 hw=>Z47 m (.slice (some ⟨b,o,none⟩) m.ways.length (m.ways.length+cap)) vh vr k w1 hw
 have hixH:=Lib.hid hix;have H0:=Has.new w (Zd m (.slice (some ⟨b,o,none⟩) m.ways.length (m.ways.length+cap)) vh vr) 26;have H0':=Lib.hid H0;have hmH:=Lib.hid hm;obtain⟨u0,u1,_,_,_⟩:=hc2 i hi;obtain⟨v0,v1,_,_,_⟩:=hc2 j hj;have hu:=Lib.hid (And.intro u0 (And.intro u1 (And.intro v0 v1)));obtain⟨y1,y2,y3,y4⟩:=ZJ V.ways hi;obtain⟨x1,x2,x3,x4⟩:=ZJ V.ways hj;obtain⟨m1,m2,m3,m4,m5,m6⟩:=V.leg;have d1:=Z11 V.ways hi hj;have hl:=fun w1=>Z0L (wy m.ways i).x (wy m.ways i).y (wy m.ways j).x (wy m.ways j).y w1 y1 y2 y3 y4 x1 x2 x3 x4
 have ht:=fun w1=>Z2n m (.slice (some ⟨b,o,none⟩) m.ways.length (m.ways.length+cap)) vh vr (dLeg m i j) w1 d1.1 d1.2 m1 m2
 have hg:=fun w1=>Z0R m (.slice (some ⟨b,o,none⟩) m.ways.length (m.ways.length+cap)) vh vr (dLeg m i j) w1 d1.1 d1.2 m1 m2 m3 m4 m5 m6
 change ∀ w1,Calls _ _ _ _ fun e w'=>e=.returned (.int .i64 (dLeg m i j))∧_ at hl
 change ∀ w1,Calls _ _ _ _ fun e w'=>e=.returned (.int .i64 (tLeg m i j))∧_ at ht
 change ∀ w1,Calls _ _ _ _ fun e w'=>e=.returned (.int .i64 (gLeg m i j))∧_ at hg
 generalize dLeg m i j=d at *;generalize tLeg m i j=t at *;generalize gLeg m i j=g at *;have hl':=Lib.hid hl;have ht':=Lib.hid ht;have hg':=Lib.hid hg;have hi':(i:Int)<m.ways.length:=by omega
 have hj':(j:Int)<m.ways.length:=by omega
 clear H0 hm hix hV V hc2 u0 u1 v0 v1 hl ht hg y1 y2 y3 y4 x1 x2 x3 x4 m1 m2 m3 m4 m5 m6 d1;unfold Zd at *;go_enter Tryz.func103,Tryz.ntmps103;go_wp2_with fail;refine hv.out.mono ?_;rintro e w1 ⟨rfl,hb1⟩;have H1:=H0'.out.below (hb1.mono (by simp):Below (w.heap.size+1) _ w1) (by omega)
 have B1:Below w.heap.size w w1:=((Below.refl _ w).alloc (Nat.le_refl _) _).trans (hb1.mono (by simp))
 have hix1:=hixH.out i hi w1 ((hmH.out.1.below B1).mono B1.size);rw [Z3t hi] at hix1;have hix1:=Lib.hid hix1;obtain⟨c0,c1,c2,c3,c4,c5,c6,c7,c8,c9,c10⟩:=Zi (m:=m) (vw:=.slice (some ⟨b,o,none⟩) m.ways.length (m.ways.length+cap)) (vh:=vh) (vr:=vr) H1;have z1:=H1.lt;have H1':=Lib.hid H1;clear hb1 H1;go_wp2_with fail;refine hix1.out.mono ?_;rintro e w2 ⟨rfl,hb2⟩;have H2:=H1'.out.below hb2 z1;have B2:=B1.trans (hb2.mono (by omega))
 have hix2:=hixH.out j hj w2 ((hmH.out.1.below B2).mono B2.size);rw [Z3t hj] at hix2;have hix2:=Lib.hid hix2;obtain⟨c0,c1,c2,c3,c4,c5,c6,c7,c8,c9,c10⟩:=Zi (m:=m) (vw:=.slice (some ⟨b,o,none⟩) m.ways.length (m.ways.length+cap)) (vh:=vh) (vr:=vr) H2;have z2:=H2.lt;have H2':=Lib.hid H2;clear hb2 H2;go_wp2_with fail;refine hix2.out.mono ?_;rintro e w3 ⟨rfl,hb3⟩;have H3:=H2'.out.below hb3 z2;have B3:=B2.trans (hb3.mono (by omega))
 obtain⟨c0,c1,c2,c3,c4,c5,c6,c7,c8,c9,c10⟩:=Z0W (m:=m) (vw:=.slice (some ⟨b,o,none⟩) m.ways.length (m.ways.length+cap)) (vh:=vh) (vr:=vr) H3;obtain⟨u0,u1,v0,v1⟩:=hu.out;have lu0:=Low.fact ((B3.cell (p:=⟨b,o+i*5,none⟩) hb).trans u0);have lu1:=Low.fact ((B3.cell (p:=⟨b,o+i*5+1,none⟩) hb).trans u1);have lv0:=Low.fact ((B3.cell (p:=⟨b,o+j*5,none⟩) hb).trans v0);have lv1:=Low.fact ((B3.cell (p:=⟨b,o+j*5+1,none⟩) hb).trans v1);have z3:=B3.size;clear hb3 H3 u0 u1 v0 v1;go_wp2
 (refine Zg (by kernel_rfl) (by kernel_rfl) ?_;(iterate 14 (apply Zf;(case hw=>rfl);(case hval=>(intro w1 hw1;have hcx:=Low.cells hw1;simp only [Oper.quietAt];go_simp;first | done | (first | (go_at_call 83;with_reducible exact (Low.calls hw1 (hl'.out _)))) | rfl | exact⟨rfl,rfl⟩));simp only [Act.put,zq5,zr5,zs5]));refine wpQuiet_nil ?_;intro w2 hw2)
 obtain⟨wa,rfl⟩:∃ wa,wa=w2:=⟨_,rfl⟩;have hwa:=hw2;clear hw2;replace c0:=fun w1 (h:Low wa w1)=>c0 w1 (Low.tr hwa h)
 replace c1:=fun w1 (h:Low wa w1)=>c1 w1 (Low.tr hwa h)
 replace c2:=fun w1 (h:Low wa w1)=>c2 w1 (Low.tr hwa h)
 replace c3:=fun w1 (h:Low wa w1)=>c3 w1 (Low.tr hwa h)
 replace c4:=fun w1 (h:Low wa w1)=>c4 w1 (Low.tr hwa h)
 replace c5:=fun w1 (h:Low wa w1)=>c5 w1 (Low.tr hwa h)
 replace c6:=fun w1 (h:Low wa w1)=>c6 w1 (Low.tr hwa h)
 replace c7:=fun w1 (h:Low wa w1)=>c7 w1 (Low.tr hwa h)
 replace c8:=fun w1 (h:Low wa w1)=>c8 w1 (Low.tr hwa h)
 replace c9:=fun w1 (h:Low wa w1)=>c9 w1 (Low.tr hwa h)
 replace c10:=fun w1 (h:Low wa w1)=>c10 w1 (Low.tr hwa h)
 go_wp2
 (refine Zg (by kernel_rfl) (by kernel_rfl) ?_;(iterate 11 (apply Zf;(case hw=>rfl);(case hval=>(intro w1 hw1;have hcx:=Low.cells hw1;simp only [Oper.quietAt];go_simp;first | done | (first | (go_at_call 148;with_reducible exact (Low.calls hw1 (ht'.out _))) | (go_at_call 82;with_reducible exact (Low.calls hw1 (hg'.out _)))) | rfl | exact⟨rfl,rfl⟩));simp only [Act.put,zq5,zr5,zs5]));refine wpQuiet_nil ?_;intro w2 hw2)
 go_wp2;refine bodyPost_ret (v:=.tuple #[.int .i64 d,.int .i64 t,.int .i64 g,.int .i64 0]) (by simp [results,Tryz.f103,go_sem]) rfl ⟨rfl,?_⟩
 exact B3.trans ((Low.tr hwa hw2).out.mono B3.size)
def ListQ (l:List Int) (w:World) (e:Ending) (w':World):Prop:=∃ v,e=.returned v∧Za w'.heap.size w' v l∧Below w.heap.size w w'
theorem Z8Q (m : Msn) (vw vh vr : Value) (k : Nat) (w : World) (hm : MsnAt w.heap.size w m vw vh vr) (hwb : waysB m.ways = true) (hk : k < m.ways.length) (h41 : m.ways.length ≤ 41) :
  Calls Tryz.prog 150 #[.agg (Zd m vw vh vr),.int .i64 k] w (ListQ (intL (upto (itB m k) (dep m k+1))) w):=by
 obtain⟨b,o,cap,rfl,hb,hc2⟩:=hm.1.cells (by omega)
 have hcH:=Lib.hid hc2;have hwbH:=Lib.hid hwb;have hd:=Z2f hwb hk;have H0:=Has.new w (Zd m (.slice (some ⟨b,o,none⟩) m.ways.length (m.ways.length+cap)) vh vr) 26;have H0':=Lib.hid H0;clear hc2 hwb hm H0;obtain⟨i0,hi,hz0',hz1',hz2'⟩:=info_parts intInfo;unfold Zd;go_enter Tryz.func150,Tryz.ntmps150;go_wp2
 go_loopw [1,5] (fun i v wr=>∃ j:Nat,j≤dep m k∧i=.int .i64 (itB m k j)∧wr.ownsRow (w.heap.size+1) 3 1 v (j+1) ((intL (upto (itB m k) (j+1))).map (Value.int .i64))∧Has wr w.heap.size (Zd m (.slice (some ⟨b,o,none⟩) m.ways.length (m.ways.length+cap)) vh vr) 26∧Below w.heap.size w wr) (fun i _ _=>(intOf i).toNat)
 case atStart =>
  refine⟨0,Nat.zero_le _,rfl,⟨by simp [intL,upto],.inr ⟨w.heap.size+1,1,#[.int .i64 k],rfl,Nat.le_refl _,?_,Nat.le_refl _,by unfold maxLen;omega,rfl,by simp [intL,upto,itB]⟩⟩,?_,zB2⟩
  ·have:=World.alloc_heap_new (w.alloc (.cells (Zd m (.slice (some ⟨b,o,none⟩) m.ways.length (m.ways.length+cap)) vh vr) 26)) (.cells #[.int .i64 k] 3)
   rwa [World.size_alloc] at this
  ·exact H0'.out.below ((Below.refl (w.heap.size+1) _).alloc (by simp) _) (by omega)
 case round =>
  obtain⟨j,hj,rfl,hrow,H,hB⟩:=hrel;have hlt:=Z1f hwbH.out hk hj;by_cases hz:itB m k j=0
  ·have hjd:=Z1H hwbH.out hk hj hz
   have hI:=Za.own hrow (by simp [intL,upto];omega)
   rw [hjd] at hI;have hI':=Lib.hid hI;rw [hz];clear hI hrow H hz hjd;go_wp2;go_ret;exact⟨_,rfl,hI'.out,hB⟩
  ·have hpos:0<itB m k j:=by omega
   have hjd:j<dep m k:=by
    rcases Nat.lt_or_ge j (dep m k) with h | h
    ·exact h
    ·exfalso
     have:j=dep m k:=by omega
     rw [this] at hz;exact hz (Z59 hwbH.out hk)
   have hdec:=Z6A hwbH.out hk hjd;have hbk:=Z0u hwbH.out hlt;obtain⟨q,hq⟩:∃ q:Nat,(wy m.ways (itB m k j)).back=q:=⟨_,(Int.toNat_of_nonneg hbk.1).symm⟩;have hq2:itB m k (j+1)=q:=by show (wy m.ways (itB m k j)).back.toNat=q;rw [hq];rfl
   obtain⟨_,_,_,_,p4⟩:=hcH.out _ hlt;have d1:wr.cell? ⟨b,o+itB m k j*5+4,none⟩=some (.int .i64 q):=by rw [← hq];exact (hB.cell (p:=⟨b,o+itB m k j*5+4,none⟩) hb).trans p4
   have c0:=(Zi (m:=m) (vh:=vh) (vr:=vr) H).1;have hX:=Lib.hid (And.intro H (And.intro hq hq2));have hz1:=hB.size;have hsz:=H.lt;rw [hq2] at hdec;rw [hq] at hbk;have hil:(itB m k j:Int)<m.ways.length:=by omega
   have hrow':=hrow;clear H hq hq2 hz p4;obtain⟨g0,cap0,rfl⟩:=ownsRow_succ hrow;go_wp2_with (at_builtin;refine wpList_append_own _ rfl _ _ 27 rfl (w.heap.size+1) 3 i0 (.int .i64 0) 1 8 Tryz.underlying27 hi hz0' hz1' hz2' rfl (by decide) _ _ _ rfl (hrow'.alloc _) ⟨wr.heap.size,0,none⟩ 1 1 [.int .i64 (q:Int)] rfl rfl (cell_one_new _ _ _) (by simp [Value.oneCell']) (by unfold maxLen;omega) (by omega) (by simp;omega) ?_;intro v' w1 hown' hgrow _;obtain⟨g',cap',rfl⟩:=ownsRow_succ hown')
   go_roundw
   case rel =>
    have hb0:Below (w.heap.size+1) wr w1:=((Below.refl (w.heap.size+1) wr).alloc (by omega) _).grown hgrow (by simp;omega) (fun j ej=>(hrow'.lt j ej).1)
    refine⟨j+1,by omega,by rw [hX.out.2.2],?_,hX.out.1.below hb0 (by omega),hB.trans (hb0.mono (by omega))⟩
    rw [show (intL (upto (itB m k) (j+1+1))).map (Value.int .i64)=(intL (upto (itB m k) (j+1))).map (Value.int .i64)++[.int .i64 (q:Int)] by rw [Zq _ (j+1),hX.out.2.2];simp [intL]]
    exact hown'
   case measure=>simp [intOf];omega
end
section
open Go.RowKit
noncomputable def okL (m:Msn) (i j:Int):Bool:=validB m && ixB m i && ixB m j
noncomputable def legA (m:Msn) (i j:Int):Int:=if okL m i j=true then dLeg m i.toNat j.toNat else 0
noncomputable def legT (m:Msn) (i j:Int):Int:=if okL m i j=true then tLeg m i.toNat j.toNat else 0
noncomputable def legG (m:Msn) (i j:Int):Int:=if okL m i j=true then gLeg m i.toNat j.toNat else 0
noncomputable def legE (m:Msn) (i j:Int):Int:=if okL m i j=true then 0 else 1
noncomputable def okR (m:Msn) (i:Int):Bool:=validB m && ixB m i
noncomputable def routeR (m:Msn) (i:Int):List Int:=if okR m i=true then intL (upto (itB m i.toNat) (dep m i.toNat+1)) else []
noncomputable def routeE (m:Msn) (i:Int):Int:=if okR m i=true then 0 else 1
theorem Z4O {m:Msn} {i j:Int} (h:okL m i j=true):∃ a b:Nat,i=a∧j=b∧a<m.ways.length∧b<m.ways.length∧validB m=true:=by
 simp only [okL,Bool.and_eq_true] at h;obtain⟨a,rfl,ha⟩:=Z24 h.1.2;obtain⟨b,rfl,hb⟩:=Z24 h.2;exact⟨a,b,rfl,rfl,ha,hb,h.1.1⟩
theorem Zas {m:Msn} {i:Int} (h:okR m i=true):∃ a:Nat,i=a∧a<m.ways.length∧validB m=true:=by
 simp only [okR,Bool.and_eq_true] at h;obtain⟨a,rfl,ha⟩:=Z24 h.2;exact⟨a,rfl,ha,h.1⟩
theorem Zb3 {m:Msn} {a b:Nat} (hv:validB m=true) (ha:a<m.ways.length) (hb:b<m.ways.length):okL m a b=true:=by simp [okL,hv,Z3t ha,Z3t hb]
theorem okR_mk {m:Msn} {a:Nat} (hv:validB m=true) (ha:a<m.ways.length):okR m a=true:=by simp [okR,hv,Z3t ha]
noncomputable def legV (m:Msn) (i j:Int):Value:=.tuple #[.int .i64 (legA m i j),.int .i64 (legT m i j),.int .i64 (legG m i j),.int .i64 (legE m i j)]
theorem Z3q {m:Msn} {a b:Nat} (hv:validB m=true) (ha:a<m.ways.length) (hb:b<m.ways.length):legV m a b=.tuple #[.int .i64 (dLeg m a b),.int .i64 (tLeg m a b),.int .i64 (gLeg m a b),.int .i64 0]:=by
 simp only [legV,legA,legT,legG,legE,Zb3 hv ha hb,if_true,Int.toNat_natCast]
theorem Z1U {m:Msn} {a:Nat} (hv:validB m=true) (ha:a<m.ways.length):routeR m a=intL (upto (itB m a) (dep m a+1))∧routeE m a=0:=by
 simp only [routeR,routeE,okR_mk hv ha,if_true,Int.toNat_natCast];exact⟨trivial,trivial⟩
theorem Z4U (m:Msn) (vw vh vr:Value) (i j:Int) (w:World) (hm:MsnAt w.heap.size w m vw vh vr) :
  Calls Tryz.prog 43 #[.agg (Zd m vw vh vr),.int .i64 i,.int .i64 j] w fun e w'=>e=.returned (legV m i j)∧Below w.heap.size w w':=by
 cases h:okL m i j
 ·simp only [legV,legA,legT,legG,legE,h,Bool.false_eq_true,if_false]
  exact leg_no m vw vh vr i j w hm h
 ·simp only [legV,legA,legT,legG,legE,h,if_true]
  obtain⟨a,b,rfl,rfl,ha,hb,hv⟩:=Z4O h;exact Z9g m vw vh vr a b w hm hv ha hb
theorem Z74 (m:Msn) (vw vh vr:Value) (i j:Int) (w:World) (hm:MsnAt w.heap.size w m vw vh vr) :
  Calls Tryz.prog 103 #[.agg (Zd m vw vh vr),.int .i64 i,.int .i64 j] w fun e w'=>e=.returned (legV m i j)∧Below w.heap.size w w':=by
 cases h:okL m i j
 ·simp only [legV,legA,legT,legG,legE,h,Bool.false_eq_true,if_false]
  exact Zbi m vw vh vr i j w hm h
 ·simp only [legV,legA,legT,legG,legE,h,if_true]
  obtain⟨a,b,rfl,rfl,ha,hb,hv⟩:=Z4O h;exact Zaj m vw vh vr a b w hm hv ha hb
theorem Z5r (m:Msn) (vw vh vr:Value) (i:Int) (w:World) (hm:MsnAt w.heap.size w m vw vh vr) :
  Calls Tryz.prog 80 #[.agg (Zd m vw vh vr),.int .i64 i] w (RouteQ (routeR m i) (routeE m i) w):=by
 cases h:okR m i
 ·simp only [routeR,routeE,h,Bool.false_eq_true,if_false]
  exact Zah m vw vh vr i w hm h
 ·simp only [routeR,routeE,h,if_true]
  obtain⟨a,rfl,ha,hv⟩:=Zas h;exact Z8M m vw vh vr a w hm hv ha
end
end Go.Proofs.YtpimbaaahcemhaaGreat
