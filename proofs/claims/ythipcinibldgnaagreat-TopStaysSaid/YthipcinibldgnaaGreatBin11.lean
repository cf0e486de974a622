/- package power: leg, Cost. | package power: add, go1, wait, Home. | package power: set: a map of stops. | package power: ways: the iterator over the .. -/
import Derived.Maps.OwnSet
import Derived.Maps.OwnOps
import Derived.Maps.Views
import Derived.LoopTactic
import Derived.Test.YthipcinibldgnaaGreatBin10
import Derived.OwnWalkIn
open Go.Value renaming int->O,pointer->qP,slice->qS,bool->qB,tuple->qT
open Go.Ending renaming returned->qR
open Go.Obj renaming cells->qC
open Go.IntKind renaming wrap->qW,i64->qL
open Go.Lib renaming hid->qH
open Go.RowKit.Below renaming refl->qK
open Go.World renaming setCell->qU
open Nat renaming le_refl->qN
open And renaming intro->qI
open Go.Act renaming put->qJ
set_option linter.unusedSimpArgs false
set_option maxRecDepth 8000
set_option maxHeartbeats 4000000
namespace Go.Proofs.YthipcinibldgnaaGreat
section
attribute [local irreducible] wpQuiet
open Go.RowKit
def eLeg (m:Msn) (i j:Nat):Int:=m.idle*tLeg m i j+m.drive*dLeg m i j
theorem Z3V {m:Msn} (V:VMsn m) {i j:Nat} (hi:i<m.ways.length) (hj:j<m.ways.length) :
  0<=m.idle*tLeg m i j/\m.idle*tLeg m i j<=90000000000/\0<=m.drive*dLeg m i j/\m.drive*dLeg m i j<=900000000/\0<=eLeg m i j/\eLeg m i j<=90900000000:=by
 have t:=Z3i V.leg V.ways hi hj;have d:=Z2F V.ways hi hj;have e:=Int.mul_nonneg V.idle.1 t.1;have a:=Int.mul_nonneg V.drive.1 d.1;have b:=Int.mul_le_mul V.idle.2 t.2 t.1 (by omega)
 have c:=Int.mul_le_mul V.drive.2 d.2 d.1 (by omega)
 unfold eLeg;omega
theorem ZcL (m:Msn) (vw vh vr:Value) (i j:Int) (w:World) (hm:MsnAt w.heap.size w m vw vh vr) (hE:okL m i j=false) :
  Calls Tryz.prog 104 #[.agg (Zc m vw vh vr),O qL i,O qL j] w fun e w'=>e=qR (qT #[.agg #[O qL 0,O qL 0],O qL 1])/\Below w.heap.size w w':=by
 have f:Below w.heap.size w ((w.alloc (qC (Zc m vw vh vr) 26)).alloc (qC #[O qL 0,O qL 0] 117)):=((qK _ _).alloc (qN _) _).alloc (by first | omega | (simp;done) | (simp;omega)) _
 have c:=Z1U m vw vh vr i j _ ((hm.below f).mono f.size);simp only [legV,legA,legT,legG,legE,hE,Bool.false_eq_true,if_false] at c;have c:=qH c;have H:=Has.new (w.alloc (qC (Zc m vw vh vr) 26)) #[O qL 0,O qL 0] 117;rw [show (w.alloc (qC (Zc m vw vh vr) 26)).heap.size=w.heap.size+1 by simp] at H
 have H:=qH H;clear hm hE f;unfold Zc at *;go_enter Tryz.func104,Tryz.ntmps104;go_wp2_with (go_at_call 20;refine (c.out).mono ?_;rintro e r ⟨rfl,a⟩;have b:=H.out.below a (by simp);obtain⟨g,n⟩:=bcell a;have s:=Zl b (i:=0) rfl;have p:=Zl b (i:=1) rfl;have o:=Ze b 0;have q:=Ze b 1;have d:=a.size;try simp at d)
 have l:=Zl (b.set 0 (O qL 0)) (i:=0) rfl;have k:=Zl ((b.set 0 (O qL 0)).set 1 (O qL 0)) (i:=1) rfl;refine bodyPost_ret (v:=qT #[.agg #[O qL 0,O qL 0],O qL 1]) (by simp [results,Tryz.f104,go_sem,l,k]) rfl ⟨rfl,?_⟩
 repeat (first | exact qK _ _ | assumption | apply Below.drew | refine Below.setCell ?_ (by first | omega | (simp;done) | (simp;omega)) _ | refine Below.alloc ?_ (by first | omega | (simp;done) | (simp;omega)) _ | refine Below.call (by assumption) ?_ (by first | omega | (simp;done) | (simp;omega)))
theorem Z7w (m:Msn) (vw vh vr:Value) (i j:Nat) (w:World) (hm:MsnAt w.heap.size w m vw vh vr) (hV:validB m=true) (hi:i<m.ways.length) (hj:j<m.ways.length) :
  Calls Tryz.prog 104 #[.agg (Zc m vw vh vr),O qL i,O qL j] w fun e w'=>e=qR (qT #[.agg #[O qL (tLeg m i j),O qL (eLeg m i j)],O qL 0])/\Below w.heap.size w w':=by
 have k:Below w.heap.size w ((w.alloc (qC (Zc m vw vh vr) 26)).alloc (qC #[O qL 0,O qL 0] 117)):=((qK _ _).alloc (qN _) _).alloc (by first | omega | (simp;done) | (simp;omega)) _
 have f:=Z1U m vw vh vr i j _ ((hm.below k).mono k.size);rw [Z1T hV hi hj] at f;have f:=qH f;have b:=Z3V ((Zm m).1 hV) hi hj;have p:qW qL (m.idle*tLeg m i j)=m.idle*tLeg m i j:=zW2;have y:qW qL (m.drive*dLeg m i j)=m.drive*dLeg m i j:=zW2;have s:qW qL (m.idle*tLeg m i j+m.drive*dLeg m i j)=m.idle*tLeg m i j+m.drive*dLeg m i j:=zW2;unfold eLeg;generalize tLeg m i j=t at *;generalize dLeg m i j=d at *;generalize gLeg m i j=g at *;have H:=Has.new (w.alloc (qC (Zc m vw vh vr) 26)) #[O qL 0,O qL 0] 117;rw [show (w.alloc (qC (Zc m vw vh vr) 26)).heap.size=w.heap.size+1 by simp] at H
 have H:=qH H;clear hm hV k b;unfold Zc at *;go_enter Tryz.func104,Tryz.ntmps104;go_wp2_with (go_at_call 20;refine (f.out).mono ?_;rintro e x ⟨rfl,a⟩;have c:=H.out.below a (by simp);obtain⟨n,r⟩:=bcell a;have A:=Zl c (i:=0) rfl;have p:=Zl c (i:=1) rfl;have z:=Ze c 0;have u:=Ze c 1;have l:=a.size;try simp at l)
 have o:=Zl (c.set 0 (O qL t)) (i:=0) rfl;have q:=Zl ((c.set 0 (O qL t)).set 1 (O qL (m.idle*t+m.drive*d))) (i:=1) rfl;refine bodyPost_ret (v:=qT #[.agg #[O qL t,O qL (m.idle*t+m.drive*d)],O qL 0]) (by simp [results,Tryz.f104,go_sem,o,q]) rfl ⟨rfl,?_⟩
 repeat (first | exact qK _ _ | assumption | apply Below.drew | refine Below.setCell ?_ (by first | omega | (simp;done) | (simp;omega)) _ | refine Below.alloc ?_ (by first | omega | (simp;done) | (simp;omega)) _ | refine Below.call (by assumption) ?_ (by first | omega | (simp;done) | (simp;omega)))
noncomputable def pTV (m:Msn) (i j:Int):Int:=if okL m i j=true then tLeg m i.toNat j.toNat else 0
noncomputable def pE (m:Msn) (i j:Int):Int:=if okL m i j=true then eLeg m i.toNat j.toNat else 0
theorem Zby (m:Msn) (vw vh vr:Value) (i j:Int) (w:World) (hm:MsnAt w.heap.size w m vw vh vr) :
  Calls Tryz.prog 104 #[.agg (Zc m vw vh vr),O qL i,O qL j] w fun e w'=>e=qR (qT #[.agg #[O qL (pTV m i j),O qL (pE m i j)],O qL (legE m i j)])/\Below w.heap.size w w':=by
 cases h:okL m i j
 ·simp only [pTV,pE,legE,h,Bool.false_eq_true,if_false]
  exact ZcL m vw vh vr i j w hm h
 ·simp only [pTV,pE,legE,h,if_true]
  obtain⟨a,b,rfl,rfl,c,d,f⟩:=Z7z h;exact Z7w m vw vh vr a b w hm f c d
theorem Z9F (m:Msn) (vw vh vr:Value) (i j:Int) (w:World) (hm:MsnAt w.heap.size w m vw vh vr) :
  Calls Tryz.prog 47 #[.agg (Zc m vw vh vr),O qL i,O qL j] w fun e w'=>e=qR (qT #[O qL (pTV m i j),O qL (pE m i j),O qL (legE m i j)])/\Below w.heap.size w w':=by
 have d:Below w.heap.size w (w.alloc (qC (Zc m vw vh vr) 26)):=(qK _ _).alloc (qN _) _;have b:=Zby m vw vh vr i j _ ((hm.below d).mono d.size);cases h:okL m i j
 ·simp only [pTV,pE,legE,h,Bool.false_eq_true,if_false] at b ⊢
  have b:=qH b;clear hm d h;unfold Zc at *;go_enter Tryz.func47,Tryz.ntmps47;go_wp2_with (go_at_call 104;refine (b.out).mono ?_;rintro e k ⟨rfl,a⟩;obtain⟨f,g⟩:=bcell a;have c:=a.size;try simp at c)
  go_ret3;exact⟨rfl,zB2⟩
 ·simp only [pTV,pE,legE,h,if_true] at b ⊢
  have b:=qH b;clear hm d h;generalize tLeg m i.toNat j.toNat=t at *;generalize eLeg m i.toNat j.toNat=e0 at *;unfold Zc at *;go_enter Tryz.func47,Tryz.ntmps47;go_wp2_with (go_at_call 104;refine (b.out).mono ?_;rintro e k ⟨rfl,a⟩;obtain⟨f,g⟩:=bcell a;have c:=a.size;try simp at c)
  go_quiet (fail)
  go_wp2;go_ret3;refine⟨rfl,Z44 ?_ _⟩
  repeat (first | exact qK _ _ | assumption | apply Below.drew | refine Below.setCell ?_ (by first | omega | (simp;done) | (simp;omega)) _ | refine Below.alloc ?_ (by first | omega | (simp;done) | (simp;omega)) _ | refine Below.call (by assumption) ?_ (by first | omega | (simp;done) | (simp;omega)))
structure Only (b:Nat) (w w':World):Prop where
 os:w'.os=w.os
 tape:w'.tape=w.tape
 output:w'.output=w.output
 size:w.heap.size<=w'.heap.size
 block:∀ k,k<w.heap.size->k≠b->w'.heap[k]?=w.heap[k]?
theorem Only.of_below {b:Nat} {w w':World} (h:Below w.heap.size w w'):Only b w w':=⟨h.os,h.tape,h.output,h.size,fun k hk _=>h.block k hk⟩
theorem Only.trans {b:Nat} {x y z:World} (h:Only b x y) (k:Only b y z):Only b x z :=
 ⟨k.os.trans h.os,k.tape.trans h.tape,k.output.trans h.output,Nat.le_trans h.size k.size,fun i hi hne=>(k.block i (Nat.lt_of_lt_of_le hi h.size) hne).trans (h.block i hi hne)⟩
theorem Only.below {b n:Nat} {w w':World} (h:Only b w w') (hn:n<=b) (hw:n<=w.heap.size):Below n w w':=⟨h.os,h.tape,h.output,h.size,fun k hk=>h.block k (by omega) (by omega)⟩
theorem Only.set {b:Nat} {w w':World} (h:Only b w w') (i:Nat) (v:Value):Only b w (w'.setCell ⟨b,i,none⟩ v) :=
 ⟨h.os,h.tape,h.output,by simpa [qU] using h.size,fun k hk hne=>(Below.heap_setCell w' ⟨b,i,none⟩ v k hne).trans (h.block k hk hne)⟩
def spentCells (m:Msn) (vw vh vr:Value) (t e:Int):Array Value :=
 #[O qL t,O qL e,vw,vh,O qL m.start,vr,O qL m.speed,O qL m.part,O qL m.flow,O qL m.idle,O qL m.drive,O qL m.battery,O qL m.deadline]
theorem Zb8 (B:Nat) (m:Msn) (vw vh vr:Value) (t e t2 e2:Int) (w:World) (H:w.heap[B]?=some (qC (spentCells m vw vh vr t e) 119 (0,0)))
  (ht:qW qL (t+t2)=t+t2) (he:qW qL (e+e2)=e+e2) :
  Calls Tryz.prog 112 #[qP (some ⟨B,0,none⟩),.agg #[O qL t2,O qL e2]] w fun r w'=>(∃ v,r=qR v)/\w'.heap[B]?=some (qC (spentCells m vw vh vr (t+t2) (e+e2)) 119 (0,0))/\Only B w w':=by
 have a:=(Array.getElem?_eq_some_iff.1 H).1;have d:w.cell? ⟨B,0,none⟩=some (O qL t):=Zl H (i:=0) rfl;have g:w.cell? ⟨B,1,none⟩=some (O qL e):=Zl H (i:=1) rfl;have f:=Ze H 0;have c:=Ze H 1;have b:=qH H;clear H;go_enter Tryz.func112,Tryz.ntmps112;go_wp2
 go_region
 all_goals go_wp2
 all_goals go_end0
 all_goals refine⟨⟨_,rfl⟩,(((Has.set (Has.set b.out 0 _) 1 _).below ((qK (B+1) _).alloc (by simp [qU];omega) _) (by omega)):_),⟨rfl,rfl,rfl,by simp [qU],fun k hk hne=>?_⟩⟩
 all_goals
  refine (((qK _ _).alloc (qN _) _).block k (by simpa [qU] using hk):_=(qU (qU w ⟨B,0,none⟩ (O qL (t+t2))) ⟨B,1,none⟩ (O qL (e+e2))).heap[k]?).trans ?_
  exact (((Only.of_below (qK _ w)).set 0 _).set 1 _).block k hk hne
theorem Z6z {W:World} {B:Nat} {m:Msn} {vw vh vr:Value} {t e:Int} {T:TypeId} (H:W.heap[B]?=some (qC (spentCells m vw vh vr t e) T (0,0))):W.cell? ⟨B,2,none⟩=some vw/\W.cell? ⟨B,3,none⟩=some vh/\W.cell? ⟨B,4,none⟩=some (O qL m.start)/\W.cell? ⟨B,5,none⟩=some vr/\W.cell? ⟨B,6,none⟩=some (O qL m.speed)/\W.cell? ⟨B,7,none⟩=some (O qL m.part)/\W.cell? ⟨B,8,none⟩=some (O qL m.flow)/\W.cell? ⟨B,9,none⟩=some (O qL m.idle)/\W.cell? ⟨B,10,none⟩=some (O qL m.drive)/\W.cell? ⟨B,11,none⟩=some (O qL m.battery)/\W.cell? ⟨B,12,none⟩=some (O qL m.deadline) :=
 ⟨Zl H (i:=2) rfl,Zl H (i:=3) rfl,Zl H (i:=4) rfl,Zl H (i:=5) rfl,Zl H (i:=6) rfl,Zl H (i:=7) rfl,Zl H (i:=8) rfl,Zl H (i:=9) rfl,Zl H (i:=10) rfl,Zl H (i:=11) rfl,Zl H (i:=12) rfl⟩
def SpentQ (B:Nat) (m:Msn) (vw vh vr:Value) (t e:Int) (w:World) (r:Ending) (w':World):Prop :=
 (∃ v,r=qR v)/\w'.heap[B]?=some (qC (spentCells m vw vh vr t e) 119 (0,0))/\Only B w w'
theorem Zao (B:Nat) (m:Msn) (vw vh vr:Value) (t e:Int) (i j:Nat) (w:World) (H:w.heap[B]?=some (qC (spentCells m vw vh vr t e) 119 (0,0)))
  (hm:MsnAt w.heap.size w m vw vh vr) (hV:validB m=true) (hi:i<m.ways.length) (hj:j<m.ways.length) (t1:0<=t) (t2:t<=1000000000000000) (e1:0<=e) (e2:e<=1000000000000000) :
  Calls Tryz.prog 62 #[qP (some ⟨B,0,none⟩),O qL i,O qL j] w (SpentQ B m vw vh vr (t+tLeg m i j) (e+eLeg m i j) w):=by
 have g:=(Array.getElem?_eq_some_iff.1 H).1;have V:=(Zm m).1 hV;have J:=Z3i V.leg V.ways hi hj;have F:=Z3V V hi hj;have d:=Z7w m vw vh vr i j w hm hV hi hj;have z:qW qL (t+tLeg m i j)=t+tLeg m i j:=zW2;have E:qW qL (e+eLeg m i j)=e+eLeg m i j:=zW2;generalize tLeg m i j=dt at *;generalize eLeg m i j=de at *;have d:=qH d;have y:=qH (qI z E);obtain⟨T,N,K,S,G,I,P,L,q,o,l⟩:=Z6z H;have M:=qH H;clear H hm hV V z E J F;unfold Zc at d;go_enter Tryz.func62,Tryz.ntmps62;go_wp2_with fail;refine d.out.mono ?_;rintro r p ⟨rfl,a⟩;have C:=(a.block B g).trans M.out;have u:=qH C;clear T N K S G I P L q o l;have U:=a.size;have k:=qH a;clear a C;go_wp2;have f:=Has.new p #[O qL dt,O qL de] 117;have R:=Low.fact (cX 0 f rfl);have Q:=Low.fact (cX 1 f rfl);have W:=qH f;clear f
 (refine (wpIn_wide (n:=9)).1 ?_;refine Zn (Zk _) 4 (by kernel_rfl) (by kernel_rfl) (by kernel_rfl) ?_;simp only [List.take_succ_cons,List.take_zero,List.drop_succ_cons,List.drop_zero];(iterate 4 (apply qw3;(case hw=>rfl);(case hval=>(intro p hw1 hcx;simp only [Oper.quietAt];go_simp;first | done | rfl | exact⟨rfl,rfl⟩));simp only [pT]));refine wpQuiet_nil ?_;intro w2 hw2)
 have D:=qH (((qK _ p).alloc (qN _) (qC #[O qL dt,O qL de] 117)).trans (hw2.out.mono (by simp)))
 have x:=(D.out.block B (by omega)).trans u.out
 have s:=qH x;clear x hw2 R Q
 gi_wp2_with (refine⟨trivial,?_⟩;gi_at_call 112;refine (callsIn_wide.2 (Zb8 B m vw vh vr t e dt de _ s.out y.out.1 y.out.2)).mono ?_;rintro r X ⟨⟨v,rfl⟩,b,c⟩)
 have A:=qH (qI b (((Only.of_below k.out).trans (Only.of_below D.out)).trans c));clear b c;go_wp2;go_end0;exact⟨⟨_,rfl⟩,A.out.1,A.out.2⟩
theorem Z7k (B:Nat) (m:Msn) (vw vh vr:Value) (t e:Int) (i:Nat) (w:World) (H:w.heap[B]?=some (qC (spentCells m vw vh vr t e) 119 (0,0)))
  (hm:MsnAt w.heap.size w m vw vh vr) (hV:validB m=true) (hi:i<m.ways.length) (t1:0<=t) (t2:t<=1000000000000000) (e1:0<=e) (e2:e<=1000000000000000) :
  Calls Tryz.prog 150 #[qP (some ⟨B,0,none⟩),O qL i] w (SpentQ B m vw vh vr (t+(wy m.ways i).wait) (e+m.idle*(wy m.ways i).wait) w):=by
 have j:=(Array.getElem?_eq_some_iff.1 H).1;have V:=(Zm m).1 hV;have p:=ZP (Z0b V.ways hi);have E:=ZH (a:=m.idle) (b:=(wy m.ways i).wait) (m:=1000) (n:=100000) (by have:=V.idle;omega) (by have:=V.idle;omega) (by omega) (by omega)
 have A:=Int.mul_nonneg V.idle.1 p.2.2.2.2.2.2.1;have K:qW qL (m.idle*(wy m.ways i).wait)=m.idle*(wy m.ways i).wait:=zW2;have x:qW qL (t+(wy m.ways i).wait)=t+(wy m.ways i).wait:=zW2;have y:qW qL (e+m.idle*(wy m.ways i).wait)=e+m.idle*(wy m.ways i).wait:=zW2;obtain⟨b,o,k,rfl,M,f⟩:=hm.1.cells (by omega)
 have J:=(f i hi).2.2.2.1;have u:=qH (qI x y);have I:(i:Int)<m.ways.length:=by omega
 have L:(0:Int)<=i:=by omega
 generalize (wy m.ways i).wait=q at *;have D:w.cell? ⟨B,2,none⟩=some (qS (some ⟨b,o,none⟩) m.ways.length (m.ways.length+k)):=Zl H (i:=2) rfl;have d:w.cell? ⟨B,9,none⟩=some (O qL m.idle):=Zl H (i:=9) rfl;have F:=Low.fact d;have C:=qH H;clear H hm hV V x y p E A f d;go_enter Tryz.func150,Tryz.ntmps150;go_wp2
 (refine (wpIn_wide (n:=9)).1 ?_;refine Zn (Zk _) 12 (by kernel_rfl) (by kernel_rfl) (by kernel_rfl) ?_;simp only [List.take_succ_cons,List.take_zero,List.drop_succ_cons,List.drop_zero];(iterate 12 (apply qw3;(case hw=>rfl);(case hval=>(intro w1 hw1 hcx;simp only [Oper.quietAt];go_simp;first | done | rfl | exact⟨rfl,rfl⟩));simp only [pT]));refine wpQuiet_nil ?_;intro w2 hw2)
 have s:=(hw2.out.block B j).trans C.out;have l:=qH s;have G:=qH hw2.out;clear s hw2 F
 gi_wp2_with (refine⟨trivial,?_⟩;gi_at_call 112;refine (callsIn_wide.2 (Zb8 B m _ vh vr t e q (m.idle*q) _ l.out u.out.1 u.out.2)).mono ?_;rintro r N ⟨⟨v,rfl⟩,c,g⟩)
 have z:=qH (qI c ((Only.of_below G.out).trans g));clear c g;go_wp2;go_end0;exact⟨⟨_,rfl⟩,z.out.1,z.out.2⟩
end
section
attribute [local irreducible] wpQuiet
open Go.RowKit Go.Maps
theorem keyInt:Keyed Tryz.prog 3:=int_keyed Tryz.underlying3
theorem zeroBool (w:World):(zeroValue 4).run Tryz.prog w=.ok (qB false) w:=by kernel_rfl
def SetAt (W:World) (b:Nat) (l:List Int):Prop:=∃ (n:Nat) (D:DataW Unit),W.ownsMap Tryz.prog 3 (plainElem Tryz.prog 4) b n D/\n<=l.length/\(∃ es,D=.map es)/\∀ k:Int,(Lit.int .i64 k).wf=true->D.atKey (.int .i64 k) (.lit (.bool false))=.lit (.bool (decide (k ∈ l)))
theorem SetAt.made (w:World):SetAt (w.alloc (.map #[] 0)) w.heap.size []:=⟨0,_,World.ownsMap_made _ _ _ _,qN _,⟨[],rfl⟩,fun k _=>by simp [DataW.atKey]⟩
theorem SetAt.lt {W:World} {b:Nat} {l:List Int} (h:SetAt W b l):b<W.heap.size:=by obtain⟨n,D,a,_⟩:=h;exact a.lt
theorem SetAt.block {W W':World} {b:Nat} {l:List Int} (h:SetAt W b l) (hb:W'.heap[b]?=W.heap[b]?):SetAt W' b l:=by
 obtain⟨n,D,⟨d,a,g,F,hs,j⟩,c,e,f⟩:=h;exact⟨n,D,⟨d,a,hb.trans g,F,hs,j⟩,c,e,f⟩
theorem SetAt.look {W:World} {b:Nat} {l:List Int} (h:SetAt W b l) {k:Int} (hk:(Lit.int .i64 k).wf=true):(Instr.lookup 148 (.map (some b)) (.int .i64 k) false).run Tryz.prog W=.ok (.bool (decide (k ∈ l))) W:=by
 obtain⟨n,D,e,_,_,d⟩:=h;obtain⟨v,f,a,c⟩:=e.lookup keyInt Tryz.underlying148 (zeroBool W) (plainElem_bool Tryz.underlying4 false) (keyOf_int_mk Tryz.underlying3 hk);rw [d k hk] at c;rw [a];unfold plainElem at c;rw [Tryz.underlying4] at c;cases v <;> simp_all
def prevS (l:List Int) (k:Nat):Int:=if k=0 then 0 else l.getD (k-1) 0
def stopOk (m:Msn) (l:List Int) (k:Nat):Prop:=prevS l k<l.getD k 0/\l.getD k 0<m.ways.length/\(wy m.ways (l.getD k 0).toNat).fix≠0
instance (m:Msn) (l:List Int) (k:Nat):Decidable (stopOk m l k):=by unfold stopOk;infer_instance
def stopsB (m:Msn) (l:List Int):Bool:=decide (∀ k,k<l.length->stopOk m l k)
theorem Z04 {m:Msn} {l:List Int} {k:Nat} (hk:k<l.length) (h:¬ stopOk m l k):stopsB m l=false:=by
 simp only [stopsB,decide_eq_false_iff_not];intro h2;exact h (h2 k hk)
theorem Z0x {m:Msn} {l:List Int} {k:Nat} (h:∀ j,j<k->stopOk m l j):∀ j,j<=k->0<=prevS l j
 | 0,_=>by simp [prevS]
 | j + 1, hj => by
  have ih:=Z0x h j (by omega)
  have:=(h j (by omega)).1
  simp only [prevS,Nat.add_one_ne_zero,if_false,Nat.add_sub_cancel];omega
def SetQ (l:List Int) (w:World) (e:Ending) (w':World):Prop:=∃ b,e=qR (qT #[.map (some b),qB true])/\SetAt w' b l/\w.heap.size<=b/\Below w.heap.size w w'
theorem SetAt.put {b:Nat} {l:List Int} {s:Int} (hs:(Lit.int .i64 s).wf=true) {n:Nat} {D:DataW Unit} {W':World} (hn:n<=l.length) (hm:∃ es,D=.map es)
  (hat:∀ k:Int,(Lit.int .i64 k).wf=true->D.atKey (.int .i64 k) (.lit (.bool false))=.lit (.bool (decide (k ∈ l))))
  (h:W'.ownsMap Tryz.prog 3 (plainElem Tryz.prog 4) b (n+1) (D.put (.int .i64 s) (.lit (.bool true)))):SetAt W' b (l++[s]):=by
 refine⟨n+1,_,h,by simp;omega,?_,fun k hk=>?_⟩
 ·obtain⟨es,rfl⟩:=hm;exact IsMap.put ⟨es,rfl⟩ _ _
 ·by_cases e:k=s
  ·subst e
   rw [atKey_put_same hm (by trivial)]
   simp
  ·rw [atKey_put_other (by intro h;injection h with _ h2;exact e h2),hat k hk]
   simp [e]
def SetsQ (m:Msn) (l:List Int) (w:World) (e:Ending) (w':World):Prop :=
 (stopsB m l=false/\e=qR (qT #[.map none,qB false])/\Below w.heap.size w w')\/(stopsB m l=true/\SetQ l w e w')
theorem Z3M {n:Int} (h1:-9223372036854775808<=n) (h2:n<=9223372036854775807):(Lit.int .i64 n).wf=true:=by
 simp [Lit.wf,IntKind.min,IntKind.max,IntKind.signed,IntKind.bits];omega
theorem ZcG (m : Msn) (vw vh vr vl : Value) (l : List Int) (w : World) (hw : WaysAt w.heap.size w vw m.ways) (hl : Z8 w.heap.size w vl l) :
  Calls Tryz.prog 93 #[.agg (Zc m vw vh vr),vl] w (SetsQ m l w):=by
 obtain⟨hll,al,capl,rfl,E⟩:=hl;obtain⟨hwl,J,a,rfl,K⟩:=hw;have H0:=Has.new w (Zc m (qS J m.ways.length (m.ways.length+a)) vh vr) 26;have z:=SetAt.made (w.alloc (qC (Zc m (qS J m.ways.length (m.ways.length+a)) vh vr) 26));rw [World.size_alloc] at z;have H1:=H0.below ((qK (w.heap.size+1) _).alloc (by simp) (.map #[] 0)) (by omega)
 have ab:=qH H1;have S:=qH z;have aa:=qH E;have Q:=qH K;have X:=@run_makeMap Tryz.prog;clear E K H0 H1 z;unfold Zc at *;go_enter Tryz.func93,Tryz.ntmps93;go_wp2;clear X
 go_loopw [7,13] (fun s i wr=>∃ k:Nat,k<=l.length/\i=O qL k/\s=O qL (prevS l k)/\(∀ j,j<k->stopOk m l j)/\SetAt wr (w.heap.size+1) (l.take k)/\Has wr w.heap.size (Zc m (qS J m.ways.length (m.ways.length+a)) vh vr) 26/\Below w.heap.size w wr) (fun _ i _=>l.length-(intOf i).toNat)
 case atStart=>exact⟨0,by omega,rfl,rfl,fun j hj=>by omega,S.out,ab.out,((qK _ _).alloc (qN _) _).alloc (by first | omega | (simp;done) | (simp;omega)) _⟩
 case round =>
  obtain⟨k,hk,rfl,rfl,f,hS,H,t⟩:=hrel;have hzr:=t.size;have hlt1:=H.lt;have g:=qH f;have HH:=qH H;have cc:wr.cell? ⟨w.heap.size,0,none⟩=some (qS J m.ways.length (m.ways.length+a)):=cX 0 H rfl;have hp:=Z0x f k (qN _);have HS:=qH hS;clear f H hS;by_cases hlt:k<l.length
  ·obtain ⟨bl, ol, rfl, Y, L⟩ : ∃ b1 o1, al = some ⟨b1, o1, none⟩ /\ b1 < w.heap.size /\ ∀ j, j < l.length -> w.cell? ⟨b1, o1 + j, none⟩ = some (O qL (l.getD j 0)) := by
    rcases aa.out with h | h
    ·rw [h] at hlt;simp at hlt
    ·exact h
   have f1:=(t.cell (p:=⟨bl,ol+k,none⟩) Y).trans (L k hlt);have A:prevS l (k+1)=l.getD k 0:=by simp [prevS]
   have v:l.take (k+1)=l.take k++[l.getD k 0]:=by
    rw [List.take_succ_eq_append_getElem hlt];simp [List.getD,List.getElem?_eq_getElem hlt]
   have r:stopOk m l k↔prevS l k<l.getD k 0/\l.getD k 0<m.ways.length/\(wy m.ways (l.getD k 0).toNat).fix≠0:=Iff.rfl;clear L;obtain⟨s,hs⟩:∃ s,l.getD k 0=s:=⟨_,rfl⟩;obtain⟨M,B⟩:∃ M,prevS l k=M:=⟨_,rfl⟩;rw [hs] at f1 A v r;rw [B] at hp r ⊢;have HK:=qH (qI A (qI v hs));have T:=qH r;clear A v hs B r;by_cases h1:M<s
   ·have d1 : decide (s <= M) = false := by simp; omega
    by_cases h2:s<m.ways.length
    ·have d2:decide ((m.ways.length:Int)<=s)=false:=by simp;omega
     obtain⟨q,rfl⟩:∃ q:Nat,s=q:=⟨s.toNat,by omega⟩
     obtain⟨bw,ow,rfl,V,F⟩:∃ b o,J=some ⟨b,o,none⟩/\b<w.heap.size/\∀ j,j<m.ways.length->w.cell? ⟨b,o+j*5,none⟩=some (O qL (wy m.ways j).x)/\w.cell? ⟨b,o+j*5+1,none⟩=some (O qL (wy m.ways j).y)/\w.cell? ⟨b,o+j*5+2,none⟩=some (O qL (wy m.ways j).fix)/\w.cell? ⟨b,o+j*5+3,none⟩=some (O qL (wy m.ways j).wait)/\w.cell? ⟨b,o+j*5+4,none⟩=some (O qL (wy m.ways j).back):=by
      rcases Q.out with h | h
      ·rw [h] at h2;simp at h2;omega
      ·exact h
     have f2:=(t.cell (p:=⟨bw,ow+q*5+2,none⟩) V).trans (F q (by omega)).2.2.1
     clear F;have hql:q<m.ways.length:=by omega
     have u:=T.out;rw [Int.toNat_natCast] at u;have C:=qH u;clear u;by_cases h3:(wy m.ways q).fix=0
     ·have c:Hid (stopsB m l=false):=Z04 hlt (fun h=>(C.out.1 h).2.2 h3)
      rw [h3] at f2;clear h3;go_wp2;go_ret2;exact .inl ⟨c.out,rfl,t⟩
     ·have d3:((wy m.ways q).fix == 0)=false:=by simpa using h3
      have d:Hid (stopOk m l k):=C.out.2 ⟨h1,h2,h3⟩;obtain⟨n,D,I,hn,P,N⟩:=HS.out;have U:=qH N;have R:=qH P;have hn2:n<=70368744177663:=by have:=List.length_take_le k l;omega
      have HN:=qH hn;have G:(Lit.int .i64 (q:Int)).wf=true:=Z3M (by omega) (by omega)
      clear h3 N P hn;go_wp2_with (at_mapUpdate;refine wpList_mapUpdate_own _ rfl _ _ _ 148 rfl 3 4 keyInt Tryz.underlying148 _ (w.heap.size+1) n D rfl I (by unfold maxLen;omega) _ _ (.int .i64 (q:Int)) rfl rfl (keyOf_int_mk Tryz.underlying3 G) (.lit (.bool true)) [] (plainElem_bool Tryz.underlying4 true) ?_;intro w1 hown1 hgrow1)
      go_roundw
      case rel =>
       have W:Below w.heap.size w w1:=t.grown hgrow1 (by omega) (fun j e=>by cases e;omega)
       have Z:Below (w.heap.size+1) wr w1:=(qK _ wr).grown hgrow1 (by omega) (fun j e=>by cases e;omega)
       refine⟨k+1,by omega,by go_num,by rw [HK.out.1],fun j hj=>?_,?_,HH.out.below Z (by omega),W⟩
       ·by_cases e:j=k
        ·rw [e];exact d.out
        ·exact g.out j (by omega)
       ·rw [HK.out.2.1]
        exact SetAt.put G HN.out R.out U.out hown1
      case measure=>simp [intOf];omega
    ·have d2:decide ((m.ways.length:Int)<=s)=true:=by simp;omega
     have c:Hid (stopsB m l=false):=Z04 hlt (fun h=>h2 (T.out.1 h).2.1)
     go_wp2;go_ret2;exact .inl ⟨c.out,rfl,t⟩
   ·have d1:decide (s<=M)=true:=by simp;omega
    have c:Hid (stopsB m l=false):=Z04 hlt (fun h=>h1 (T.out.1 h).1)
    go_wp2;go_ret2;exact .inl ⟨c.out,rfl,t⟩
  ·obtain rfl:k=l.length:=by omega
   have d:Hid (stopsB m l=true):=by
    show stopsB m l=true
    simp only [stopsB,decide_eq_true_eq];exact g.out
   have hd:decide ((l.length:Int)<(l.length:Int))=false:=by simp
   go_wp2;go_ret2;refine .inr ⟨d.out,_,rfl,?_,by omega,t⟩
   have:=HS.out
   rwa [List.take_length] at this
end
section
attribute [local go_sem] Oper.semAt_some
attribute [local irreducible] wpQuiet
open Go.RowKit Go.Shelf
def waitT (m:Msn) (l:List Int) (k:Nat):Int:=if (k:Int) ∈ l then (wy m.ways k).wait else 0
def usT (m:Msn) (l:List Int):Nat->Int
 | 0=>0
 | k+1=>usT m l k+waitT m l k+tLeg m k (k+1)
def usE (m:Msn) (l:List Int):Nat->Int
 | 0=>0
 | k+1=>usE m l k+m.idle*waitT m l k+eLeg m k (k+1)
def hdT (m:Msn) (l:List Int):Nat->Int
 | 0=>0
 | k+1=>usT m l k+waitT m l k
def hdE (m:Msn) (l:List Int):Nat->Int
 | 0=>0
 | k+1=>usE m l k+m.idle*waitT m l k
theorem Z98 {m:Msn} (V:VMsn m) (l:List Int) {k:Nat} (hk:k<m.ways.length):0<=waitT m l k/\waitT m l k<=100000/\0<=m.idle*waitT m l k/\m.idle*waitT m l k<=100000000:=by
 have a:=ZP (Z0b V.ways hk);have h:0<=waitT m l k/\waitT m l k<=100000:=by unfold waitT;split <;> omega
 have b:=Int.mul_nonneg V.idle.1 h.1;have c:=Int.mul_le_mul V.idle.2 h.2 h.1 (by omega)
 omega
theorem Z1l {m:Msn} (V:VMsn m) (l:List Int):∀ k,k<m.ways.length->0<=usT m l k/\usT m l k<=k*100000000/\0<=usE m l k/\usE m l k<=k*100000000000
 | 0,_=>by simp [usT,usE]
 | k + 1, h => by
  have ih:=Z1l V l k (by omega)
  have w:=Z98 V l (k:=k) (by omega)
  have t:=Z3i V.leg V.ways (i:=k) (j:=k+1) (by omega) h
  have e:=Z3V V (i:=k) (j:=k+1) (by omega) h
  simp only [usT,usE];omega
theorem hd_bd {m:Msn} (V:VMsn m) (l:List Int):∀ k,k<=m.ways.length->0<=hdT m l k/\hdT m l k<=k*100000000/\0<=hdE m l k/\hdE m l k<=k*100000000000
 | 0,_=>by simp [hdT,hdE]
 | k + 1, h => by
  have u:=Z1l V l k (by omega)
  have w:=Z98 V l (k:=k) (by omega)
  simp only [hdT,hdE];omega
theorem Z4h (m:Msn) (l:List Int):∀ k,usT m l (k+1)=hdT m l (k+1)+tLeg m k (k+1)/\usE m l (k+1)=hdE m l (k+1)+eLeg m k (k+1):=fun _=>⟨rfl,rfl⟩
theorem Zbb (m:Msn) (vw vh vr:Value) (bm:Nat) (w:World) :
  Calls Tryz.prog 94 #[.agg (Zc m vw vh vr),.map (some bm)] w fun e w'=>e=qR (.func (.func 149) #[] #[qP (some ⟨w.heap.size,0,none⟩),qP (some ⟨w.heap.size+1,0,none⟩)])/\(w.alloc (qC (Zc m vw vh vr) 26)).alloc (qC #[.map (some bm)] 148)=w':=by
 unfold Zc;go_enter Tryz.func94,Tryz.ntmps94;go_wp2;go_ret;exact⟨rfl,rfl⟩
theorem Only.move {b:Nat} {own:Nat->Prop} {A C:World} (h:Only b A C) (ho:own b) (hc:∃ o:Obj,A.heap[b]?=some o/\o.isCells=true):MoveM own A C:=MoveM.one ho hc h.os h.tape h.output h.size h.block
def encW (m:Msn) (l:List Int) (x:Nat):Array Value:=#[O qL (x:Int),.agg #[O qL (usT m l x),O qL (usE m l x)]]
theorem MsnAt.blocks {n0:Nat} {A B:World} {m:Msn} {vw vh vr:Value} (h:MsnAt n0 A m vw vh vr) (hs:A.heap.size<=B.heap.size) (hb:∀ b,b<n0->B.heap[b]?=A.heap[b]?):MsnAt n0 B m vw vh vr :=
 by
 have a:Below n0 A { A with heap:=B.heap }:=⟨rfl,rfl,rfl,hs,hb⟩
 exact h.below a
theorem Zbc (n : Nat) (hn : 1 <= n) (p : Nat -> Prop) (m : Msn) (vw vh vr : Value) (l : List Int) (Bm Bs bm n0 : Nat) (W : World) (lp : Nat) (hV : validB m = true)
  (hm:MsnAt n0 W m vw vh vr) (hn0:n0<=W.heap.size) (hset:SetAt W bm l) (HM:Has W Bm (Zc m vw vh vr) 26) (HS:Boxed W Bs 148 (.map (some bm)))
  (p0:p W.heap.size) (p2:p Bs) (p3:p bm) (p4:∀ b,b<n0->p b) (J Jx:List Nat->World->Prop)
  (hJ:∀ s A B,J s A->MoveM (fun r=>r=W.heap.size) A B->J s B)
  (hY:∀ (pre:List Nat) (x:Nat) W1,J pre W1->pre.length<m.ways.length->W.heap.size+1<=W1.heap.size->YieldAt Fence.wide (n-1) Tryz.prog lp (encW m l x) W1 fun e W' =>
   (e=qR (qB true)/\J (pre++[x]) W'/\KeepsP p W1 W')\/(e=qR (qB false)/\Jx (pre++[x]) W')) (h0:J [] W) :
  CallsIn Fence.wide n Tryz.prog 149 #[.func (.yield lp) #[] #[],qP (some ⟨Bm,0,none⟩),qP (some ⟨Bs,0,none⟩)] W fun e W'=>(∃ v,e=qR v) /\
   ((∃ ys,ys=upto id m.ways.length/\J ys W')\/(∃ pre,(∃ j,j<=m.ways.length/\pre=upto id j)/\Jx pre W')):=by
 have V:=(Zm m).1 hV;have n41:=V.n41;have ae:=qH hm;obtain⟨⟨_,a1,o,rfl,_⟩,⟨_,a2,d,rfl,_⟩,⟨_,a3,c,rfl,_⟩⟩:=hm;obtain⟨c0,c1,c2,c3,c4,c5,c6,c7,c8,c9,c10⟩:=Zh HM;have HV:=qH (qI hV V);have HMB:=qH HM;have HSB:=qH HS;have ab:=qH hset;have HJ0:=qH (hJ _ _ _ h0 (MoveM.alloc _ W (qC (spentCells m (qS a1 m.ways.length (m.ways.length+o)) (qS a2 m.home.length (m.home.length+d)) (qS a3 m.rocks.length (m.rocks.length+c)) 0 0) 119)));have HSP:=qH (Has.new W (spentCells m (qS a1 m.ways.length (m.ways.length+o)) (qS a2 m.home.length (m.home.length+d)) (qS a3 m.rocks.length (m.rocks.length+c)) 0 0) 119);have hmlt:=HM.lt;have aa:=HS.lt;have Z:=hset.lt;clear hV V HM HS hset h0;refine callsIn_of_wp Tryz.func149 rfl trivial ?_ rfl;simp only [Tryz.ntmps149,List.size_toArray,List.length_cons,List.length_nil,Nat.reduceAdd,Nat.reduceSub,Array.replicate_succ,Array.replicate_zero,List.push_toArray,List.append_toArray,List.nil_append,List.cons_append];gi_wp2;have HW0:=qH (show ∀ b,p b->b≠W.heap.size->b<W.heap.size->(W.alloc (qC (spentCells m (qS a1 m.ways.length (m.ways.length+o)) (qS a2 m.home.length (m.home.length+d)) (qS a3 m.rocks.length (m.rocks.length+c)) 0 0) 119)).heap[b]?=W.heap[b]? from fun b _ _ G=>Below.heap_alloc _ _ _ G)
 gi_loopw [11] (fun i wr=>∃ k:Nat,k<=m.ways.length/\i=O qL k/\J (upto id k) wr/\wr.heap[W.heap.size]?=some (qC (spentCells m (qS a1 m.ways.length (m.ways.length+o)) (qS a2 m.home.length (m.home.length+d)) (qS a3 m.rocks.length (m.rocks.length+c)) (hdT m l k) (hdE m l k)) 119 (0,0))/\(∀ b,p b->b≠W.heap.size->b<W.heap.size->wr.heap[b]?=W.heap[b]?)/\W.heap.size+1<=wr.heap.size)
  (fun i _=>m.ways.length-(intOf i).toNat)
 case atStart=>exact⟨0,Nat.zero_le _,rfl,HJ0.out,HSP.out,HW0.out,by simp⟩
 case round =>
  obtain⟨k,hk,rfl,I,D,hkp,hsz⟩:=hrel;obtain⟨hV,V⟩:=HV.out;have G:=hd_bd V l k hk;have HKP:=qH hkp;have HMr:=ae.out.blocks (B:=wr) (by omega) (fun b G=>hkp b (p4 b G) (by omega) (by omega))
  by_cases hlt:k<m.ways.length
  ·have T:=Z1l V l k hlt
   have d1:decide ((k:Int)<(m.ways.length:Int))=true:=by simp;omega
   have HMH:=qH (HMr.mono (by omega:n0<=wr.heap.size))
   clear hkp HMr;cases k with
   | zero =>
    have c0:wr.cell? ⟨W.heap.size,0,none⟩=some (O qL (hdT m l 0)):=Zl D (i:=0) rfl;have c1:wr.cell? ⟨W.heap.size,1,none⟩=some (O qL (hdE m l 0)):=Zl D (i:=1) rfl;have F:=qH (qI D (Only.of_below (b:=W.heap.size) (qK _ wr)));obtain⟨fn,tmps,Y,body,hy,hR⟩:=hY _ 0 _ I (by rw [Zq];omega) hsz
    unfold encW at hy;have U:=hsz;clear D I V hV G;simp only [usT,usE,hdT,hdE] at hy c0 c1 F;simp only [Int.natCast_zero] at *;gi_wp2;refine hR.mono ?_;rintro e t (⟨rfl,K,w⟩ | ⟨rfl,P⟩)
    ·have z:=(w.2 _ p0).trans F.out.1
     have L:W.heap.size+1<=t.heap.size:=Nat.le_trans U w.1;have a:∀ b,p b->b≠W.heap.size->b<W.heap.size->t.heap[b]?=W.heap[b]?:=fun b h1 h2 h3=>(w.2 b h1).trans (((F.out.2.block b (by omega) h2)).trans (HKP.out b h1 h2 h3))
     have S:Boxed t Bs 148 (.map (some bm)):=(a Bs p2 (by omega) aa).trans HSB.out
     have R:SetAt t bm l:=ab.out.block (a bm p3 (by omega) Z)
     have f:(Instr.lookup 148 (.map (some bm)) (O qL 0) false).run Tryz.prog t=.ok (qB (decide (((0:Nat):Int) ∈ l))) t:=R.look (k:=(0:Nat)) (Z3M (by omega) (by omega))
     have M:=ae.out.blocks (B:=t) (by omega) (fun b G=>a b (p4 b G) (by omega) (by omega))
     have cbs:=S.cell;have C:=qH a;have q:=qH z;have Q:=qH K;have ad:=qH (M.mono (by omega:n0<=t.heap.size))
     clear a S R M K w hy hR z;by_cases hin:((0:Nat):Int) ∈ l
     ·have N:decide (((0:Nat):Int) ∈ l)=true:=by simpa using hin
      rw [N] at f;have g:Hid (hdT m l (0+1)=usT m l 0+(wy m.ways 0).wait/\hdE m l (0+1)=usE m l 0+m.idle*(wy m.ways 0).wait):=by
       show hdT m l (0+1)=_/\_
       simp only [hdT,hdE,waitT,hin,if_true];exact⟨trivial,trivial⟩
      have ac:=qH (Z7k W.heap.size m (qS a1 m.ways.length (m.ways.length+o)) (qS a2 m.home.length (m.home.length+d)) (qS a3 m.rocks.length (m.rocks.length+c)) (usT m l 0) (usE m l 0) 0 t q.out ad.out HV.out.1 (by omega) T.1 (by omega) T.2.2.1 (by omega))
      clear hin N
      gi_wp2_with ((try refine⟨trivial,?_⟩);gi_at_call 150;refine (callsIn_wide.2 ac.out).mono ?_;rintro r W4 ⟨⟨v,rfl⟩,y,H⟩)
      have u:=qH (qI y H);clear y H;gi_wp2;go_roundw
      case rel =>
       refine⟨0+1,by omega,by go_num,?_,by rw [g.out.1,g.out.2];exact u.out.1,fun b h1 h2 h3=>(u.out.2.block b (by omega) h2).trans (C.out b h1 h2 h3),Nat.le_trans L u.out.2.size⟩
       rw [ZB];exact hJ _ _ _ Q.out (u.out.2.move rfl ⟨_,q.out,rfl⟩)
      case measure=>simp [intOf];omega
     ·have N:decide (((0:Nat):Int) ∈ l)=false:=by simpa using hin
      rw [N] at f;have g:Hid (hdT m l (0+1)=usT m l 0/\hdE m l (0+1)=usE m l 0):=by
       show hdT m l (0+1)=_/\_
       simp only [hdT,hdE,waitT,hin,if_false,Int.mul_zero,Int.add_zero];exact⟨trivial,trivial⟩
      clear hin N;gi_wp2;go_roundw
      case rel =>
       refine⟨0+1,by omega,by go_num,?_,by rw [g.out.1,g.out.2];exact q.out,C.out,L⟩
       rw [ZB];exact Q.out
      case measure=>simp [intOf];omega
    ·gi_wp2
     exact bodyPost_ret (v:=qT #[]) (by simp [results,Tryz.f149]) rfl ⟨⟨_,rfl⟩,.inr ⟨_,⟨0+1,by omega,(ZB _ _).symm⟩,P⟩⟩
   | succ j =>
    have hg:=qH (Zao W.heap.size m (qS a1 m.ways.length (m.ways.length+o)) (qS a2 m.home.length (m.home.length+d)) (qS a3 m.rocks.length (m.rocks.length+c)) (hdT m l (j+1)) (hdE m l (j+1)) j (j+1) wr D HMH.out hV (by omega) hlt G.1 (by omega) G.2.2.1 (by omega))
    have HSPr:=qH D;have HJs:=qH I;have d2:decide ((j:Int)+1>0)=true:=by rw [decide_eq_true_eq];omega
    clear D I V hV G
    gi_wp2_with ((try refine⟨trivial,?_⟩);gi_at_call 62;refine (callsIn_wide.2 hg.out).mono ?_;rintro r W2 ⟨⟨v,rfl⟩,E,X⟩;have c0:W2.cell? ⟨W.heap.size,0,none⟩=some (O qL (hdT m l (j+1)+tLeg m j (j+1))):=Zl E (i:=0) rfl;have c1:W2.cell? ⟨W.heap.size,1,none⟩=some (O qL (hdE m l (j+1)+eLeg m j (j+1))):=Zl E (i:=1) rfl;have F:=qH (qI E X);have U:W.heap.size+1<=W2.heap.size:=Nat.le_trans hsz X.size;obtain⟨fn,tmps,Y,body,hy,hR⟩:=hY _ (j+1) _ (hJ _ _ _ HJs.out (X.move rfl ⟨_,HSPr.out,rfl⟩)) (by rw [Zq];omega) U;unfold encW at hy;rw [show (((j+1:Nat)):Int)=(j:Int)+1 by omega,(Z4h m l j).1,(Z4h m l j).2] at hy;clear E X)
    gi_wp2;refine hR.mono ?_;rintro e t (⟨rfl,K,w⟩ | ⟨rfl,P⟩)
    ·have z:=(w.2 _ p0).trans F.out.1
     have L:W.heap.size+1<=t.heap.size:=Nat.le_trans U w.1;have a:∀ b,p b->b≠W.heap.size->b<W.heap.size->t.heap[b]?=W.heap[b]?:=fun b h1 h2 h3=>(w.2 b h1).trans (((F.out.2.block b (by omega) h2)).trans (HKP.out b h1 h2 h3))
     have S:Boxed t Bs 148 (.map (some bm)):=(a Bs p2 (by omega) aa).trans HSB.out
     have R:SetAt t bm l:=ab.out.block (a bm p3 (by omega) Z)
     have f:(Instr.lookup 148 (.map (some bm)) (O qL ((j:Int)+1)) false).run Tryz.prog t=.ok (qB (decide (((j+1:Nat):Int) ∈ l))) t:=R.look (k:=((j+1):Nat)) (Z3M (by omega) (by omega))
     have M:=ae.out.blocks (B:=t) (by omega) (fun b G=>a b (p4 b G) (by omega) (by omega))
     have cbs:=S.cell;have C:=qH a;have q:=qH z;have Q:=qH K;have ad:=qH (M.mono (by omega:n0<=t.heap.size))
     clear a S R M K w hy hR z;by_cases hin:(((j+1):Nat):Int) ∈ l
     ·have N:decide ((((j+1):Nat):Int) ∈ l)=true:=by simpa using hin
      rw [N] at f;have g:Hid (hdT m l ((j+1)+1)=usT m l (j+1)+(wy m.ways (j+1)).wait/\hdE m l ((j+1)+1)=usE m l (j+1)+m.idle*(wy m.ways (j+1)).wait):=by
       show hdT m l ((j+1)+1)=_/\_
       simp only [hdT,hdE,waitT,hin,if_true];exact⟨trivial,trivial⟩
      have ac:=qH (Z7k W.heap.size m (qS a1 m.ways.length (m.ways.length+o)) (qS a2 m.home.length (m.home.length+d)) (qS a3 m.rocks.length (m.rocks.length+c)) (usT m l (j+1)) (usE m l (j+1)) (j+1) t q.out ad.out HV.out.1 (by omega) T.1 (by omega) T.2.2.1 (by omega))
      clear hin N
      gi_wp2_with ((try refine⟨trivial,?_⟩);gi_at_call 150;refine (callsIn_wide.2 ac.out).mono ?_;rintro r W4 ⟨⟨v,rfl⟩,y,H⟩)
      have u:=qH (qI y H);clear y H;gi_wp2;go_roundw
      case rel =>
       refine⟨(j+1)+1,by omega,by go_num,?_,by rw [g.out.1,g.out.2];exact u.out.1,fun b h1 h2 h3=>(u.out.2.block b (by omega) h2).trans (C.out b h1 h2 h3),Nat.le_trans L u.out.2.size⟩
       rw [ZB];exact hJ _ _ _ Q.out (u.out.2.move rfl ⟨_,q.out,rfl⟩)
      case measure=>simp [intOf];omega
     ·have N:decide ((((j+1):Nat):Int) ∈ l)=false:=by simpa using hin
      rw [N] at f;have g:Hid (hdT m l ((j+1)+1)=usT m l (j+1)/\hdE m l ((j+1)+1)=usE m l (j+1)):=by
       show hdT m l ((j+1)+1)=_/\_
       simp only [hdT,hdE,waitT,hin,if_false,Int.mul_zero,Int.add_zero];exact⟨trivial,trivial⟩
      clear hin N;gi_wp2;go_roundw
      case rel =>
       refine⟨(j+1)+1,by omega,by go_num,?_,by rw [g.out.1,g.out.2];exact q.out,C.out,L⟩
       rw [ZB];exact Q.out
      case measure=>simp [intOf];omega
    ·gi_wp2
     exact bodyPost_ret (v:=qT #[]) (by simp [results,Tryz.f149]) rfl ⟨⟨_,rfl⟩,.inr ⟨_,⟨(j+1)+1,by omega,(ZB _ _).symm⟩,P⟩⟩
  ·obtain rfl:k=m.ways.length:=by omega
   have d1:decide ((m.ways.length:Int)<(m.ways.length:Int))=false:=by simp
   gi_wp2;go_end0;exact⟨⟨_,rfl⟩,.inl ⟨_,rfl,I⟩⟩
theorem Zba (n:Nat) (hn:1<=n) (p:Nat->Nat->Prop) (m:Msn) (vw vh vr:Value) (l:List Int) (Bm Bs bm n0:Nat) (w:World) (hV:validB m=true)
  (hm:MsnAt n0 w m vw vh vr) (hn0:n0<=w.heap.size) (hset:SetAt w bm l) (HM:Has w Bm (Zc m vw vh vr) 26) (HS:Boxed w Bs 148 (.map (some bm)))
  (p0:∀ B,p B B) (p2:∀ B,p B Bs) (p3:∀ B,p B bm) (p4:∀ B b,b<n0->p B b) :
  SeqM n Tryz.prog 149 #[qP (some ⟨Bm,0,none⟩),qP (some ⟨Bs,0,none⟩)] (encW m l) (fun B=>KeepsP (p B)) (fun B r=>r=B) 1 m.ways.length
   (fun ys=>ys=upto id m.ways.length) (fun pre=>∃ j,j<=m.ways.length/\pre=upto id j) w:=fun lp J Jx W hW hJ _ hY h0 =>
 Zbc n hn (p W.heap.size) m vw vh vr l Bm Bs bm n0 W lp hV (hm.below (hW.mono hn0)) (Nat.le_trans hn0 hW.size) (hset.block (hW.block bm hset.lt)) (HM.below hW HM.lt) ((hW.block Bs HS.lt).trans HS)
  (p0 _) (p2 _) (p3 _) (p4 _) J Jx hJ hY h0
def UsedQ (l1 l2:List Int) (er:Int) (w:World) (e:Ending) (w':World):Prop :=
 ∃ v1 v2,e=qR (qT #[v1,v2,O qL er])/\Z8 w'.heap.size w' v1 l1/\Z8 w'.heap.size w' v2 l2/\Below w.heap.size w w'
def UsedN (l1 l2:List Int) (er:Int) (w:World) (e:Ending) (w':World):Prop :=
 ∃ v1 v2,e=qR (qT #[v1,v2,O qL er])/\Z8 w'.heap.size w' v1 l1/\Z8 w'.heap.size w' v2 l2/\Below w.heap.size w w'/\NewI w.heap.size v1/\NewI w.heap.size v2
theorem UsedN.used {l1 l2:List Int} {er:Int} {w:World} {e:Ending} {w':World} (h:UsedN l1 l2 er w e w'):UsedQ l1 l2 er w e w':=by
 obtain⟨g,f,a,b,c,d,_,_⟩:=h;exact⟨g,f,a,b,c,d⟩
theorem three (w:World) (cs:Array Value) (T:TypeId) :
  Has (((w.alloc (qC cs T)).alloc (qC #[qS none 0 0] 29)).alloc (qC #[qS none 0 0] 29)) w.heap.size cs T /\
  Boxed (((w.alloc (qC cs T)).alloc (qC #[qS none 0 0] 29)).alloc (qC #[qS none 0 0] 29)) (w.heap.size+1) 29 (qS none 0 0) /\
  Boxed (((w.alloc (qC cs T)).alloc (qC #[qS none 0 0] 29)).alloc (qC #[qS none 0 0] 29)) (w.heap.size+1+1) 29 (qS none 0 0) /\
  Below w.heap.size w (((w.alloc (qC cs T)).alloc (qC #[qS none 0 0] 29)).alloc (qC #[qS none 0 0] 29)) /\
  (((w.alloc (qC cs T)).alloc (qC #[qS none 0 0] 29)).alloc (qC #[qS none 0 0] 29)).heap.size=w.heap.size+3:=by
 have c:(w.alloc (qC cs T)).heap.size=w.heap.size+1:=by simp
 have d:((w.alloc (qC cs T)).alloc (qC #[qS none 0 0] 29)).heap.size=w.heap.size+1+1:=by simp
 have a:=Boxed.new (w.alloc (qC cs T)) 29 (qS none 0 0);have b:=Boxed.new ((w.alloc (qC cs T)).alloc (qC #[qS none 0 0] 29)) 29 (qS none 0 0);rw [c] at a;rw [d] at b;exact⟨((Has.new w cs T).below ((qK (w.heap.size+1) _).alloc (by simp) _) (by omega)).below ((qK (w.heap.size+1) _).alloc (by simp) _) (by omega),a.alloc _,b,
  (((qK _ _).alloc (qN _) _).alloc (by first | omega | (simp;done) | (simp;omega)) _).alloc (by first | omega | (simp;done) | (simp;omega)) _,by simp⟩
theorem ZL {W:World} {B:Nat} {t:TypeId} {x:Value} (h:Boxed W B t x):∀ j u,[x][j]?=some u->W.cell? ((⟨B,0,none⟩:Addr).add j)=some u:=by
 intro j u hj
 match j,hj with
 | 0, hj =>
  simp at hj;subst hj;exact h.cell
 | j+1,hj=>simp at hj
def tL (m:Msn) (l:List Int) (k:Nat):Value:=O qL (usT m l k)
def eL (m:Msn) (l:List Int) (k:Nat):Value:=O qL (usE m l k)
noncomputable def usedT (m:Msn) (l:List Int):List Int:=upto (usT m l) m.ways.length
noncomputable def usedE (m:Msn) (l:List Int):List Int:=upto (usE m l) m.ways.length
theorem Z7l (m : Msn) (vw vh vr vl : Value) (l : List Int) (w : World) (hm : MsnAt w.heap.size w m vw vh vr) (hl : Z8 w.heap.size w vl l) (hV : validB m = true) (hst : stopsB m l = true) :
  Calls Tryz.prog 41 #[.agg (Zc m vw vh vr),vl] w (UsedN (usedT m l) (usedE m l) 0 w):=by
 obtain⟨t1,t2,t3,tb,tz⟩:=three w (Zc m vw vh vr) 26;have hv:=Z0V m vw vh vr _ ((hm.below tb).mono (by omega))
 rw [hV] at hv;have hv:=qH hv;have HT:=qH (qI t1 (qI t2 (qI t3 tb)));have HM:=qH hm;have HL:=qH hl;have HV:=qH (qI hV hst);have hse:=qH (fun w1 y u=>ZcG m vw vh vr vl l w1 y u)
 have hwy:=qH (fun b w1=>Zbb m vw vh vr b w1)
 obtain⟨⟨_,a1,G,rfl,_⟩,⟨_,a2,H,rfl,_⟩,⟨_,a3,C,rfl,_⟩⟩:=hm;obtain⟨_,al,capl,rfl,_⟩:=hl;have n41:=((Zm m).1 hV).n41;clear t1 t2 t3 tb tz hV hst;unfold Zc at *;refine (callsIn_wide (n:=9)).1 ?_;refine callsIn_of_wp_marks Tryz.func41 rfl trivial ?_ rfl;simp only [Tryz.ntmps41,List.size_toArray,List.length_cons,List.length_nil,Nat.reduceAdd,Nat.reduceSub,Array.replicate_succ,Array.replicate_zero,List.push_toArray,List.append_toArray,List.nil_append,List.cons_append];refine wpIn_wide.2 ?_;go_wp2_with fail;refine hv.out.mono ?_;rintro e w1 ⟨rfl,hb1⟩;obtain⟨t1,t2,t3,tb⟩:=HT.out;have H1:=t1.below (hb1.mono (by simp):Below (w.heap.size+3) _ w1) (by omega)
 have k1:=Boxed.below t2 (hb1.mono (by simp):Below (w.heap.size+3) _ w1) (by omega)
 have k2:=Boxed.below t3 (hb1.mono (by simp):Below (w.heap.size+3) _ w1) (by omega)
 have B1:=tb.trans (hb1.mono (by simp;omega))
 have z1:w.heap.size+3<=w1.heap.size:=by have:=hb1.size;simp at this;omega
 obtain⟨c0,c1,c2,c3,c4,c5,c6,c7,c8,c9,c10⟩:=Zh (m:=m) (vw:=qS a1 m.ways.length (m.ways.length+G)) (vh:=qS a2 m.home.length (m.home.length+H)) (vr:=qS a3 m.rocks.length (m.rocks.length+C)) H1;have HK:=qH (qI k1 (qI k2 (qI B1 H1)));clear hb1 k1 k2 t1 t2 t3 tb B1 H1;go_wp2_with fail;refine (hse.out _ ((HM.out.1.below HK.out.2.2.1).mono HK.out.2.2.1.size) ((HL.out.below HK.out.2.2.1).mono HK.out.2.2.1.size)).mono ?_;rintro e p (⟨h0,_⟩ | ⟨_,bm,rfl,hS,hsz,hb2⟩)
 ·exact absurd h0 (by rw [HV.out.2];simp)
 obtain⟨k1,k2,B1,H1⟩:=HK.out;have k1:=Boxed.below k1 hb2 (by omega)
 have k2:=Boxed.below k2 hb2 (by omega)
 have H2:=H1.below hb2 H1.lt;have B2:=B1.trans (hb2.mono B1.size);have z2:w.heap.size+3<=p.heap.size:=Nat.le_trans z1 hb2.size;clear c0 c1 c2 c3 c4 c5 c6 c7 c8 c9 c10 HK;obtain⟨c0,c1,c2,c3,c4,c5,c6,c7,c8,c9,c10⟩:=Zh (m:=m) (vw:=qS a1 m.ways.length (m.ways.length+G)) (vh:=qS a2 m.home.length (m.home.length+H)) (vr:=qS a3 m.rocks.length (m.rocks.length+C)) H2;have HK:=qH (qI k1 (qI k2 (qI B2 hS)));clear hb2 k1 k2 B1 B2 H1 H2 hS hsz;go_wp2_with (go_at_call 94;refine (hwy.out _ _).mono ?_;rintro e w3 ⟨rfl,rfl⟩);generalize hW0:World.alloc (World.alloc p _) _=W0;have hz0:W0.heap.size=p.heap.size+2:=by rw [<- hW0];simp
 have hB0:Below p.heap.size p W0:=by rw [<- hW0];exact ((qK _ p).alloc (qN _) _).alloc (by first | omega | (simp;done) | (simp;omega)) _
 obtain⟨k1,k2,B2,hS⟩:=HK.out;have bT:=Boxed.below k1 hB0 (by omega)
 have bE:=Boxed.below k2 hB0 (by omega)
 have hBw:Below w.heap.size w W0:=B2.trans (hB0.mono (by omega))
 have bM:Has W0 p.heap.size #[qS a1 m.ways.length (m.ways.length+G),qS a2 m.home.length (m.home.length+H),O qL m.start,qS a3 m.rocks.length (m.rocks.length+C),O qL m.speed,O qL m.part,O qL m.flow,O qL m.idle,O qL m.drive,O qL m.battery,O qL m.deadline] 26:=by
  rw [<- hW0];exact (Has.new p _ _).below ((qK (p.heap.size+1) _).alloc (by simp) _) (by omega)
 have bS:Boxed W0 (p.heap.size+1) 148 (.map (some bm)):=by
  rw [<- hW0];have:=Boxed.new (p.alloc (qC #[qS a1 m.ways.length (m.ways.length+G),qS a2 m.home.length (m.home.length+H),O qL m.start,qS a3 m.rocks.length (m.rocks.length+C),O qL m.speed,O qL m.part,O qL m.flow,O qL m.idle,O qL m.drive,O qL m.battery,O qL m.deadline] 26)) 148 (.map (some bm))
  rwa [World.size_alloc] at this
 have hset:SetAt W0 bm l:=hS.block (hB0.block bm hS.lt);have hlt:=hset.lt;have hmW:MsnAt w.heap.size W0 m _ _ _:=HM.out.below hBw;have hbm:bm<p.heap.size:=hS.lt;have hsb:bm≠w.heap.size+1/\bm≠w.heap.size+1+1:=by
  obtain⟨_,_,⟨es,clock,h0,_⟩,_⟩:=hS;exact⟨fun e=>(by rw [e,show p.heap[w.heap.size+1]?=_ from k1] at h0;cases h0),fun e=>(by rw [e,show p.heap[w.heap.size+1+1]?=_ from k2] at h0;cases h0)⟩
 clear hW0 c0 c1 c2 c3 c4 c5 c6 c7 c8 c9 c10 k1 k2 B2 hS HK;refine (wpIn_wide (n:=9)).1 ?_;refine Z2s (by omega) (gf:=149) (lb:=#[qP (some ⟨p.heap.size,0,none⟩),qP (some ⟨p.heap.size+1,0,none⟩)]) rfl (enters_of Tryz.func149 (by kernel_rfl) rfl)
  (Zba 8 (by omega) (fun B b=>(b<p.heap.size+2/\b≠w.heap.size+1/\b≠w.heap.size+1+1)\/b=B) m _ _ _ l p.heap.size (p.heap.size+1) bm w.heap.size W0 HV.out.1 hmW hBw.size hset bM bS (fun _=>.inr rfl) (fun _=>.inl ⟨by omega,by omega,by omega⟩) (fun _=>.inl ⟨by omega,hsb.1,hsb.2⟩) (fun _ b hb=>.inl ⟨by omega,by omega,by omega⟩))
  (fun h k=>KeepsP.trans h k) ?hKb (qK _ _) (fun _=>rfl)
  (fun a W=>(∃ Q V,Boxed W (w.heap.size+1) 29 Q/\Boxed W (w.heap.size+1+1) 29 V/\W.ownsRow (p.heap.size+5) 3 1 Q a.length (a.map (tL m l))/\W.ownsRow (p.heap.size+5) 3 1 V a.length (a.map (eL m l))/\(Q.ownBlock=none\/Q.ownBlock≠V.ownBlock))/\Below w.heap.size w W)
  (fun _ _ _=>False) ?hI (fun _=>OwnM.pure (fun _=>False)) ⟨⟨_,_,bT,bE,World.ownsRow_nil _ _ _ _,World.ownsRow_nil _ _ _ _,.inl rfl⟩,hBw⟩
  (fun x a' W=>∃ Bc,a'={ tmps:=#[.agg #[qS a1 m.ways.length (m.ways.length+G),qS a2 m.home.length (m.home.length+H),O qL m.start,qS a3 m.rocks.length (m.rocks.length+C),O qL m.speed,O qL m.part,O qL m.flow,O qL m.idle,O qL m.drive,O qL m.battery,O qL m.deadline],qS al l.length (l.length+capl),qP (some ⟨w.heap.size,0,none⟩),undef,qP (some ⟨w.heap.size+1,0,none⟩),qP (some ⟨w.heap.size+1+1,0,none⟩),O qL 0,.map (some bm),qB true,undef,qP (some ⟨Bc,0,none⟩),.agg #[qS a1 m.ways.length (m.ways.length+G),qS a2 m.home.length (m.home.length+H),O qL m.start,qS a3 m.rocks.length (m.rocks.length+C),O qL m.speed,O qL m.part,O qL m.flow,O qL m.idle,O qL m.drive,O qL m.battery,O qL m.deadline],qB true,qB false,qT #[.map (some bm),qB true],.agg #[qS a1 m.ways.length (m.ways.length+G),qS a2 m.home.length (m.home.length+H),O qL m.start,qS a3 m.rocks.length (m.rocks.length+C),O qL m.speed,O qL m.part,O qL m.flow,O qL m.idle,O qL m.drive,O qL m.battery,O qL m.deadline],qS al l.length (l.length+capl),qT #[.map (some bm),qB true],.map (some bm),qB true,qB true,qB false,.agg #[qS a1 m.ways.length (m.ways.length+G),qS a2 m.home.length (m.home.length+H),O qL m.start,qS a3 m.rocks.length (m.rocks.length+C),O qL m.speed,O qL m.part,O qL m.flow,O qL m.idle,O qL m.drive,O qL m.battery,O qL m.deadline],.map (some bm),.func (.func 149) #[] #[qP (some ⟨p.heap.size,0,none⟩),qP (some ⟨p.heap.size+1,0,none⟩)],O qL (x:Int),.agg #[O qL (usT m l x),O qL (usE m l x)],undef,undef,undef,undef,undef,undef,undef,undef,undef,undef,undef,undef],defers:=[] }/\W.heap[Bc]?=some (qC #[tL m l x,eL m l x] 117 (0,0))/\p.heap.size+5<=Bc)
  ?hAx ?assign ?body ?done ?stop
 case hKb=>exact fun W o o' _ _=>⟨by simp,fun b hb=>World.putObj_heap_other (by rcases hb with⟨h,_⟩ | h <;> omega)⟩
 case hI =>
  refine OwnM.and ?_ (OwnM.below w (qN _) (by omega) (fun r hr=>by omega))
  rintro s X Y row ⟨Q,V,y,u,r1,r2,f⟩ hg hrow;have off:∀ {b:Nat} {t:TypeId} {v:Value},Boxed X b t v->b<W0.heap.size->some b≠row:=fun {b t v} hb hlt e'=>by
   obtain⟨o,ho,S⟩:=hrow _ e'.symm;rcases S with⟨_,S⟩ | ⟨S,_⟩
   ·omega
   ·rw [show X.heap[b]?=_ from hb] at ho;cases ho;cases S
  have offr:∀ {v:Value} {n:Nat} {xs:List Value},X.ownsRow (p.heap.size+5) 3 1 v n xs->v.ownBlock=none\/v.ownBlock≠row:=fun {v n xs} hr=>by
   rcases hr.2 with⟨rfl,_⟩ | ⟨g,cap,cur,rfl,hbg,hgb,_⟩
   ·exact .inl rfl
   ·refine .inr fun e'=>?_
    obtain⟨o,ho,S⟩:=hrow g (by simpa [Value.ownBlock] using e'.symm)
    rcases S with⟨_,S⟩ | ⟨S,_⟩
    ·omega
    ·rw [hgb] at ho;cases ho;cases S
  exact⟨Q,V,y.kept hg (off y (by omega)),u.kept hg (off u (by omega)),r1.kept hg (offr r1),r2.kept hg (offr r2),f⟩
 case hAx =>
  rintro x a' s X Y row ⟨Bc,rfl,S,hBc⟩ hg hrow;refine⟨Bc,rfl,(hg.block Bc (Array.getElem?_eq_some_iff.1 S).1 fun e'=>?_).trans S,hBc⟩
  obtain⟨o,ho,h⟩:=hrow _ e'.symm;rcases h with⟨_,h⟩ | ⟨h,_⟩
  ·omega
  ·rw [S] at ho;cases ho;cases h
 case assign =>
  rintro ll a x W K hi hsz hK;have hc0:=Has.new W #[tL m l x,eL m l x] 117;obtain⟨⟨Q,V,y,u,r1,r2,f⟩,q⟩:=hi;have hI:=qH (qI (⟨Q,V,y.alloc (qC #[tL m l x,eL m l x] 117),u.alloc _,r1.alloc _,r2.alloc _,f⟩:∃ Q V,Boxed (W.alloc (qC #[tL m l x,eL m l x] 117)) (w.heap.size+1) 29 Q/\Boxed (W.alloc (qC #[tL m l x,eL m l x] 117)) (w.heap.size+1+1) 29 V/\(W.alloc (qC #[tL m l x,eL m l x] 117)).ownsRow (p.heap.size+5) 3 1 Q a.length (a.map (tL m l))/\(W.alloc (qC #[tL m l x,eL m l x] 117)).ownsRow (p.heap.size+5) 3 1 V a.length (a.map (eL m l))/\(Q.ownBlock=none\/Q.ownBlock≠V.ownBlock)) (q.trans (((qK w.heap.size W).alloc q.size (qC #[tL m l x,eL m l x] 117)))));have HC:=qH hc0;clear y u r1 r2 f q hc0;unfold encW;gi_wp2;exact hK _ _ ((KeepsOthers.alloc W _).from _) ⟨by simp,fun b hb=>Below.heap_alloc _ _ _ (by rcases hb with⟨h,_⟩ | h <;> omega)⟩ hI.out ⟨_,rfl,HC.out,by omega⟩
 case body =>
  rintro ll a x a' W hll ⟨r,hr⟩ ⟨⟨Q,V,y,u,r1,r2,f⟩,q⟩ ⟨Bc,rfl,S,hBc⟩ hlt hsz;have hn:a.length<=100:=by omega
  have hTW:=(Two.refl r1 r2 f).grow (X':=W.drew) ⟨rfl,rfl,rfl,qN _,fun _ _ _=>rfl⟩
  have hclt:=(Array.getElem?_eq_some_iff.1 S).1;have hcr:∀ {v:Value} {n:Nat} {xs:List Value},W.ownsRow (p.heap.size+5) 3 1 v n xs->some Bc≠v.ownBlock:=fun {v n xs} hr e'=>by
   rcases hr.2 with⟨rfl,_⟩ | ⟨g,cap,cur,rfl,_,hg,_⟩
   ·simp [Value.ownBlock] at e'
   ·obtain rfl:Bc=g:=by simpa [Value.ownBlock] using e'
    rw [S] at hg;cases hg
  have hc1:=hcr r1;have hc2:=hcr r2;simp only [tL,eL] at S;have SS:Hid (∀ (X:World) (u1 u2:Value) (n1 n2:Nat) (l1 l2:List Value),Two (p.heap.size+5) 3 W X Q V u1 u2 n1 n2 l1 l2->Boxed X (w.heap.size+1) 29 Q/\Boxed X (w.heap.size+1+1) 29 V/\X.heap[Bc]?=some (qC #[O qL (usT m l x),O qL (usE m l x)] 117 (0,0))):=fun X u1 u2 n1 n2 l1 l2 h =>
   ⟨(h.keep _ (by omega) (Zx r1 (by omega)) (Zx r2 (by omega))).trans y,(h.keep _ (by omega) (Zx r1 (by omega)) (Zx r2 (by omega))).trans u,(h.keep _ hclt hc1 hc2).trans S⟩
  have HR:=qH (qI r1 (qI r2 (qI y (qI u q))));have A:p.heap.size+5<=W.heap.size:=by omega
  have HT:=qH hTW;obtain⟨i0,hi,L,M,J⟩:=info_parts intInfo;clear r1 r2 y u q f hTW S hcr hc1 hc2 hr;gi_wp2;refine Zi (ZT _ _) 10 (fun X=>Boxed X (w.heap.size+1) 29 Q/\Boxed X (w.heap.size+1+1) 29 V/\X.heap[Bc]?=some (qC #[O qL (usT m l x),O qL (usE m l x)] 117 (0,0))) (by kernel_rfl) (by kernel_rfl) (by kernel_rfl) fun hH inv0=>?_
  refine sk hH 0 Q (Zd rfl) inv0 (fun X hX=>?_) fun inv1=>?_
  ·have hx:=hX.1.cell;go_simp
  simp only [pT];refine sk hH 1 (qP (some ⟨Bc,0,none⟩)) (Zd rfl) inv1 (fun X hX=>?_) fun inv2=>?_
  ·go_simp
  simp only [pT];refine sk hH 2 (O qL (usT m l x)) (Zd rfl) inv2 (fun X hX=>?_) fun inv3=>?_
  ·have hx:=Zl hX.2.2 (i:=0) rfl;go_simp
  simp only [pT];refine sk hH 5 V (Zd rfl) inv3 (fun X hX=>?_) fun inv4=>?_
  ·have hx:=hX.2.1.cell;go_simp
  simp only [pT];refine sk hH 6 (qP (some ⟨Bc,1,none⟩)) (Zd rfl) inv4 (fun X hX=>?_) fun inv5=>?_
  ·go_simp
  simp only [pT];refine sk hH 7 (O qL (usE m l x)) (Zd rfl) inv5 (fun X hX=>?_) fun inv6=>?_
  ·have hx:=Zl hX.2.2 (i:=1) rfl;go_simp
  simp only [pT];clear inv0 inv1 inv2 inv3 inv4 inv5 inv6 hH;generalize hTx:usT m l x=T at *;generalize hEx:usE m l x=E at *;generalize W.drew=X0 at *;have d:=HT.out;clear HT;refine Zw (rs:=[3,8]) (by kernel_rfl) (by simp) (SS.out _ _ _ _ _ _ _ d) (by simp) (fun i hi'=>?_)
  simp only [List.mem_cons,List.not_mem_nil,or_false] at hi';rcases hi' with rfl | rfl
  ·refine ZC (Zd rfl) rfl (v:=qS (some ⟨X0.heap.size,0,none⟩) 1 1) (w':=X0.alloc (qC #[O qL T] 3)) (by go_simp) ?_
   simp only [pT];have b3:=Boxed.new X0 3 (O qL T);have zs3:W.heap.size<=X0.heap.size:=d.size;replace d:=d.alloc (qC #[O qL T] 3);generalize X0.alloc (qC #[O qL T] 3)=X1 at *;generalize X0.heap.size=s3 at *;refine Zw (rs:=[4,8]) (by kernel_rfl) (by simp) (SS.out _ _ _ _ _ _ _ d) (by simp) (fun i hi'=>?_)
   simp only [List.mem_cons,List.not_mem_nil,or_false] at hi';rcases hi' with rfl | rfl
   ·refine ZA (Zd rfl) rfl (.tmp 27) (.tmp 30) 29 rfl (p.heap.size+5) 3 i0 (.int .i64 0) 1 8 Tryz.underlying29 hi L M J rfl (by decide) _ _ _ rfl d.r1 ⟨s3,0,none⟩ 1 1 [.int .i64 T] rfl rfl (ZL b3) (by simp [Value.oneCell']) (by unfold maxLen;omega) (by omega) (Nat.le_trans A d.size) ?_
    intro u1 X2 hr1 hg1 ho1;simp only [pT];replace d:=d.app1 hg1 hr1 ho1;obtain⟨g1,cp1,rfl⟩:=ownsRow_succ hr1;clear hg1 hr1 ho1 b3;refine Zw (rs:=[8]) (by kernel_rfl) (by simp) (SS.out _ _ _ _ _ _ _ d) (by simp) (fun i hi'=>?_)
    simp only [List.mem_cons,List.not_mem_nil,or_false] at hi';subst hi';refine ZC (Zd rfl) rfl (v:=qS (some ⟨X2.heap.size,0,none⟩) 1 1) (w':=X2.alloc (qC #[O qL E] 3)) (by go_simp) ?_
    simp only [pT];have b8:=Boxed.new X2 3 (O qL E);have zs8:W.heap.size<=X2.heap.size:=d.size;replace d:=d.alloc (qC #[O qL E] 3);generalize X2.alloc (qC #[O qL E] 3)=X3 at *;generalize X2.heap.size=s8 at *;refine Zw (rs:=[9]) (by kernel_rfl) (by simp) (SS.out _ _ _ _ _ _ _ d) (by simp) (fun i hi'=>?_)
    simp only [List.mem_cons,List.not_mem_nil,or_false] at hi';subst hi';refine ZA (Zd rfl) rfl (.tmp 32) (.tmp 35) 29 rfl (p.heap.size+5) 3 i0 (.int .i64 0) 1 8 Tryz.underlying29 hi L M J rfl (by decide) _ _ _ rfl d.r2 ⟨s8,0,none⟩ 1 1 [.int .i64 E] rfl rfl (ZL b8) (by simp [Value.oneCell']) (by unfold maxLen;omega) (by omega) (Nat.le_trans A d.size) ?_
    intro u2 X4 hr2 z ho2;simp only [pT];replace d:=d.app2 z hr2 ho2;obtain⟨g2,cp2,rfl⟩:=ownsRow_succ hr2;clear z hr2 ho2 b8;refine Zj (by kernel_rfl) (SS.out _ _ _ _ _ _ _ d) ?_
    simp only [List.drop_succ_cons,List.drop_zero];obtain⟨r1,r2,y,u,q⟩:=HR.out;obtain⟨_,⟨P,U⟩,⟨N,R⟩,Z,q8,I⟩:=d.store (t:=29) r1 r2 y u (by omega) (by omega) (by omega)
    obtain⟨p1,p2,_⟩:=SS.out _ _ _ _ _ _ _ d;have x1:=p1.cell;have y1:=p1.frozen;have x2:=p2.cell;have y2:=p2.frozen;have HQ:=qH (qI P (qI U (qI N (qI R (qI Z (qI q8 (qI I (qI d.ne (qI r1 (qI r2 q))))))))));clear P U N R Z q8 I r1 r2 y u q p1 p2 d;gi_wp2;obtain⟨P,U,N,R,Z,q8,I,f,r1,r2,q⟩:=HQ.out;refine⟨Z.from _,⟨I.1,fun b hb=>?_⟩,⟨_,_,P,U,?_,?_,f⟩,q.trans (q8 _ (by omega) (by omega) (by omega))⟩
    ·rcases hb with⟨b1,b2,b3⟩ | b1
     ·exact I.2 b (by omega) b2 b3 (Zx r1 (by omega)) (Zx r2 (by omega))
     ·exact I.2 b (by omega) (by omega) (by omega) (Zx r1 (by omega)) (Zx r2 (by omega))
    ·rw [show (a++[x]).length=a.length+1 by simp,show (a++[x]).map (tL m l)=a.map (tL m l)++[O qL T] by rw [<- hTx];simp [tL]]
     exact N
    ·rw [show (a++[x]).length=a.length+1 by simp,show (a++[x]).map (eL m l)=a.map (eL m l)++[O qL E] by rw [<- hEx];simp [eL]]
     exact R
   ·refine ZC (Zd rfl) rfl (v:=qS (some ⟨X1.heap.size,0,none⟩) 1 1) (w':=X1.alloc (qC #[O qL E] 3)) (by go_simp) ?_
    simp only [pT];have b8:=Boxed.new X1 3 (O qL E);have zs8:W.heap.size<=X1.heap.size:=d.size;have b3:=b3.alloc (qC #[O qL E] 3);replace d:=d.alloc (qC #[O qL E] 3);generalize X1.alloc (qC #[O qL E] 3)=X2 at *;generalize X1.heap.size=s8 at *;refine Zw (rs:=[4]) (by kernel_rfl) (by simp) (SS.out _ _ _ _ _ _ _ d) (by simp) (fun i hi'=>?_)
    simp only [List.mem_cons,List.not_mem_nil,or_false] at hi';subst hi';refine ZA (Zd rfl) rfl (.tmp 27) (.tmp 30) 29 rfl (p.heap.size+5) 3 i0 (.int .i64 0) 1 8 Tryz.underlying29 hi L M J rfl (by decide) _ _ _ rfl d.r1 ⟨s3,0,none⟩ 1 1 [.int .i64 T] rfl rfl (ZL b3) (by simp [Value.oneCell']) (by unfold maxLen;omega) (by omega) (Nat.le_trans A d.size) ?_
    intro u1 X3 hr1 hg1 ho1;simp only [pT];have b8:=b8.kept hg1 (fun e'=>by have:=(HR.out.1.lt _ e'.symm).2;omega)
    replace d:=d.app1 hg1 hr1 ho1;obtain⟨g1,cp1,rfl⟩:=ownsRow_succ hr1;clear hg1 hr1 ho1 b3;refine Zw (rs:=[9]) (by kernel_rfl) (by simp) (SS.out _ _ _ _ _ _ _ d) (by simp) (fun i hi'=>?_)
    simp only [List.mem_cons,List.not_mem_nil,or_false] at hi';subst hi';refine ZA (Zd rfl) rfl (.tmp 32) (.tmp 35) 29 rfl (p.heap.size+5) 3 i0 (.int .i64 0) 1 8 Tryz.underlying29 hi L M J rfl (by decide) _ _ _ rfl d.r2 ⟨s8,0,none⟩ 1 1 [.int .i64 E] rfl rfl (ZL b8) (by simp [Value.oneCell']) (by unfold maxLen;omega) (by omega) (Nat.le_trans A d.size) ?_
    intro u2 X4 hr2 z ho2;simp only [pT];replace d:=d.app2 z hr2 ho2;obtain⟨g2,cp2,rfl⟩:=ownsRow_succ hr2;clear z hr2 ho2 b8;refine Zj (by kernel_rfl) (SS.out _ _ _ _ _ _ _ d) ?_
    simp only [List.drop_succ_cons,List.drop_zero];obtain⟨r1,r2,y,u,q⟩:=HR.out;obtain⟨_,⟨P,U⟩,⟨N,R⟩,Z,q8,I⟩:=d.store (t:=29) r1 r2 y u (by omega) (by omega) (by omega)
    obtain⟨p1,p2,_⟩:=SS.out _ _ _ _ _ _ _ d;have x1:=p1.cell;have y1:=p1.frozen;have x2:=p2.cell;have y2:=p2.frozen;have HQ:=qH (qI P (qI U (qI N (qI R (qI Z (qI q8 (qI I (qI d.ne (qI r1 (qI r2 q))))))))));clear P U N R Z q8 I r1 r2 y u q p1 p2 d;gi_wp2;obtain⟨P,U,N,R,Z,q8,I,f,r1,r2,q⟩:=HQ.out;refine⟨Z.from _,⟨I.1,fun b hb=>?_⟩,⟨_,_,P,U,?_,?_,f⟩,q.trans (q8 _ (by omega) (by omega) (by omega))⟩
    ·rcases hb with⟨b1,b2,b3⟩ | b1
     ·exact I.2 b (by omega) b2 b3 (Zx r1 (by omega)) (Zx r2 (by omega))
     ·exact I.2 b (by omega) (by omega) (by omega) (Zx r1 (by omega)) (Zx r2 (by omega))
    ·rw [show (a++[x]).length=a.length+1 by simp,show (a++[x]).map (tL m l)=a.map (tL m l)++[O qL T] by rw [<- hTx];simp [tL]]
     exact N
    ·rw [show (a++[x]).length=a.length+1 by simp,show (a++[x]).map (eL m l)=a.map (eL m l)++[O qL E] by rw [<- hEx];simp [eL]]
     exact R
  ·refine ZC (Zd rfl) rfl (v:=qS (some ⟨X0.heap.size,0,none⟩) 1 1) (w':=X0.alloc (qC #[O qL E] 3)) (by go_simp) ?_
   simp only [pT];have b8:=Boxed.new X0 3 (O qL E);have zs8:W.heap.size<=X0.heap.size:=d.size;replace d:=d.alloc (qC #[O qL E] 3);generalize X0.alloc (qC #[O qL E] 3)=X1 at *;generalize X0.heap.size=s8 at *;refine Zw (rs:=[3]) (by kernel_rfl) (by simp) (SS.out _ _ _ _ _ _ _ d) (by simp) (fun i hi'=>?_)
   simp only [List.mem_cons,List.not_mem_nil,or_false] at hi';subst hi';refine ZC (Zd rfl) rfl (v:=qS (some ⟨X1.heap.size,0,none⟩) 1 1) (w':=X1.alloc (qC #[O qL T] 3)) (by go_simp) ?_
   simp only [pT];have b3:=Boxed.new X1 3 (O qL T);have zs3:W.heap.size<=X1.heap.size:=d.size;have b8:=b8.alloc (qC #[O qL T] 3);replace d:=d.alloc (qC #[O qL T] 3);generalize X1.alloc (qC #[O qL T] 3)=X2 at *;generalize X1.heap.size=s3 at *;refine Zw (rs:=[4]) (by kernel_rfl) (by simp) (SS.out _ _ _ _ _ _ _ d) (by simp) (fun i hi'=>?_)
   simp only [List.mem_cons,List.not_mem_nil,or_false] at hi';subst hi';refine ZA (Zd rfl) rfl (.tmp 27) (.tmp 30) 29 rfl (p.heap.size+5) 3 i0 (.int .i64 0) 1 8 Tryz.underlying29 hi L M J rfl (by decide) _ _ _ rfl d.r1 ⟨s3,0,none⟩ 1 1 [.int .i64 T] rfl rfl (ZL b3) (by simp [Value.oneCell']) (by unfold maxLen;omega) (by omega) (Nat.le_trans A d.size) ?_
   intro u1 X3 hr1 hg1 ho1;simp only [pT];have b8:=b8.kept hg1 (fun e'=>by have:=(HR.out.1.lt _ e'.symm).2;omega)
   replace d:=d.app1 hg1 hr1 ho1;obtain⟨g1,cp1,rfl⟩:=ownsRow_succ hr1;clear hg1 hr1 ho1 b3;refine Zw (rs:=[9]) (by kernel_rfl) (by simp) (SS.out _ _ _ _ _ _ _ d) (by simp) (fun i hi'=>?_)
   simp only [List.mem_cons,List.not_mem_nil,or_false] at hi';subst hi';refine ZA (Zd rfl) rfl (.tmp 32) (.tmp 35) 29 rfl (p.heap.size+5) 3 i0 (.int .i64 0) 1 8 Tryz.underlying29 hi L M J rfl (by decide) _ _ _ rfl d.r2 ⟨s8,0,none⟩ 1 1 [.int .i64 E] rfl rfl (ZL b8) (by simp [Value.oneCell']) (by unfold maxLen;omega) (by omega) (Nat.le_trans A d.size) ?_
   intro u2 X4 hr2 z ho2;simp only [pT];replace d:=d.app2 z hr2 ho2;obtain⟨g2,cp2,rfl⟩:=ownsRow_succ hr2;clear z hr2 ho2 b8;refine Zj (by kernel_rfl) (SS.out _ _ _ _ _ _ _ d) ?_
   simp only [List.drop_succ_cons,List.drop_zero];obtain⟨r1,r2,y,u,q⟩:=HR.out;obtain⟨_,⟨P,U⟩,⟨N,R⟩,Z,q8,I⟩:=d.store (t:=29) r1 r2 y u (by omega) (by omega) (by omega)
   obtain⟨p1,p2,_⟩:=SS.out _ _ _ _ _ _ _ d;have x1:=p1.cell;have y1:=p1.frozen;have x2:=p2.cell;have y2:=p2.frozen;have HQ:=qH (qI P (qI U (qI N (qI R (qI Z (qI q8 (qI I (qI d.ne (qI r1 (qI r2 q))))))))));clear P U N R Z q8 I r1 r2 y u q p1 p2 d;gi_wp2;obtain⟨P,U,N,R,Z,q8,I,f,r1,r2,q⟩:=HQ.out;refine⟨Z.from _,⟨I.1,fun b hb=>?_⟩,⟨_,_,P,U,?_,?_,f⟩,q.trans (q8 _ (by omega) (by omega) (by omega))⟩
   ·rcases hb with⟨b1,b2,b3⟩ | b1
    ·exact I.2 b (by omega) b2 b3 (Zx r1 (by omega)) (Zx r2 (by omega))
    ·exact I.2 b (by omega) (by omega) (by omega) (Zx r1 (by omega)) (Zx r2 (by omega))
   ·rw [show (a++[x]).length=a.length+1 by simp,show (a++[x]).map (tL m l)=a.map (tL m l)++[O qL T] by rw [<- hTx];simp [tL]]
    exact N
   ·rw [show (a++[x]).length=a.length+1 by simp,show (a++[x]).map (eL m l)=a.map (eL m l)++[O qL E] by rw [<- hEx];simp [eL]]
    exact R
 case done =>
  rintro D ys W hD rfl ⟨⟨Q,V,y,u,r1,r2,f⟩,q⟩ hK;have e1:(upto id m.ways.length).length=m.ways.length:=Zq _ _;have e2:(upto id m.ways.length).map (tL m l)=(usedT m l).map (O qL):=by simp [usedT,upto,tL]
  have e3:(upto id m.ways.length).map (eL m l)=(usedE m l).map (O qL):=by simp [usedE,upto,eL]
  rw [e1,e2] at r1;rw [e1,e3] at r2;have g1:(usedT m l).length<=70368744177663:=by simp [usedT,upto];omega
  have g2:(usedE m l).length<=70368744177663:=by simp [usedE,upto];omega
  obtain⟨_,av1,cv1,hv1,_⟩:=Z8.own r1 g1;obtain⟨_,av2,cv2,hv2,_⟩:=Z8.own r2 g2;subst hv1;subst hv2;have l1:=Low.fact y.cell;have l2:=Low.fact u.cell;have HQ:=qH (qI y (qI u (qI r1 (qI r2 (qI f (qI q (qI hK (qI g1 g2))))))));have hDb:=hBw.size;have hzW:=q.size;clear y u r1 r2 f q hK e1 e2 e3 g1 g2;go_wp2;have hS:Hid (Boxed W (w.heap.size+1) 29 (qS av1 (usedT m l).length ((usedT m l).length+cv1))/\Boxed W (w.heap.size+1+1) 29 (qS av2 (usedE m l).length ((usedE m l).length+cv2))):=⟨HQ.out.1,HQ.out.2.1⟩;clear l1 l2;generalize hVa:Value.slice av1 (usedT m l).length ((usedT m l).length+cv1)=va1 at *;generalize hVb:Value.slice av2 (usedE m l).length ((usedE m l).length+cv2)=va2 at *;refine (wpIn_wide (n:=9)).1 ?_;refine Zi (Zk _) 3 (fun X=>Boxed X (w.heap.size+1) 29 va1/\Boxed X (w.heap.size+1+1) 29 va2) (by kernel_rfl) (by kernel_rfl) (by kernel_rfl) fun hH inv0=>?_
  refine sk hH 0 va1 (Zd rfl) inv0 (fun X hX=>?_) fun inv1=>?_
  ·have hx:=hX.1.cell;go_simp
  simp only [pT];refine sk hH 1 va2 (Zd rfl) inv1 (fun X hX=>?_) fun inv2=>?_
  ·have hx:=hX.2.cell;go_simp
  simp only [pT];clear inv0 inv1 inv2 hH;have hSw:Boxed W.drew (w.heap.size+1) 29 va1/\Boxed W.drew (w.heap.size+1+1) 29 va2:=hS.out;have z:W.grownBy W.drew none:=⟨rfl,rfl,rfl,qN _,fun _ _ _=>rfl⟩
  have hwd:Hid (Below W.heap.size W W.drew):=⟨rfl,rfl,rfl,qN _,fun _ _=>rfl⟩
  generalize W.drew=w5 at *;refine sa1 (r:=2) hSw ?_;have x1:=hSw.1.cell;have y1:=hSw.1.frozen;subst hVa;subst hVb;refine Z05 (Zd rfl) rfl (w':=w5.setCell ⟨w.heap.size+1,0,none⟩ (qS av1 (usedT m l).length ((usedT m l).length+cv1))) (by go_simp) ?_
  simp only [pT];refine Zj (by kernel_rfl) ⟨hSw.1.set _,hSw.2.other (by omega) _⟩ ?_
  simp only [List.drop_succ_cons,List.drop_zero];obtain⟨y,u,r1,r2,f,q,hK,g1,g2⟩:=HQ.out;have y:=y.kept z (by simp)
  have u:=u.kept z (by simp)
  have r1:=r1.kept z (by cases (Value.slice av1 (usedT m l).length ((usedT m l).length+cv1)).ownBlock <;> simp)
  have r2:=r2.kept z (by cases (Value.slice av2 (usedE m l).length ((usedE m l).length+cv2)).ownBlock <;> simp)
  have hK2:w5.heap[D]?=some (.deferred (some [])):=(hwd.out.block D (Array.getElem?_eq_some_iff.1 hK).1).trans hK;have hB2:Below w.heap.size w w5:=q.trans (hwd.out.mono q.size);obtain⟨_,⟨P,U⟩,⟨N,R⟩,Z,q8,I⟩:=(Two.refl r1 r2 f).store (t:=29) r1 r2 y u (by omega) (by omega) (by omega)
  have x2:=u.cell;have y2:=u.frozen;have HX:=qH (qI P (qI U (qI N (qI R (qI (Z.same D _ hK2 rfl) (qI (hB2.trans (q8 w.heap.size (by omega) (by omega) (by omega))) (qI g1 g2)))))))
  clear y u r1 r2 f q hK g1 g2 z hK2 hB2 P U N R Z q8 I HQ hSw hS hwd;gi_wp2;generalize qU (qU w5 _ _) _ _=F at *;go_wp2;obtain⟨P,U,N,R,hK,q,g1,g2⟩:=HX.out;have f1:=ownsRow_putObj N (.deferred none) hK rfl;have f2:=ownsRow_putObj R (.deferred none) hK rfl;have b1:=P.kept (grownBy_putObj' F D (.deferred none)) (fun e=>by cases e;omega)
  have b2:=U.kept (grownBy_putObj' F D (.deferred none)) (fun e=>by cases e;omega)
  have x1:=b1.cell;have x2:=b2.cell;have I1:=Z8.own f1 g1;have I2:=Z8.own f2 g2;have hBf:Below w.heap.size w (F.putObj D (.deferred none)):=q.grown (grownBy_putObj' F D _) q.size (fun j e=>by cases e;omega)
  refine⟨by simp,.inl ⟨_,_,rfl,run_takeDeferred hK,?_⟩⟩
  exact⟨qT #[_,_,O qL 0],by simp [results,Tryz.f41,go_sem,x1,x2],_,_,rfl,I1,I2,hBf,fun b o n c e=>by have:=(f1.lt b (by rw [e];rfl)).1;omega,fun b o n c e=>by have:=(f2.lt b (by rw [e];rfl)).1;omega⟩
 case stop=>rintro D c a W _ _ hf;exact hf.elim
end
def min2 (a b:Int):Int:=if b<a then b else a
def rdA (m:Msn) (l:List Int):Nat->Int
 | 0=>m.start
 | k+1=>if ((k+1:Nat):Int) ∈ l then min2 (rdA m l k+gLeg m k (k+1)) (wy m.ways (k+1)).fix else rdA m l k+gLeg m k (k+1)
def rdB (m:Msn) (l:List Int):Nat->Int
 | 0=>m.start
 | k+1=>rdA m l k+gLeg m k (k+1)
theorem Z0R (m:Msn) (l:List Int) (k:Nat):rdA m l (k+1)=if ((k+1:Nat):Int) ∈ l then min2 (rdB m l (k+1)) (wy m.ways (k+1)).fix else rdB m l (k+1):=rfl
theorem Z0Q (m:Msn) (l:List Int) (k:Nat):rdB m l (k+1)=rdA m l k+gLeg m k (k+1):=rfl
theorem Z9U (a b:Int):min2 a b<=a/\min2 a b<=b/\(min2 a b=a\/min2 a b=b):=by unfold min2;split <;> omega
def sumG (m:Msn):Nat->Int
 | 0=>m.start
 | k+1=>sumG m k+gLeg m k (k+1)
theorem Z9k {m:Msn} (V:VMsn m):∀ k,k<m.ways.length->sumG m k<=grownTo m k
 | 0,_=>Int.le_refl _
 | k + 1, h => by
  have ih:=Z9k V k (by omega)
  have b:=Z0M V.ways h;have g2:=ZW V.leg V.ways (i:=k+1) (j:=(wy m.ways (k+1)).back.toNat) h (by omega)
  simp only [sumG,grownTo];omega
theorem ZcE {m:Msn} (V:VMsn m) {k:Nat} (h:k<m.ways.length):sumG m k<=100000:=by
 have a:=Z9k V k h;have b:=Z1u V.leg V.start V.ways k (m.ways.length-1) (by omega) (by omega)
 have:=V.grown;unfold grownV at this;omega
theorem rd_bd {m:Msn} (V:VMsn m) (l:List Int):∀ k,k<m.ways.length->0<=rdB m l k/\rdB m l k<=sumG m k/\0<=rdA m l k/\rdA m l k<=sumG m k
 | 0,_=>by have:=V.start;simp only [rdB,rdA,sumG];omega
 | k + 1, h => by
  have ih:=rd_bd V l k (by omega)
  have g:=ZW V.leg V.ways (i:=k) (j:=k+1) (by omega) h
  have wb:=ZP (Z0b V.ways h);have e:rdB m l (k+1)=rdA m l k+gLeg m k (k+1):=rfl;have e2:sumG m (k+1)=sumG m k+gLeg m k (k+1):=rfl;have h1:0<=rdB m l (k+1)/\rdB m l (k+1)<=sumG m (k+1):=by omega
  refine⟨h1.1,h1.2,?_⟩;rw [Z0R];have a:=Z9U (rdB m l (k+1)) (wy m.ways (k+1)).fix
  split
  ·omega
  ·omega
theorem rd_le {m:Msn} (V:VMsn m) (l:List Int) {k:Nat} (h:k<m.ways.length):0<=rdB m l k/\rdB m l k<=100000/\0<=rdA m l k/\rdA m l k<=100000:=by
 have:=rd_bd V l k h;have:=ZcE V h;omega
noncomputable def radOkB (m:Msn) (l:List Int):Bool:=validB m && stopsB m l
noncomputable def rdBL (m:Msn) (l:List Int):List Int:=if radOkB m l=true then upto (rdB m l) m.ways.length else []
noncomputable def rdAL (m:Msn) (l:List Int):List Int:=if radOkB m l=true then upto (rdA m l) m.ways.length else []
noncomputable def rdE (m:Msn) (l:List Int):Int:=if radOkB m l=true then 0 else 1
section
attribute [local irreducible] wpQuiet
open Go.RowKit
def homeT (m:Msn) (a:Nat):Nat->Int
 | 0=>0
 | j+1=>homeT m a j+tLeg m (itB m a j) (itB m a (j+1))
def homeE (m:Msn) (a:Nat):Nat->Int
 | 0=>0
 | j+1=>homeE m a j+eLeg m (itB m a j) (itB m a (j+1))
theorem Z0H {m:Msn} (V:VMsn m) {a:Nat} (ha:a<m.ways.length):∀ j,j<=dep m a->0<=homeT m a j/\homeT m a j<=j*90000000/\0<=homeE m a j/\homeE m a j<=j*90900000000
 | 0,_=>by simp [homeT,homeE]
 | j + 1, h => by
  have ih:=Z0H V ha j (by omega)
  have x1:=Z0o V.ways ha (j:=j) (by omega)
  have x2:=Z0o V.ways ha h;have t:=Z3i V.leg V.ways x1 x2;have e:=Z3V V x1 x2;simp only [homeT,homeE];omega
theorem Z12 {n0:Nat} {W:World} {v:Value} {l:List Int} {n:Nat} (h:Z8 n0 W v l) (hl:l.length=n+1):∃ b o cap,v=qS (some ⟨b,o,none⟩) (n+1) (n+1+cap)/\b<n0/\∀ j,j<n+1->W.cell? ⟨b,o+j,none⟩=some (O qL (l.getD j 0)):=by
 obtain⟨_,a,cap,rfl,c⟩:=h;rcases c with d | ⟨b,o,rfl,e,c⟩
 ·rw [d] at hl;simp at hl
 ·rw [hl] at c ⊢
  exact⟨b,o,cap,rfl,e,c⟩
theorem Z1m {m:Msn} {a n j:Nat} (hj:j<n+1):(intL (upto (itB m a) (n+1))).getD j 0=(itB m a j:Int):=by
 simp [intL,upto,List.getD,hj]
theorem Z1p (m : Msn) (vw vh vr : Value) (a : Nat) (w : World) (hm : MsnAt w.heap.size w m vw vh vr) (hV : validB m = true) (ha : a < m.ways.length) :
  Calls Tryz.prog 26 #[.agg (Zc m vw vh vr),O qL a] w fun e w'=>e=qR (qT #[O qL (homeT m a (dep m a)),O qL (homeE m a (dep m a)),O qL 0])/\Below w.heap.size w w':=by
 have E:Below w.heap.size w (w.alloc (qC (Zc m vw vh vr) 26)):=(qK _ _).alloc (qN _) _;have y:=Z3r m vw vh vr a _ ((hm.below E).mono E.size);rw [(Z0Y hV ha).1,(Z0Y hV ha).2] at y;have V:=(Zm m).1 hV;have hd:=Z2V V.ways ha;have n41:=V.n41;obtain⟨n,q⟩:∃ n,dep m a=n:=⟨_,rfl⟩;rw [q] at y hd ⊢;have c:(intL (upto (itB m a) (n+1))).length=n+1:=by simp [intL,upto]
 have y:=qH y;have HM:=qH hm;have W:=qH (qI hV (qI V (qI c q)));have Q:=Has.new w (Zc m vw vh vr) 26;have G:=qH Q;obtain⟨⟨_,t,f,rfl,_⟩,⟨_,B,g,rfl,_⟩,⟨_,s,d,rfl,_⟩⟩:=hm;clear hV V c q E Q;unfold Zc at *;go_enter Tryz.func26,Tryz.ntmps26;go_wp2_with fail;refine y.out.mono ?_;rintro e k ⟨v1,rfl,P,p⟩;obtain⟨b2,S,z,rfl,o,l⟩:=Z12 P W.out.2.2.1;have U:Below w.heap.size w k:=((qK _ w).alloc (qN _) _).trans (p.mono (by simp))
 have I:=G.out.below (p.mono (by simp):Below (w.heap.size+1) _ k) (by omega)
 obtain⟨Y,c1,c2,c3,c4,c5,c6,c7,c8,c9,c10⟩:=Zh (m:=m) (vw:=qS t m.ways.length (m.ways.length+f)) (vh:=qS B m.home.length (m.home.length+g)) (vr:=qS s m.rocks.length (m.rocks.length+d)) I;have z1:=I.lt;have A:=qH l;have HS:=qH (Has.new k (spentCells m (qS t m.ways.length (m.ways.length+f)) (qS B m.home.length (m.home.length+g)) (qS s m.rocks.length (m.rocks.length+d)) 0 0) 119);clear P p l I;by_cases hc4:n+1+z=1
 all_goals
  go_wp2;have HX:=qH (Only.of_below (b:=k.heap.size) ((qK _ k).alloc (qN _) (qC (spentCells m (qS t m.ways.length (m.ways.length+f)) (qS B m.home.length (m.home.length+g)) (qS s m.rocks.length (m.rocks.length+d)) 0 0) 119)))
  go_loopw [25] (fun i wr=>∃ j:Nat,j<=n/\i=O qL (j:Int)/\wr.heap[k.heap.size]?=some (qC (spentCells m (qS t m.ways.length (m.ways.length+f)) (qS B m.home.length (m.home.length+g)) (qS s m.rocks.length (m.rocks.length+d)) (homeT m a j) (homeE m a j)) 119 (0,0))/\Only k.heap.size k wr) (fun i _=>n-(intOf i).toNat)
  case atStart=>exact⟨0,by omega,rfl,HS.out,HX.out⟩
  case round =>
   obtain⟨j,hj,rfl,H,D⟩:=hrel;have hzr:=D.size;have L:Below k.heap.size k wr:=D.below (qN _) (qN _);have C:=U.trans (L.mono U.size);obtain⟨hV,V,c,q⟩:=W.out;have N:=Z0H V ha j (by omega)
   have R:=(Array.getElem?_eq_some_iff.1 H).1;by_cases hlt:j<n
   ·(try (exfalso;omega))
    all_goals
     have x1:=Z0o V.ways ha (j:=j) (by omega)
     have Z:=Z0o V.ways ha (j:=j+1) (by omega)
     have K:=A.out j (by omega)
     have J:=A.out (j+1) (by omega)
     rw [Z1m (by omega)] at K J
     have l1:=cY L K o;have l2:=cY L J o;rw [show S+(j+1)=S+1+j by omega] at l2
     have F:=Zao k.heap.size m (qS t m.ways.length (m.ways.length+f)) (qS B m.home.length (m.home.length+g)) (qS s m.rocks.length (m.rocks.length+d)) (homeT m a j) (homeE m a j) _ _ wr H ((HM.out.below C).mono C.size) hV x1 Z N.1 (by omega) N.2.2.1 (by omega)
     have hs:homeT m a (j+1)=homeT m a j+tLeg m (itB m a j) (itB m a (j+1))/\homeE m a (j+1)=homeE m a j+eLeg m (itB m a j) (itB m a (j+1)):=⟨rfl,rfl⟩;have hs:=qH hs;have F:=qH F;have HH:=qH H;have M:=qH D;generalize itB m a j=p1 at *;generalize itB m a (j+1)=p2 at *;generalize homeT m a j=t0 at *;generalize homeE m a j=e0 at *;have jl:(j:Int)<(n:Int):=by omega
     have X:(j:Int)<(n:Int)+1:=by omega
     clear hV V c q K J H D;go_wp2_with fail;refine F.out.mono ?_;rintro r w4 ⟨⟨v,rfl⟩,x,u⟩;have T:=qH (qI x (M.out.trans u));clear x u;go_wp2;go_roundw
     case rel=>exact⟨j+1,by omega,by go_num,by rw [hs.out.1,hs.out.2];exact T.out.1,T.out.2⟩
     case measure=>simp [intOf];omega
   ·obtain rfl:j=n:=by omega
    have Y:=Low.fact (Zl H (i:=0) rfl);have c1:=Low.fact (Zl H (i:=1) rfl);have dj:decide ((j:Int)<(j:Int))=false:=by simp
    clear hV V c q H;go_wp2
    (refine Zg (by kernel_rfl) (by kernel_rfl) ?_;(iterate 9 (apply qw3;(case hw=>rfl);(case hval=>(intro k hw1 hcx;simp only [Oper.quietAt];go_simp;first | done | rfl | exact⟨rfl,rfl⟩));simp only [pT]));refine wpQuiet_nil ?_;intro w2 hw2)
    go_wp2;go_ret3;exact⟨rfl,C.trans (hw2.out.mono C.size)⟩
theorem Z7F {l:List Int} {s:Int}:s ∈ l↔∃ k,k<l.length/\l.getD k 0=s:=by
 constructor
 ·intro h
  obtain⟨k,a,e⟩:=List.mem_iff_getElem.1 h;exact⟨k,a,by simp [List.getD,List.getElem?_eq_getElem a,e]⟩
 ·rintro ⟨k,a,e⟩
  simp [List.getD,List.getElem?_eq_getElem a] at e;rw [<- e];exact List.getElem_mem a
theorem Z8m (va vb : Value) (a b : List Int) (w : World) (ha : Z8 w.heap.size w va a) (hb : Z8 w.heap.size w vb b) :
  Calls Tryz.prog 17 #[va,vb] w fun e w'=>e=qR (qB (decide (a=b)))/\Below w.heap.size w w':=by
 obtain⟨K,M,B,rfl,g⟩:=ha;obtain⟨F,P,A,rfl,l⟩:=hb;by_cases hl:a.length=b.length
 ·rw [<- hl]
  have L:((a.length:Int) != (a.length:Int))=false:=by simp
  have o:=qH g;have s:=qH l;have m:=qH hl;clear g l hl;go_enter Tryz.func17,Tryz.ntmps17;go_wp2
  go_loopw [5] (fun i wr=>∃ k:Nat,k<=a.length/\i=O qL k/\(∀ j,j<k->a.getD j 0=b.getD j 0)/\Below w.heap.size w wr) (fun i _=>a.length-(intOf i).toNat)
  case atStart=>exact⟨0,by omega,rfl,fun j hj=>by omega,qK _ _⟩
  case round =>
   obtain⟨k,Q,rfl,f,n⟩:=hrel;have c:=qH f;clear f;by_cases hlt:k<a.length
   ·obtain⟨G,N,rfl,v,q⟩:∃ b1 o1,M=some ⟨b1,o1,none⟩/\b1<w.heap.size/\∀ j,j<a.length->w.cell? ⟨b1,o1+j,none⟩=some (O qL (a.getD j 0)):=by
     rcases o.out with h | h
     ·rw [h] at hlt;simp at hlt
     ·exact h
    obtain⟨H,I,rfl,u,r⟩:∃ b1 o1,P=some ⟨b1,o1,none⟩/\b1<w.heap.size/\∀ j,j<b.length->w.cell? ⟨b1,o1+j,none⟩=some (O qL (b.getD j 0)):=by
     rcases s.out with h | h
     ·have:=m.out;rw [h] at this;simp at this;rw [this] at hlt;simp at hlt
     ·exact h
    have J:=Low.fact ((n.cell (p:=⟨G,N+k,none⟩) v).trans (q k hlt));have D:=Low.fact ((n.cell (p:=⟨H,I+k,none⟩) u).trans (r k (by have:=m.out;omega)))
    have R:(k:Int)<a.length:=by omega
    have C:=n.size;clear q r;by_cases he:a.getD k 0=b.getD k 0
    ·rw [<- he] at D
     have z:=qH he;clear he;generalize a.getD k 0=x at J D;have E:(x != x)=false:=by simp
     go_wp2
     (refine Zg (by kernel_rfl) (by kernel_rfl) ?_;(iterate 9 (apply qw3;(case hw=>rfl);(case hval=>(intro w1 hw1 hcx;simp only [Oper.quietAt];go_simp;first | done | rfl | exact⟨rfl,rfl⟩));simp only [pT]));refine wpQuiet_nil ?_;intro w2 hw2)
     go_wp2;go_roundw
     case rel =>
      refine⟨k+1,by omega,by go_num,fun j hj=>?_,n.trans (hw2.out.mono C)⟩
      by_cases e:j=k
      ·rw [e];exact z.out
      ·exact c.out j (by omega)
     case measure=>simp [intOf];omega
    ·have d:Hid (decide (a=b)=false):=by
      show decide (a=b)=false
      simp only [decide_eq_false_iff_not];rintro rfl;exact he rfl
     generalize a.getD k 0=x at *;generalize b.getD k 0=y at *;have E:(x != y)=true:=by simpa using he
     clear he;go_wp2
     (refine Zg (by kernel_rfl) (by kernel_rfl) ?_;(iterate 9 (apply qw3;(case hw=>rfl);(case hval=>(intro w1 hw1 hcx;simp only [Oper.quietAt];go_simp;first | done | rfl | exact⟨rfl,rfl⟩));simp only [pT]));refine wpQuiet_nil ?_;intro w2 hw2)
     go_wp2;go_ret;exact⟨Zu d.out.symm,n.trans (hw2.out.mono C)⟩
   ·have t:Hid (decide (a=b)=true):=by
     show decide (a=b)=true
     simp only [decide_eq_true_eq];refine List.ext_getElem m.out fun j h1 h2=>?_
     have:=c.out j (by omega)
     simpa [List.getD,List.getElem?_eq_getElem h1,List.getElem?_eq_getElem h2] using this
    go_wp2;go_ret;exact⟨Zu t.out.symm,n⟩
 ·have d:decide (a=b)=false:=by
   simp only [decide_eq_false_iff_not];rintro rfl;exact hl rfl
  rw [d];have L:((a.length:Int) != (b.length:Int))=true:=by simp;omega
  clear g l hl d;go_enter Tryz.func17,Tryz.ntmps17;go_wp2;go_ret;exact⟨rfl,zB2⟩
theorem Z8q (vl : Value) (l : List Int) (s : Int) (w : World) (hl : Z8 w.heap.size w vl l) :
  Calls Tryz.prog 24 #[vl,O qL s] w fun e w'=>e=qR (qB (decide (s ∈ l)))/\Below w.heap.size w w':=by
 obtain⟨u,v,r,rfl,d⟩:=hl;have g:=qH d;clear d;go_enter Tryz.func24,Tryz.ntmps24;go_wp2
 go_loopw [5] (fun i wr=>∃ k:Nat,k<=l.length/\i=O qL k/\(∀ j,j<k->l.getD j 0≠s)/\wr=w) (fun i _=>l.length-(intOf i).toNat)
 case atStart=>exact⟨0,by omega,rfl,fun j f=>by omega,rfl⟩
 case round =>
  obtain⟨k,y,rfl,b,rfl⟩:=hrel;have a:=qH b;clear b;by_cases hlt:k<l.length
  ·obtain⟨z,A,rfl,x,c⟩:∃ b1 o1,v=some ⟨b1,o1,none⟩/\b1<wr.heap.size/\∀ j,j<l.length->wr.cell? ⟨b1,o1+j,none⟩=some (O qL (l.getD j 0)):=by
    rcases g.out with h | h
    ·rw [h] at hlt;simp at hlt
    ·exact h
   have t:=c k hlt;clear c;obtain⟨q,m⟩:∃ q,l.getD k 0=q:=⟨_,rfl⟩;rw [m] at t;have p:=qH m;clear m;by_cases he:q=s
   ·have n:Hid (decide (s ∈ l)=true):=decide_eq_true (Z7F.2 ⟨k,hlt,p.out.trans he⟩)
    subst he;go_wp2;go_ret;exact⟨by rw [n.out];rfl,qK _ _⟩
   ·have B:(q == s)=false:=by simpa using he
    have o:=qH he;clear he;go_wp2;go_roundw
    case rel=>exact⟨k+1,by omega,by go_num,fun j f=>by
     by_cases e:j=k
     ·rw [e,p.out];exact o.out
     ·exact a.out j (by omega),trivial⟩
    case measure=>simp [intOf];omega
  ·obtain rfl:k=l.length:=by omega
   have n:Hid (decide (s ∈ l)=false):=decide_eq_false fun h=>by obtain⟨j,f,e⟩:=Z7F.1 h;exact a.out j f e
   go_wp2;go_ret;exact⟨by rw [n.out];rfl,qK _ _⟩
end
theorem Z5S {l:List Int} {k:Nat} (hk:k<l.length):l.getD k 0 ∈ l:=by simp [List.getD,List.getElem?_eq_getElem hk]
theorem Z9E {m:Msn} {l:List Int} (h1:l.Pairwise (·<·)) (h2:∀ x ∈ l,0<x/\x<m.ways.length/\(wy m.ways x.toNat).fix≠0):stopsB m l=true:=by
 simp only [stopsB,decide_eq_true_eq];intro k hk;refine⟨?_,(h2 _ (Z5S hk)).2⟩;unfold prevS
 split
 ·exact (h2 _ (Z5S hk)).1
 ·have:=List.pairwise_iff_getElem.1 h1 (k-1) k (by omega) hk (by omega)
  simpa [List.getD,List.getElem?_eq_getElem hk,List.getElem?_eq_getElem (show k-1<l.length by omega)] using this
section
attribute [local irreducible] wpQuiet
open Go.RowKit
theorem Z5I (m : Msn) (vw vh vr vl : Value) (l : List Int) (w : World) (hfx : ∀ k, k < m.ways.length -> 0 <= (wy m.ways k).fix) (hw : WaysAt w.heap.size w vw m.ways) (hl : Z8 w.heap.size w vl l) :
  Calls Tryz.prog 18 #[.agg (Zc m vw vh vr),vl] w fun e w'=>e=qR (qB (stopsB m l))/\Below w.heap.size w w':=by
 obtain⟨hll,al,capl,rfl,T⟩:=hl;obtain⟨hwl,W,d,rfl,N⟩:=hw;have H0:=Has.new w (Zc m (qS W m.ways.length (m.ways.length+d)) vh vr) 26;have H0':=qH H0;have hlH:=qH T;have hwH:=qH N;have Z:=qH hfx;clear T N H0 hfx;unfold Zc at *;go_enter Tryz.func18,Tryz.ntmps18;go_wp2
 go_loopw [5] (fun i wr=>∃ k:Nat,k<=l.length/\i=O qL k/\(∀ j,j<k->stopOk m l j)/\Has wr w.heap.size (Zc m (qS W m.ways.length (m.ways.length+d)) vh vr) 26/\Below w.heap.size w wr) (fun i _=>l.length-(intOf i).toNat)
 case atStart=>exact⟨0,by omega,rfl,fun j hj=>by omega,H0'.out,(qK _ _).alloc (qN _) _⟩
 case round =>
  obtain⟨k,hk,rfl,g,H,Q⟩:=hrel;have hzr:=Q.size;have v:=H.lt;have f:=qH g;have HH:=qH H;have c:=qH Q;have hp:=Z0x g k (qN _);by_cases hlt:k<l.length
  ·obtain ⟨X, ol, rfl, C, F⟩ : ∃ b1 o1, al = some ⟨b1, o1, none⟩ /\ b1 < w.heap.size /\ ∀ j, j < l.length -> w.cell? ⟨b1, o1 + j, none⟩ = some (O qL (l.getD j 0)) := by
    rcases hlH.out with h | h
    ·rw [h] at hlt;simp at hlt
    ·exact h
   have f1:=Low.fact ((Q.cell (p:=⟨X,ol+k,none⟩) C).trans (F k hlt));have cc:=Low.fact (show wr.cell? ⟨w.heap.size,0,none⟩=some (qS W m.ways.length (m.ways.length+d)) from cX 0 H rfl)
   have HC:=qH F;have z:stopOk m l k↔prevS l k<l.getD k 0/\l.getD k 0<m.ways.length/\(wy m.ways (l.getD k 0).toNat).fix≠0:=Iff.rfl;have u:∀ j,k=j+1->prevS l k=l.getD j 0:=fun j e=>by subst e;simp [prevS]
   have S:k=0->prevS l k=0:=fun e=>by subst e;simp [prevS]
   clear F g H Q;obtain⟨s,hs⟩:∃ s,l.getD k 0=s:=⟨_,rfl⟩;rw [hs] at f1 z;have V:=qH (qI z (qI u (qI S hs)));clear z u S hs;have kl:(k:Int)<l.length:=by omega
   have k0:(0:Int)<=k:=by omega
   have dk:decide ((k:Int)<(l.length:Int))=true:=by rw [decide_eq_true_eq];omega
   by_cases h1:s<1
   ·have a:Hid (stopsB m l=false):=Z04 hlt (fun h=>by have:=(V.out.1.1 h).1;omega)
    have d1:decide (s<1)=true:=by simpa using h1
    clear h1;go_wp2
    (refine Zg (by kernel_rfl) (by kernel_rfl) ?_;(iterate 6 (apply qw3;(case hw=>rfl);(case hval=>(intro w1 hw1 hcx;simp only [Oper.quietAt];go_simp;first | done | rfl | exact⟨rfl,rfl⟩));simp only [pT]));(iterate 8 (apply Zr;(case hw=>rfl);simp only [pT]));(iterate 2 (apply qw3;(case hw=>rfl);(case hval=>(intro w1 hw1 hcx;simp only [Oper.quietAt];go_simp;first | done | rfl | exact⟨rfl,rfl⟩));simp only [pT]));(iterate 14 (apply Zr;(case hw=>rfl);simp only [pT]));(iterate 1 (apply qw3;(case hw=>rfl);(case hval=>(intro w1 hw1 hcx;simp only [Oper.quietAt];go_simp;first | done | rfl | exact⟨rfl,rfl⟩));simp only [pT]));refine wpQuiet_nil ?_;intro w2 hw2)
    go_wp2;go_ret;exact⟨by rw [a.out];rfl,c.out.trans (hw2.out.mono c.out.size)⟩
   ·have d1 : decide (s < 1) = false := by simpa using h1
    by_cases h2:s<m.ways.length
    ·have Y : decide ((m.ways.length : Int) <= s) = false := by simp; omega
     obtain⟨q,rfl⟩:∃ q:Nat,s=q:=⟨s.toNat,by omega⟩
     obtain⟨bw,ow,rfl,ab,K⟩:∃ b o,W=some ⟨b,o,none⟩/\b<w.heap.size/\∀ j,j<m.ways.length->w.cell? ⟨b,o+j*5,none⟩=some (O qL (wy m.ways j).x)/\w.cell? ⟨b,o+j*5+1,none⟩=some (O qL (wy m.ways j).y)/\w.cell? ⟨b,o+j*5+2,none⟩=some (O qL (wy m.ways j).fix)/\w.cell? ⟨b,o+j*5+3,none⟩=some (O qL (wy m.ways j).wait)/\w.cell? ⟨b,o+j*5+4,none⟩=some (O qL (wy m.ways j).back):=by
      rcases hwH.out with h | h
      ·rw [h] at h2;simp at h2;omega
      ·exact h
     have U:q<m.ways.length:=by omega
     have d2n:decide (m.ways.length<=q)=false:=by simp;omega
     have d2m:¬ m.ways.length<=q:=by omega
     have R:=qH ((c.out.cell (p:=⟨bw,ow+q*5+2,none⟩) ab).trans (K q U).2.2.1);have F1:=qH ((c.out.cell (p:=⟨X,ol+k,none⟩) C).trans ((HC.out k hlt).trans (by rw [V.out.2.2.2])))
     have G:=V.out.1;rw [Int.toNat_natCast] at G;have r:=qH G;have q0:(0:Int)<=(q:Int):=by omega
     have hf0:=Z.out q U;clear K G;obtain⟨J,hfx⟩:∃ J,(wy m.ways q).fix=J:=⟨_,rfl⟩;rw [hfx] at hf0;have n:=qH hfx;clear hfx;cases k with
     | zero =>
      have d4:decide ((0:Int)>0)=false:=by decide
      have hpz:Hid (prevS l 0<(q:Int)):=by show _<_;simp only [prevS,if_true];omega
      simp only [Int.natCast_zero,Nat.add_zero] at *;go_wp2
      (refine Zg (by kernel_rfl) (by kernel_rfl) ?_;(iterate 19 (apply qw3;(case hw=>rfl);(case hval=>(intro w1 hw1 hcx;simp only [Oper.quietAt];go_simp;first | done | rfl | exact⟨rfl,rfl⟩));simp only [pT]));(iterate 10 (apply Zr;(case hw=>rfl);simp only [pT]));(iterate 2 (apply qw3;(case hw=>rfl);(case hval=>(intro w1 hw1 hcx;simp only [Oper.quietAt];go_simp;first | done | rfl | exact⟨rfl,rfl⟩));simp only [pT]));refine wpQuiet_nil ?_;intro w2 hw2)
      clear f1 cc;have t:=qH hw2.out;have A:=HH.out.below hw2.out v;have B:=qH A;have g1:=Low.fact (hw2.cell F1.out);have gc:=Low.fact (show w2.cell? ⟨w.heap.size,0,none⟩=some (qS (some ⟨bw,ow,none⟩) m.ways.length (m.ways.length+d)) from cX 0 A rfl)
      have gw:=Low.fact ((hw2.cell R.out).trans (by rw [n.out]))
      clear A hw2 d1 Y;obtain⟨M,rfl⟩:∃ M,M=w2:=⟨_,rfl⟩;have hza:=t.out.size;by_cases h3:J=0
      ·have a:Hid (stopsB m l=false):=Z04 hlt (fun h=>(r.out.1 h).2.2 (n.out.trans h3))
       subst h3;go_wp2
       (refine Zg (by kernel_rfl) (by kernel_rfl) ?_;(iterate 10 (apply qw3;(case hw=>rfl);(case hval=>(intro w1 hw1 hcx;simp only [Oper.quietAt];go_simp;first | done | rfl | exact⟨rfl,rfl⟩));simp only [pT]));refine wpQuiet_nil ?_;intro w2 hw2)
       go_wp2;go_ret;exact⟨by rw [a.out];rfl,c.out.trans ((t.out.trans (hw2.out.mono t.out.size)).mono c.out.size)⟩
      ·have d3:decide (J<1)=false:=by simp;omega
       have E:Hid ((wy m.ways q).fix≠0):=by show _≠_;rw [n.out];exact h3
       clear h3;go_wp2
       (refine Zg (by kernel_rfl) (by kernel_rfl) ?_;(iterate 10 (apply qw3;(case hw=>rfl);(case hval=>(intro w1 hw1 hcx;simp only [Oper.quietAt];go_simp;first | done | rfl | exact⟨rfl,rfl⟩));simp only [pT]));refine wpQuiet_nil ?_;intro w2 hw2)
       go_wp2;go_roundw
       case rel =>
        refine⟨0+1,by omega,by go_num,fun i hi=>?_,B.out.below (hw2.out.mono (by omega)) (by omega),c.out.trans ((t.out.trans (hw2.out.mono t.out.size)).mono c.out.size)⟩
        by_cases e:i=0
        ·rw [e]
         exact r.out.2 ⟨hpz.out,h2,E.out⟩
        ·exact f.out i (by omega)
       case measure=>simp [intOf];omega
     | succ j =>
      have F2:=Low.fact ((c.out.cell (p:=⟨X,ol+j,none⟩) C).trans (HC.out j (by omega)))
      have D:=V.out.2.1 j rfl;obtain⟨I,u⟩:∃ I,l.getD j 0=I:=⟨_,rfl⟩;rw [u] at F2 D;have P:=qH D;clear u D;have j1:(j:Int)<l.length:=by omega
      have j2:(j:Int)+1<l.length:=by omega
      have j3:(0:Int)<=(j:Int)+1:=by omega
      have j4:(0:Int)<=(j:Int):=by omega
      have j5:qW qL (j:Int)=j:=zW2;have d4:decide ((j:Int)+1>0)=true:=by rw [decide_eq_true_eq];omega
      by_cases h5:(q:Int)<=I
      ·have a:Hid (stopsB m l=false):=Z04 hlt (fun h=>by have:=(r.out.1 h).1;rw [P.out] at this;omega)
       have d5:decide ((q:Int)<=I)=true:=by simpa using h5
       clear h5;go_wp2
       (refine Zg (by kernel_rfl) (by kernel_rfl) ?_;(iterate 31 (apply qw3;(case hw=>rfl);(case hval=>(intro w1 hw1 hcx;simp only [Oper.quietAt];go_simp;first | done | rfl | exact⟨rfl,rfl⟩));simp only [pT]));refine wpQuiet_nil ?_;intro w2 hw2)
       go_wp2;go_ret;exact⟨by rw [a.out];rfl,c.out.trans (hw2.out.mono c.out.size)⟩
      ·have d5:decide ((q:Int)<=I)=false:=by simpa using h5
       have aa:Hid (I<(q:Int)):=by show _<_;omega
       clear h5;go_wp2
       (refine Zg (by kernel_rfl) (by kernel_rfl) ?_;(iterate 31 (apply qw3;(case hw=>rfl);(case hval=>(intro w1 hw1 hcx;simp only [Oper.quietAt];go_simp;first | done | rfl | exact⟨rfl,rfl⟩));simp only [pT]));refine wpQuiet_nil ?_;intro w2 hw2)
       clear f1 cc F2;have t:=qH hw2.out;have A:=HH.out.below hw2.out v;have B:=qH A;have g1:=Low.fact (hw2.cell F1.out);have gc:=Low.fact (show w2.cell? ⟨w.heap.size,0,none⟩=some (qS (some ⟨bw,ow,none⟩) m.ways.length (m.ways.length+d)) from cX 0 A rfl)
       have gw:=Low.fact ((hw2.cell R.out).trans (by rw [n.out]))
       clear A hw2 d1 Y;obtain⟨M,rfl⟩:∃ M,M=w2:=⟨_,rfl⟩;have hza:=t.out.size;by_cases h3:J=0
       ·have a:Hid (stopsB m l=false):=Z04 hlt (fun h=>(r.out.1 h).2.2 (n.out.trans h3))
        subst h3;go_wp2
        (refine Zg (by kernel_rfl) (by kernel_rfl) ?_;(iterate 10 (apply qw3;(case hw=>rfl);(case hval=>(intro w1 hw1 hcx;simp only [Oper.quietAt];go_simp;first | done | rfl | exact⟨rfl,rfl⟩));simp only [pT]));refine wpQuiet_nil ?_;intro w2 hw2)
        go_wp2;go_ret;exact⟨by rw [a.out];rfl,c.out.trans ((t.out.trans (hw2.out.mono t.out.size)).mono c.out.size)⟩
       ·have d3:decide (J<1)=false:=by simp;omega
        have E:Hid ((wy m.ways q).fix≠0):=by show _≠_;rw [n.out];exact h3
        clear h3;go_wp2
        (refine Zg (by kernel_rfl) (by kernel_rfl) ?_;(iterate 10 (apply qw3;(case hw=>rfl);(case hval=>(intro w1 hw1 hcx;simp only [Oper.quietAt];go_simp;first | done | rfl | exact⟨rfl,rfl⟩));simp only [pT]));refine wpQuiet_nil ?_;intro w2 hw2)
        go_wp2;go_roundw
        case rel =>
         refine⟨(j+1)+1,by omega,by go_num,fun i hi=>?_,B.out.below (hw2.out.mono (by omega)) (by omega),c.out.trans ((t.out.trans (hw2.out.mono t.out.size)).mono c.out.size)⟩
         by_cases e:i=(j+1)
         ·rw [e]
          exact r.out.2 ⟨by rw [P.out];exact aa.out,h2,E.out⟩
         ·exact f.out i (by omega)
        case measure=>simp [intOf];omega
    ·have a:Hid (stopsB m l=false):=Z04 hlt (fun h=>h2 (V.out.1.1 h).2.1)
     have Y:decide ((m.ways.length:Int)<=s)=true:=by simp;omega
     go_wp2
     (refine Zg (by kernel_rfl) (by kernel_rfl) ?_;(iterate 16 (apply qw3;(case hw=>rfl);(case hval=>(intro w1 hw1 hcx;simp only [Oper.quietAt];go_simp;first | done | rfl | exact⟨rfl,rfl⟩));simp only [pT]));(iterate 14 (apply Zr;(case hw=>rfl);simp only [pT]));(iterate 1 (apply qw3;(case hw=>rfl);(case hval=>(intro w1 hw1 hcx;simp only [Oper.quietAt];go_simp;first | done | rfl | exact⟨rfl,rfl⟩));simp only [pT]));refine wpQuiet_nil ?_;intro w2 hw2)
     go_wp2;go_ret;exact⟨by rw [a.out];rfl,c.out.trans (hw2.out.mono c.out.size)⟩
  ·obtain rfl:k=l.length:=by omega
   have L:Hid (stopsB m l=true):=by
    show stopsB m l=true
    simp only [stopsB,decide_eq_true_eq];exact f.out
   have hd:decide ((l.length:Int)<(l.length:Int))=false:=by simp
   clear g H Q;go_wp2;go_ret;exact⟨by rw [L.out];rfl,c.out⟩
end
end Go.Proofs.YthipcinibldgnaaGreat
