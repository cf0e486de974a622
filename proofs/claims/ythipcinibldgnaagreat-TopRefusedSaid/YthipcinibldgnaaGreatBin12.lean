/- package power: leg, Cost. | package power: add, go1, wait, Home. | package power: set: a map of stops. | package power: ways: the iterator over the .. -/
import Derived.Maps.OwnSet
import Derived.Maps.OwnOps
import Derived.Maps.Views
import Derived.LoopTactic
import Derived.Test.YthipcinibldgnaaGreatBin11
import Derived.OwnWalkIn
open Go.Value renaming int->O,pointer->qP,slice->qS,tuple->qT
open Go.Ending renaming returned->qR
open Go.Obj renaming cells->qC
open Go.IntKind renaming wrap->qW,i64->qL
open Go.Lib renaming hid->qH
open Go.RowKit.Below renaming refl->qK
open Go.World renaming setCell->qU
open Nat renaming le_refl->qN
open And renaming intro->qI
open Go.Act renaming put->qJ
set_option maxRecDepth 8000
set_option maxHeartbeats 4000000
namespace Go.Proofs.YthipcinibldgnaaGreat
section
attribute [local irreducible] wpQuiet
open Go.RowKit
def eLeg (m:Msn) (i j:Nat):Int:=m.idle*tLeg m i j+m.drive*dLeg m i j
theorem Z3C {m:Msn} (V:VMsn m) {i j:Nat} (hi:i<m.ways.length) (hj:j<m.ways.length) :
  0<=m.idle*tLeg m i j/\m.idle*tLeg m i j<=90000000000/\0<=m.drive*dLeg m i j/\m.drive*dLeg m i j<=900000000/\0<=eLeg m i j/\eLeg m i j<=90900000000:=by
 have t:=Z35 V.leg V.ways hi hj;have d:=Z2u V.ways hi hj;have h1:=Int.mul_nonneg V.idle.1 t.1;have h2:=Int.mul_nonneg V.drive.1 d.1;have h3:=Int.mul_le_mul V.idle.2 t.2 t.1 (by omega)
 have h4:=Int.mul_le_mul V.drive.2 d.2 d.1 (by omega)
 unfold eLeg;omega
theorem Zc9 (m:Msn) (vw vh vr:Value) (i j:Int) (w:World) (hm:MsnAt w.heap.size w m vw vh vr) (hE:okL m i j=false) :
  Calls Tryz.prog 104 #[.agg (Zc m vw vh vr),O qL i,O qL j] w fun e w'=>e=qR (qT #[.agg #[O qL 0,O qL 0],O qL 1])/\Below w.heap.size w w':=by
 have W1:Below w.heap.size w ((w.alloc (qC (Zc m vw vh vr) 26)).alloc (qC #[O qL 0,O qL 0] 117)):=((qK _ _).alloc (qN _) _).alloc (by first | omega | (simp;done) | (simp;omega)) _
 have hl:=Z2o m vw vh vr i j _ ((hm.below W1).mono W1.size);simp only [legV,legA,legT,legG,legE,hE,Bool.false_eq_true,if_false] at hl;have hl:=qH hl;have H:=Has.new (w.alloc (qC (Zc m vw vh vr) 26)) #[O qL 0,O qL 0] 117;rw [show (w.alloc (qC (Zc m vw vh vr) 26)).heap.size=w.heap.size+1 by simp] at H
 have H:=qH H;clear hm hE W1;unfold Zc at *;go_enter Tryz.func104,Tryz.ntmps104;go_wp2_with (go_at_call 20;refine (hl.out).mono ?_;rintro e w1 ⟨rfl,hb1⟩;have H1:=H.out.below hb1 (by simp);obtain⟨hc1,hf1⟩:=bcell hb1;have x0:=Zl H1 (i:=0) rfl;have x1:=Zl H1 (i:=1) rfl;have y0:=Ze H1 0;have y1:=Ze H1 1;have hz1:=hb1.size;try simp at hz1)
 have z0:=Zl (H1.set 0 (O qL 0)) (i:=0) rfl;have z1:=Zl ((H1.set 0 (O qL 0)).set 1 (O qL 0)) (i:=1) rfl;refine bodyPost_ret (v:=qT #[.agg #[O qL 0,O qL 0],O qL 1]) (by simp [results,Tryz.f104,go_sem,z0,z1]) rfl ⟨rfl,?_⟩
 repeat (first | exact qK _ _ | assumption | apply Below.drew | refine Below.setCell ?_ (by first | omega | (simp;done) | (simp;omega)) _ | refine Below.alloc ?_ (by first | omega | (simp;done) | (simp;omega)) _ | refine Below.call (by assumption) ?_ (by first | omega | (simp;done) | (simp;omega)))
theorem Z7e (m:Msn) (vw vh vr:Value) (i j:Nat) (w:World) (hm:MsnAt w.heap.size w m vw vh vr) (hV:validB m=true) (hi:i<m.ways.length) (hj:j<m.ways.length) :
  Calls Tryz.prog 104 #[.agg (Zc m vw vh vr),O qL i,O qL j] w fun e w'=>e=qR (qT #[.agg #[O qL (tLeg m i j),O qL (eLeg m i j)],O qL 0])/\Below w.heap.size w w':=by
 have W1:Below w.heap.size w ((w.alloc (qC (Zc m vw vh vr) 26)).alloc (qC #[O qL 0,O qL 0] 117)):=((qK _ _).alloc (qN _) _).alloc (by first | omega | (simp;done) | (simp;omega)) _
 have hl:=Z2o m vw vh vr i j _ ((hm.below W1).mono W1.size);rw [Z3s hV hi hj] at hl;have hl:=qH hl;have b:=Z3C ((Zj m).1 hV) hi hj;have x1:qW qL (m.idle*tLeg m i j)=m.idle*tLeg m i j:=zW2;have x2:qW qL (m.drive*dLeg m i j)=m.drive*dLeg m i j:=zW2;have x3:qW qL (m.idle*tLeg m i j+m.drive*dLeg m i j)=m.idle*tLeg m i j+m.drive*dLeg m i j:=zW2;unfold eLeg;generalize tLeg m i j=t at *;generalize dLeg m i j=d at *;generalize gLeg m i j=g at *;have H:=Has.new (w.alloc (qC (Zc m vw vh vr) 26)) #[O qL 0,O qL 0] 117;rw [show (w.alloc (qC (Zc m vw vh vr) 26)).heap.size=w.heap.size+1 by simp] at H
 have H:=qH H;clear hm hV W1 b;unfold Zc at *;go_enter Tryz.func104,Tryz.ntmps104;go_wp2_with (go_at_call 20;refine (hl.out).mono ?_;rintro e w1 ⟨rfl,hb1⟩;have H1:=H.out.below hb1 (by simp);obtain⟨hc1,hf1⟩:=bcell hb1;have x0:=Zl H1 (i:=0) rfl;have x1:=Zl H1 (i:=1) rfl;have y0:=Ze H1 0;have y1:=Ze H1 1;have hz1:=hb1.size;try simp at hz1)
 have z0:=Zl (H1.set 0 (O qL t)) (i:=0) rfl;have z1:=Zl ((H1.set 0 (O qL t)).set 1 (O qL (m.idle*t+m.drive*d))) (i:=1) rfl;refine bodyPost_ret (v:=qT #[.agg #[O qL t,O qL (m.idle*t+m.drive*d)],O qL 0]) (by simp [results,Tryz.f104,go_sem,z0,z1]) rfl ⟨rfl,?_⟩
 repeat (first | exact qK _ _ | assumption | apply Below.drew | refine Below.setCell ?_ (by first | omega | (simp;done) | (simp;omega)) _ | refine Below.alloc ?_ (by first | omega | (simp;done) | (simp;omega)) _ | refine Below.call (by assumption) ?_ (by first | omega | (simp;done) | (simp;omega)))
noncomputable def pT (m:Msn) (i j:Int):Int:=if okL m i j=true then tLeg m i.toNat j.toNat else 0
noncomputable def pE (m:Msn) (i j:Int):Int:=if okL m i j=true then eLeg m i.toNat j.toNat else 0
theorem ZaW (m:Msn) (vw vh vr:Value) (i j:Int) (w:World) (hm:MsnAt w.heap.size w m vw vh vr) :
  Calls Tryz.prog 104 #[.agg (Zc m vw vh vr),O qL i,O qL j] w fun e w'=>e=qR (qT #[.agg #[O qL (pT m i j),O qL (pE m i j)],O qL (legE m i j)])/\Below w.heap.size w w':=by
 cases h:okL m i j
 ·simp only [pT,pE,legE,h,Bool.false_eq_true,if_false]
  exact Zc9 m vw vh vr i j w hm h
 ·simp only [pT,pE,legE,h,if_true]
  obtain⟨a,b,rfl,rfl,ha,hb,hv⟩:=Z7i h;exact Z7e m vw vh vr a b w hm hv ha hb
theorem Z9d (m:Msn) (vw vh vr:Value) (i j:Int) (w:World) (hm:MsnAt w.heap.size w m vw vh vr) :
  Calls Tryz.prog 47 #[.agg (Zc m vw vh vr),O qL i,O qL j] w fun e w'=>e=qR (qT #[O qL (pT m i j),O qL (pE m i j),O qL (legE m i j)])/\Below w.heap.size w w':=by
 have W1:Below w.heap.size w (w.alloc (qC (Zc m vw vh vr) 26)):=(qK _ _).alloc (qN _) _;have hl:=ZaW m vw vh vr i j _ ((hm.below W1).mono W1.size);cases h:okL m i j
 ·simp only [pT,pE,legE,h,Bool.false_eq_true,if_false] at hl ⊢
  have hl:=qH hl;clear hm W1 h;unfold Zc at *;go_enter Tryz.func47,Tryz.ntmps47;go_wp2_with (go_at_call 104;refine (hl.out).mono ?_;rintro e w1 ⟨rfl,hb1⟩;obtain⟨hc1,hf1⟩:=bcell hb1;have hz1:=hb1.size;try simp at hz1)
  go_ret3;exact⟨rfl,zB2⟩
 ·simp only [pT,pE,legE,h,if_true] at hl ⊢
  have hl:=qH hl;clear hm W1 h;generalize tLeg m i.toNat j.toNat=t at *;generalize eLeg m i.toNat j.toNat=e0 at *;unfold Zc at *;go_enter Tryz.func47,Tryz.ntmps47;go_wp2_with (go_at_call 104;refine (hl.out).mono ?_;rintro e w1 ⟨rfl,hb1⟩;obtain⟨hc1,hf1⟩:=bcell hb1;have hz1:=hb1.size;try simp at hz1)
  go_quiet (fail)
  go_wp2;go_ret3;refine⟨rfl,Z3N ?_ _⟩
  repeat (first | exact qK _ _ | assumption | apply Below.drew | refine Below.setCell ?_ (by first | omega | (simp;done) | (simp;omega)) _ | refine Below.alloc ?_ (by first | omega | (simp;done) | (simp;omega)) _ | refine Below.call (by assumption) ?_ (by first | omega | (simp;done) | (simp;omega)))
structure Only (b:Nat) (w w':World):Prop where
 os:w'.os=w.os
 tape:w'.tape=w.tape
 output:w'.output=w.output
 size:w.heap.size<=w'.heap.size
 block:∀ k,k<w.heap.size->k≠b->w'.heap[k]?=w.heap[k]?
theorem Only.of_below {b:Nat} {w w':World} (h:Below w.heap.size w w'):Only b w w':=⟨h.os,h.tape,h.output,h.size,fun k hk _=>h.block k hk⟩
theorem Only.trans {b:Nat} {x y z:World} (h:Only b x y) (k:Only b y z):Only b x z :=
 ⟨k.os.trans h.os,k.tape.trans h.tape,k.output.trans h.output,Nat.le_trans h.size k.size,fun i hi hne=>(k.block i (Nat.lt_of_lt_of_le hi h.size) hne).trans (h.block i hi hne)⟩
theorem Only.below {b n:Nat} {w w':World} (h:Only b w w') (hn:n<=b) (hw:n<=w.heap.size):Below n w w':=⟨h.os,h.tape,h.output,h.size,fun k hk=>h.block k (by omega) (by omega)⟩
theorem Only.set {b:Nat} {w w':World} (h:Only b w w') (i:Nat) (v:Value):Only b w (w'.setCell ⟨b,i,none⟩ v) :=
 ⟨h.os,h.tape,h.output,by simpa [qU] using h.size,fun k hk hne=>(Below.heap_setCell w' ⟨b,i,none⟩ v k hne).trans (h.block k hk hne)⟩
def spentCells (m:Msn) (vw vh vr:Value) (t e:Int):Array Value :=
 #[O qL t,O qL e,vw,vh,O qL m.start,vr,O qL m.speed,O qL m.part,O qL m.flow,O qL m.idle,O qL m.drive,O qL m.battery,O qL m.deadline]
theorem ZaA (B:Nat) (m:Msn) (vw vh vr:Value) (t e t2 e2:Int) (w:World) (H:w.heap[B]?=some (qC (spentCells m vw vh vr t e) 119 (0,0)))
  (ht:qW qL (t+t2)=t+t2) (he:qW qL (e+e2)=e+e2) :
  Calls Tryz.prog 112 #[qP (some ⟨B,0,none⟩),.agg #[O qL t2,O qL e2]] w fun r w'=>(∃ v,r=qR v)/\w'.heap[B]?=some (qC (spentCells m vw vh vr (t+t2) (e+e2)) 119 (0,0))/\Only B w w':=by
 have hlt:=(Array.getElem?_eq_some_iff.1 H).1;have c0:w.cell? ⟨B,0,none⟩=some (O qL t):=Zl H (i:=0) rfl;have c1:w.cell? ⟨B,1,none⟩=some (O qL e):=Zl H (i:=1) rfl;have f0:=Ze H 0;have f1:=Ze H 1;have HH:=qH H;clear H;go_enter Tryz.func112,Tryz.ntmps112;go_wp2
 go_region
 all_goals go_wp2
 all_goals go_end0
 all_goals refine⟨⟨_,rfl⟩,(((Has.set (Has.set HH.out 0 _) 1 _).below ((qK (B+1) _).alloc (by simp [qU];omega) _) (by omega)):_),⟨rfl,rfl,rfl,by simp [qU],fun k hk hne=>?_⟩⟩
 all_goals
  refine (((qK _ _).alloc (qN _) _).block k (by simpa [qU] using hk):_=(qU (qU w ⟨B,0,none⟩ (O qL (t+t2))) ⟨B,1,none⟩ (O qL (e+e2))).heap[k]?).trans ?_
  exact (((Only.of_below (qK _ w)).set 0 _).set 1 _).block k hk hne
theorem Z6i {W:World} {B:Nat} {m:Msn} {vw vh vr:Value} {t e:Int} {T:TypeId} (H:W.heap[B]?=some (qC (spentCells m vw vh vr t e) T (0,0))):W.cell? ⟨B,2,none⟩=some vw/\W.cell? ⟨B,3,none⟩=some vh/\W.cell? ⟨B,4,none⟩=some (O qL m.start)/\W.cell? ⟨B,5,none⟩=some vr/\W.cell? ⟨B,6,none⟩=some (O qL m.speed)/\W.cell? ⟨B,7,none⟩=some (O qL m.part)/\W.cell? ⟨B,8,none⟩=some (O qL m.flow)/\W.cell? ⟨B,9,none⟩=some (O qL m.idle)/\W.cell? ⟨B,10,none⟩=some (O qL m.drive)/\W.cell? ⟨B,11,none⟩=some (O qL m.battery)/\W.cell? ⟨B,12,none⟩=some (O qL m.deadline) :=
 ⟨Zl H (i:=2) rfl,Zl H (i:=3) rfl,Zl H (i:=4) rfl,Zl H (i:=5) rfl,Zl H (i:=6) rfl,Zl H (i:=7) rfl,Zl H (i:=8) rfl,Zl H (i:=9) rfl,Zl H (i:=10) rfl,Zl H (i:=11) rfl,Zl H (i:=12) rfl⟩
def SpentQ (B:Nat) (m:Msn) (vw vh vr:Value) (t e:Int) (w:World) (r:Ending) (w':World):Prop :=
 (∃ v,r=qR v)/\w'.heap[B]?=some (qC (spentCells m vw vh vr t e) 119 (0,0))/\Only B w w'
theorem Z9T (B:Nat) (m:Msn) (vw vh vr:Value) (t e:Int) (i j:Nat) (w:World) (H:w.heap[B]?=some (qC (spentCells m vw vh vr t e) 119 (0,0)))
  (hm:MsnAt w.heap.size w m vw vh vr) (hV:validB m=true) (hi:i<m.ways.length) (hj:j<m.ways.length) (t1:0<=t) (t2:t<=1000000000000000) (e1:0<=e) (e2:e<=1000000000000000) :
  Calls Tryz.prog 62 #[qP (some ⟨B,0,none⟩),O qL i,O qL j] w (SpentQ B m vw vh vr (t+tLeg m i j) (e+eLeg m i j) w):=by
 have hlt:=(Array.getElem?_eq_some_iff.1 H).1;have V:=(Zj m).1 hV;have tb:=Z35 V.leg V.ways hi hj;have eb:=Z3C V hi hj;have hl:=Z7e m vw vh vr i j w hm hV hi hj;have ht:qW qL (t+tLeg m i j)=t+tLeg m i j:=zW2;have he:qW qL (e+eLeg m i j)=e+eLeg m i j:=zW2;generalize tLeg m i j=dt at *;generalize eLeg m i j=de at *;have hl:=qH hl;have HW:=qH (qI ht he);obtain⟨c2,c3,c4,c5,c6,c7,c8,c9,c10,c11,c12⟩:=Z6i H;have HH:=qH H;clear H hm hV V ht he tb eb;unfold Zc at hl;go_enter Tryz.func62,Tryz.ntmps62;go_wp2_with fail;refine hl.out.mono ?_;rintro r w1 ⟨rfl,hb1⟩;have H1:=(hb1.block B hlt).trans HH.out;have H1':=qH H1;clear c2 c3 c4 c5 c6 c7 c8 c9 c10 c11 c12;have z1:=hb1.size;have HB1:=qH hb1;clear hb1 H1;go_wp2;have N2:=Has.new w1 #[O qL dt,O qL de] 117;have n0:=Low.fact (N2.cell (i:=0) rfl);have n1:=Low.fact (N2.cell (i:=1) rfl);have HN:=qH N2;clear N2
 (refine (wpIn_wide (n:=9)).1 ?_;refine Zn (Zk _) 4 (by kernel_rfl) (by kernel_rfl) (by kernel_rfl) ?_;simp only [List.take_succ_cons,List.take_zero,List.drop_succ_cons,List.drop_zero];(iterate 4 (apply Zf;(case hw=>rfl);(case hval=>(intro w1 hw1;have hcx:=Low.cells hw1;simp only [Oper.quietAt];go_simp;first | done | rfl | exact⟨rfl,rfl⟩));simp only [qJ,zq4,zr4,zs4]));refine wpQuiet_nil ?_;intro w2 hw2)
 have B2:=qH (((qK _ w1).alloc (qN _) (qC #[O qL dt,O qL de] 117)).trans (hw2.out.mono (by simp)))
 have H2:=(B2.out.block B (by omega)).trans H1'.out
 have H2':=qH H2;clear H2 hw2 n0 n1
 gi_wp2_with (refine⟨trivial,?_⟩;gi_at_call 112;refine (callsIn_wide.2 (ZaA B m vw vh vr t e dt de _ H2'.out HW.out.1 HW.out.2)).mono ?_;rintro r w3 ⟨⟨v,rfl⟩,hH3,hO3⟩)
 have HO:=qH (qI hH3 (((Only.of_below HB1.out).trans (Only.of_below B2.out)).trans hO3));clear hH3 hO3;go_wp2;go_end0;exact⟨⟨_,rfl⟩,HO.out.1,HO.out.2⟩
theorem Z74 (B:Nat) (m:Msn) (vw vh vr:Value) (t e:Int) (i:Nat) (w:World) (H:w.heap[B]?=some (qC (spentCells m vw vh vr t e) 119 (0,0)))
  (hm:MsnAt w.heap.size w m vw vh vr) (hV:validB m=true) (hi:i<m.ways.length) (t1:0<=t) (t2:t<=1000000000000000) (e1:0<=e) (e2:e<=1000000000000000) :
  Calls Tryz.prog 150 #[qP (some ⟨B,0,none⟩),O qL i] w (SpentQ B m vw vh vr (t+(wy m.ways i).wait) (e+m.idle*(wy m.ways i).wait) w):=by
 have hlt:=(Array.getElem?_eq_some_iff.1 H).1;have V:=(Zj m).1 hV;have wb:=ZO (Z06 V.ways hi);have mb:=ZX (a:=m.idle) (b:=(wy m.ways i).wait) (m:=1000) (n:=100000) (by have:=V.idle;omega) (by have:=V.idle;omega) (by omega) (by omega)
 have mn:=Int.mul_nonneg V.idle.1 wb.2.2.2.2.2.2.1;have x1:qW qL (m.idle*(wy m.ways i).wait)=m.idle*(wy m.ways i).wait:=zW2;have ht:qW qL (t+(wy m.ways i).wait)=t+(wy m.ways i).wait:=zW2;have he:qW qL (e+m.idle*(wy m.ways i).wait)=e+m.idle*(wy m.ways i).wait:=zW2;obtain⟨b,o,cap,rfl,hb,hc2⟩:=hm.1.cells (by omega)
 have u3:=(hc2 i hi).2.2.2.1;have HW:=qH (qI ht he);have hil:(i:Int)<m.ways.length:=by omega
 have i0:(0:Int)<=i:=by omega
 generalize (wy m.ways i).wait=q at *;have cl2:w.cell? ⟨B,2,none⟩=some (qS (some ⟨b,o,none⟩) m.ways.length (m.ways.length+cap)):=Zl H (i:=2) rfl;have cl9:w.cell? ⟨B,9,none⟩=some (O qL m.idle):=Zl H (i:=9) rfl;have l9:=Low.fact cl9;have HH:=qH H;clear H hm hV V ht he wb mb mn hc2 cl9;go_enter Tryz.func150,Tryz.ntmps150;go_wp2
 (refine (wpIn_wide (n:=9)).1 ?_;refine Zn (Zk _) 12 (by kernel_rfl) (by kernel_rfl) (by kernel_rfl) ?_;simp only [List.take_succ_cons,List.take_zero,List.drop_succ_cons,List.drop_zero];(iterate 12 (apply Zf;(case hw=>rfl);(case hval=>(intro w1 hw1;have hcx:=Low.cells hw1;simp only [Oper.quietAt];go_simp;first | done | rfl | exact⟨rfl,rfl⟩));simp only [qJ,zq4,zr4,zs4]));refine wpQuiet_nil ?_;intro w2 hw2)
 have H2:=(hw2.out.block B hlt).trans HH.out;have H2':=qH H2;have B2:=qH hw2.out;clear H2 hw2 l9
 gi_wp2_with (refine⟨trivial,?_⟩;gi_at_call 112;refine (callsIn_wide.2 (ZaA B m _ vh vr t e q (m.idle*q) _ H2'.out HW.out.1 HW.out.2)).mono ?_;rintro r w3 ⟨⟨v,rfl⟩,hH3,hO3⟩)
 have HO:=qH (qI hH3 ((Only.of_below B2.out).trans hO3));clear hH3 hO3;go_wp2;go_end0;exact⟨⟨_,rfl⟩,HO.out.1,HO.out.2⟩
end
section
attribute [local irreducible] wpQuiet
open Go.RowKit Go.Maps
theorem keyInt:Keyed Tryz.prog 3:=int_keyed Tryz.underlying3
theorem zeroBool (w:World):(zeroValue 4).run Tryz.prog w=.ok (.bool false) w:=by kernel_rfl
def SetAt (W:World) (b:Nat) (l:List Int):Prop:=∃ (n:Nat) (D:DataW Unit),W.ownsMap Tryz.prog 3 (plainElem Tryz.prog 4) b n D/\n<=l.length/\(∃ es,D=.map es)/\∀ k:Int,(Lit.int .i64 k).wf=true->D.atKey (.int .i64 k) (.lit (.bool false))=.lit (.bool (decide (k ∈ l)))
theorem SetAt.made (w:World):SetAt (w.alloc (.map #[] 0)) w.heap.size []:=⟨0,_,World.ownsMap_made _ _ _ _,qN _,⟨[],rfl⟩,fun k _=>by simp [DataW.atKey]⟩
theorem SetAt.lt {W:World} {b:Nat} {l:List Int} (h:SetAt W b l):b<W.heap.size:=by obtain⟨n,D,h1,_⟩:=h;exact h1.lt
theorem SetAt.block {W W':World} {b:Nat} {l:List Int} (h:SetAt W b l) (hb:W'.heap[b]?=W.heap[b]?):SetAt W' b l:=by
 obtain⟨n,D,⟨es,clock,h0,F,hs,hD⟩,h2,h3,h4⟩:=h;exact⟨n,D,⟨es,clock,hb.trans h0,F,hs,hD⟩,h2,h3,h4⟩
theorem SetAt.look {W:World} {b:Nat} {l:List Int} (h:SetAt W b l) {k:Int} (hk:(Lit.int .i64 k).wf=true):(Instr.lookup 148 (.map (some b)) (.int .i64 k) false).run Tryz.prog W=.ok (.bool (decide (k ∈ l))) W:=by
 obtain⟨n,D,h1,_,_,h4⟩:=h;obtain⟨v,ps,hrun,hv⟩:=h1.lookup keyInt Tryz.underlying148 (zeroBool W) (plainElem_bool Tryz.underlying4 false) (keyOf_int_mk Tryz.underlying3 hk);rw [h4 k hk] at hv;rw [hrun];unfold plainElem at hv;rw [Tryz.underlying4] at hv;cases v <;> simp_all
def prevS (l:List Int) (k:Nat):Int:=if k=0 then 0 else l.getD (k-1) 0
def stopOk (m:Msn) (l:List Int) (k:Nat):Prop:=prevS l k<l.getD k 0/\l.getD k 0<m.ways.length/\(wy m.ways (l.getD k 0).toNat).fix≠0
instance (m:Msn) (l:List Int) (k:Nat):Decidable (stopOk m l k):=by unfold stopOk;infer_instance
def stopsB (m:Msn) (l:List Int):Bool:=decide (∀ k,k<l.length->stopOk m l k)
theorem Z0O {m:Msn} {l:List Int} {k:Nat} (hk:k<l.length) (h:¬ stopOk m l k):stopsB m l=false:=by
 simp only [stopsB,decide_eq_false_iff_not];intro h2;exact h (h2 k hk)
theorem Z0H {m:Msn} {l:List Int} {k:Nat} (h:∀ j,j<k->stopOk m l j):∀ j,j<=k->0<=prevS l j
 | 0,_=>by simp [prevS]
 | j + 1, hj => by
  have ih:=Z0H h j (by omega)
  have:=(h j (by omega)).1
  simp only [prevS,Nat.add_one_ne_zero,if_false,Nat.add_sub_cancel];omega
def SetQ (l:List Int) (w:World) (e:Ending) (w':World):Prop:=∃ b,e=qR (qT #[.map (some b),.bool true])/\SetAt w' b l/\w.heap.size<=b/\Below w.heap.size w w'
theorem SetAt.put {b:Nat} {l:List Int} {s:Int} (hs:(Lit.int .i64 s).wf=true) {n:Nat} {D:DataW Unit} {W':World} (hn:n<=l.length) (hm:∃ es,D=.map es)
  (hat:∀ k:Int,(Lit.int .i64 k).wf=true->D.atKey (.int .i64 k) (.lit (.bool false))=.lit (.bool (decide (k ∈ l))))
  (h:W'.ownsMap Tryz.prog 3 (plainElem Tryz.prog 4) b (n+1) (D.put (.int .i64 s) (.lit (.bool true)))):SetAt W' b (l++[s]):=by
 refine⟨n+1,_,h,by simp;omega,?_,fun k hk=>?_⟩
 ·obtain⟨es,rfl⟩:=hm;exact IsMap.put ⟨es,rfl⟩ _ _
 ·by_cases e:k=s
  ·subst e
   rw [atKey_put_same hm (by trivial)]
   simp
  ·rw [atKey_put_other (by intro h;injection h with _ h2;exact e h2),hat k hk]
   simp [e]
def SetsQ (m:Msn) (l:List Int) (w:World) (e:Ending) (w':World):Prop :=
 (stopsB m l=false/\e=qR (qT #[.map none,.bool false])/\Below w.heap.size w w')\/(stopsB m l=true/\SetQ l w e w')
theorem Z3x {n:Int} (h1:-9223372036854775808<=n) (h2:n<=9223372036854775807):(Lit.int .i64 n).wf=true:=by
 simp [Lit.wf,IntKind.min,IntKind.max,IntKind.signed,IntKind.bits];omega
theorem Zc4 (m : Msn) (vw vh vr vl : Value) (l : List Int) (w : World) (hw : WaysAt w.heap.size w vw m.ways) (hl : Z8 w.heap.size w vl l) :
  Calls Tryz.prog 93 #[.agg (Zc m vw vh vr),vl] w (SetsQ m l w):=by
 obtain⟨hll,al,capl,rfl,hlc⟩:=hl;obtain⟨hwl,aw,capw,rfl,hwc⟩:=hw;have H0:=Has.new w (Zc m (qS aw m.ways.length (m.ways.length+capw)) vh vr) 26;have hS0:=SetAt.made (w.alloc (qC (Zc m (qS aw m.ways.length (m.ways.length+capw)) vh vr) 26));rw [World.size_alloc] at hS0;have H1:=H0.below ((qK (w.heap.size+1) _).alloc (by simp) (.map #[] 0)) (by omega)
 have H1':=qH H1;have S1':=qH hS0;have hlH:=qH hlc;have hwH:=qH hwc;have hmm:=@run_makeMap Tryz.prog;clear hlc hwc H0 H1 hS0;unfold Zc at *;go_enter Tryz.func93,Tryz.ntmps93;go_wp2;clear hmm
 go_loopw [7,13] (fun s i wr=>∃ k:Nat,k<=l.length/\i=O qL k/\s=O qL (prevS l k)/\(∀ j,j<k->stopOk m l j)/\SetAt wr (w.heap.size+1) (l.take k)/\Has wr w.heap.size (Zc m (qS aw m.ways.length (m.ways.length+capw)) vh vr) 26/\Below w.heap.size w wr) (fun _ i _=>l.length-(intOf i).toNat)
 case atStart=>exact⟨0,by omega,rfl,rfl,fun j hj=>by omega,S1'.out,H1'.out,((qK _ _).alloc (qN _) _).alloc (by first | omega | (simp;done) | (simp;omega)) _⟩
 case round =>
  obtain⟨k,hk,rfl,rfl,hall,hS,H,hB⟩:=hrel;have hzr:=hB.size;have hlt1:=H.lt;have hall':=qH hall;have HH:=qH H;have cc:wr.cell? ⟨w.heap.size,0,none⟩=some (qS aw m.ways.length (m.ways.length+capw)):=H.cell (i:=0) rfl;have hp:=Z0H hall k (qN _);have HS:=qH hS;clear hall H hS;by_cases hlt:k<l.length
  ·obtain ⟨bl, ol, rfl, hbl, hcl⟩ : ∃ b1 o1, al = some ⟨b1, o1, none⟩ /\ b1 < w.heap.size /\ ∀ j, j < l.length -> w.cell? ⟨b1, o1 + j, none⟩ = some (O qL (l.getD j 0)) := by
    rcases hlH.out with h | h
    ·rw [h] at hlt;simp at hlt
    ·exact h
   have f1:=(hB.cell (p:=⟨bl,ol+k,none⟩) hbl).trans (hcl k hlt);have hsk:prevS l (k+1)=l.getD k 0:=by simp [prevS]
   have htk:l.take (k+1)=l.take k++[l.getD k 0]:=by
    rw [List.take_succ_eq_append_getElem hlt];simp [List.getD,List.getElem?_eq_getElem hlt]
   have hok:stopOk m l k↔prevS l k<l.getD k 0/\l.getD k 0<m.ways.length/\(wy m.ways (l.getD k 0).toNat).fix≠0:=Iff.rfl;clear hcl;obtain⟨s,hs⟩:∃ s,l.getD k 0=s:=⟨_,rfl⟩;obtain⟨p0,hp0⟩:∃ p0,prevS l k=p0:=⟨_,rfl⟩;rw [hs] at f1 hsk htk hok;rw [hp0] at hp hok ⊢;have HK:=qH (qI hsk (qI htk hs));have HO:=qH hok;clear hsk htk hs hp0 hok;by_cases h1:p0<s
   ·have d1 : decide (s <= p0) = false := by simp; omega
    by_cases h2:s<m.ways.length
    ·have d2:decide ((m.ways.length:Int)<=s)=false:=by simp;omega
     obtain⟨q,rfl⟩:∃ q:Nat,s=q:=⟨s.toNat,by omega⟩
     obtain⟨bw,ow,rfl,hbw,hcw⟩:∃ b o,aw=some ⟨b,o,none⟩/\b<w.heap.size/\∀ j,j<m.ways.length->w.cell? ⟨b,o+j*5,none⟩=some (O qL (wy m.ways j).x)/\w.cell? ⟨b,o+j*5+1,none⟩=some (O qL (wy m.ways j).y)/\w.cell? ⟨b,o+j*5+2,none⟩=some (O qL (wy m.ways j).fix)/\w.cell? ⟨b,o+j*5+3,none⟩=some (O qL (wy m.ways j).wait)/\w.cell? ⟨b,o+j*5+4,none⟩=some (O qL (wy m.ways j).back):=by
      rcases hwH.out with h | h
      ·rw [h] at h2;simp at h2;omega
      ·exact h
     have f2:=(hB.cell (p:=⟨bw,ow+q*5+2,none⟩) hbw).trans (hcw q (by omega)).2.2.1
     clear hcw;have hql:q<m.ways.length:=by omega
     have HO2:=HO.out;rw [Int.toNat_natCast] at HO2;have HOO:=qH HO2;clear HO2;by_cases h3:(wy m.ways q).fix=0
     ·have hno:Hid (stopsB m l=false):=Z0O hlt (fun h=>(HOO.out.1 h).2.2 h3)
      rw [h3] at f2;clear h3;go_wp2;go_ret2;exact .inl ⟨hno.out,rfl,hB⟩
     ·have d3:((wy m.ways q).fix == 0)=false:=by simpa using h3
      have hyes:Hid (stopOk m l k):=HOO.out.2 ⟨h1,h2,h3⟩;obtain⟨n,D,hown,hn,hmp,hat⟩:=HS.out;have HAT:=qH hat;have HMP:=qH hmp;have hn2:n<=70368744177663:=by have:=List.length_take_le k l;omega
      have HN:=qH hn;have hwf:(Lit.int .i64 (q:Int)).wf=true:=Z3x (by omega) (by omega)
      clear h3 hat hmp hn;go_wp2_with (at_mapUpdate;refine wpList_mapUpdate_own _ rfl _ _ _ 148 rfl 3 4 keyInt Tryz.underlying148 _ (w.heap.size+1) n D rfl hown (by unfold maxLen;omega) _ _ (.int .i64 (q:Int)) rfl rfl (keyOf_int_mk Tryz.underlying3 hwf) (.lit (.bool true)) [] (plainElem_bool Tryz.underlying4 true) ?_;intro w1 hown1 hgrow1)
      go_roundw
      case rel =>
       have hB1:Below w.heap.size w w1:=hB.grown hgrow1 (by omega) (fun j e=>by cases e;omega)
       have hb2:Below (w.heap.size+1) wr w1:=(qK _ wr).grown hgrow1 (by omega) (fun j e=>by cases e;omega)
       refine⟨k+1,by omega,by go_num,by rw [HK.out.1],fun j hj=>?_,?_,HH.out.below hb2 (by omega),hB1⟩
       ·by_cases e:j=k
        ·rw [e];exact hyes.out
        ·exact hall'.out j (by omega)
       ·rw [HK.out.2.1]
        exact SetAt.put hwf HN.out HMP.out HAT.out hown1
      case measure=>simp [intOf];omega
    ·have d2:decide ((m.ways.length:Int)<=s)=true:=by simp;omega
     have hno:Hid (stopsB m l=false):=Z0O hlt (fun h=>h2 (HO.out.1 h).2.1)
     go_wp2;go_ret2;exact .inl ⟨hno.out,rfl,hB⟩
   ·have d1:decide (s<=p0)=true:=by simp;omega
    have hno:Hid (stopsB m l=false):=Z0O hlt (fun h=>h1 (HO.out.1 h).1)
    go_wp2;go_ret2;exact .inl ⟨hno.out,rfl,hB⟩
  ·obtain rfl:k=l.length:=by omega
   have hyes:Hid (stopsB m l=true):=by
    show stopsB m l=true
    simp only [stopsB,decide_eq_true_eq];exact hall'.out
   have hd:decide ((l.length:Int)<(l.length:Int))=false:=by simp
   go_wp2;go_ret2;refine .inr ⟨hyes.out,_,rfl,?_,by omega,hB⟩
   have:=HS.out
   rwa [List.take_length] at this
end
section
attribute [local go_sem] Oper.semAt_some
attribute [local irreducible] wpQuiet
open Go.RowKit Go.Shelf
def waitT (m:Msn) (l:List Int) (k:Nat):Int:=if (k:Int) ∈ l then (wy m.ways k).wait else 0
def usT (m:Msn) (l:List Int):Nat->Int
 | 0=>0
 | k+1=>usT m l k+waitT m l k+tLeg m k (k+1)
def usE (m:Msn) (l:List Int):Nat->Int
 | 0=>0
 | k+1=>usE m l k+m.idle*waitT m l k+eLeg m k (k+1)
def hdT (m:Msn) (l:List Int):Nat->Int
 | 0=>0
 | k+1=>usT m l k+waitT m l k
def hdE (m:Msn) (l:List Int):Nat->Int
 | 0=>0
 | k+1=>usE m l k+m.idle*waitT m l k
theorem Z8O {m:Msn} (V:VMsn m) (l:List Int) {k:Nat} (hk:k<m.ways.length):0<=waitT m l k/\waitT m l k<=100000/\0<=m.idle*waitT m l k/\m.idle*waitT m l k<=100000000:=by
 have wb:=ZO (Z06 V.ways hk);have h:0<=waitT m l k/\waitT m l k<=100000:=by unfold waitT;split <;> omega
 have h1:=Int.mul_nonneg V.idle.1 h.1;have h2:=Int.mul_le_mul V.idle.2 h.2 h.1 (by omega)
 omega
theorem Z1K {m:Msn} (V:VMsn m) (l:List Int):∀ k,k<m.ways.length->0<=usT m l k/\usT m l k<=k*100000000/\0<=usE m l k/\usE m l k<=k*100000000000
 | 0,_=>by simp [usT,usE]
 | k + 1, h => by
  have ih:=Z1K V l k (by omega)
  have w:=Z8O V l (k:=k) (by omega)
  have t:=Z35 V.leg V.ways (i:=k) (j:=k+1) (by omega) h
  have e:=Z3C V (i:=k) (j:=k+1) (by omega) h
  simp only [usT,usE];omega
theorem hd_bd {m:Msn} (V:VMsn m) (l:List Int):∀ k,k<=m.ways.length->0<=hdT m l k/\hdT m l k<=k*100000000/\0<=hdE m l k/\hdE m l k<=k*100000000000
 | 0,_=>by simp [hdT,hdE]
 | k + 1, h => by
  have u:=Z1K V l k (by omega)
  have w:=Z8O V l (k:=k) (by omega)
  simp only [hdT,hdE];omega
theorem Z40 (m:Msn) (l:List Int):∀ k,usT m l (k+1)=hdT m l (k+1)+tLeg m k (k+1)/\usE m l (k+1)=hdE m l (k+1)+eLeg m k (k+1):=fun _=>⟨rfl,rfl⟩
theorem ZaE (m:Msn) (vw vh vr:Value) (bm:Nat) (w:World) :
  Calls Tryz.prog 94 #[.agg (Zc m vw vh vr),.map (some bm)] w fun e w'=>e=qR (.func (.func 149) #[] #[qP (some ⟨w.heap.size,0,none⟩),qP (some ⟨w.heap.size+1,0,none⟩)])/\(w.alloc (qC (Zc m vw vh vr) 26)).alloc (qC #[.map (some bm)] 148)=w':=by
 unfold Zc;go_enter Tryz.func94,Tryz.ntmps94;go_wp2;go_ret;exact⟨rfl,rfl⟩
theorem Only.move {b:Nat} {own:Nat->Prop} {A C:World} (h:Only b A C) (ho:own b) (hc:∃ o:Obj,A.heap[b]?=some o/\o.isCells=true):MoveM own A C:=MoveM.one ho hc h.os h.tape h.output h.size h.block
def encW (m:Msn) (l:List Int) (x:Nat):Array Value:=#[O qL (x:Int),.agg #[O qL (usT m l x),O qL (usE m l x)]]
theorem MsnAt.blocks {n0:Nat} {A B:World} {m:Msn} {vw vh vr:Value} (h:MsnAt n0 A m vw vh vr) (hs:A.heap.size<=B.heap.size) (hb:∀ b,b<n0->B.heap[b]?=A.heap[b]?):MsnAt n0 B m vw vh vr :=
 by
 have hB:Below n0 A { A with heap:=B.heap }:=⟨rfl,rfl,rfl,hs,hb⟩
 exact h.below hB
theorem ZaF (n : Nat) (hn : 1 <= n) (p : Nat -> Prop) (m : Msn) (vw vh vr : Value) (l : List Int) (Bm Bs bm n0 : Nat) (W : World) (lp : Nat) (hV : validB m = true)
  (hm:MsnAt n0 W m vw vh vr) (hn0:n0<=W.heap.size) (hset:SetAt W bm l) (HM:Has W Bm (Zc m vw vh vr) 26) (HS:Boxed W Bs 148 (.map (some bm)))
  (p0:p W.heap.size) (p2:p Bs) (p3:p bm) (p4:∀ b,b<n0->p b) (J Jx:List Nat->World->Prop)
  (hJ:∀ s A B,J s A->MoveM (fun r=>r=W.heap.size) A B->J s B)
  (hY:∀ (pre:List Nat) (x:Nat) W1,J pre W1->pre.length<m.ways.length->W.heap.size+1<=W1.heap.size->YieldAt Fence.wide (n-1) Tryz.prog lp (encW m l x) W1 fun e W' =>
   (e=qR (.bool true)/\J (pre++[x]) W'/\KeepsP p W1 W')\/(e=qR (.bool false)/\Jx (pre++[x]) W')) (h0:J [] W) :
  CallsIn Fence.wide n Tryz.prog 149 #[.func (.yield lp) #[] #[],qP (some ⟨Bm,0,none⟩),qP (some ⟨Bs,0,none⟩)] W fun e W'=>(∃ v,e=qR v) /\
   ((∃ ys,ys=upto id m.ways.length/\J ys W')\/(∃ pre,(∃ j,j<=m.ways.length/\pre=upto id j)/\Jx pre W')):=by
 have V:=(Zj m).1 hV;have n41:=V.n41;have HM0:=qH hm;obtain⟨⟨_,a1,cap1,rfl,_⟩,⟨_,a2,cap2,rfl,_⟩,⟨_,a3,cap3,rfl,_⟩⟩:=hm;obtain⟨c0,c1,c2,c3,c4,c5,c6,c7,c8,c9,c10⟩:=Zg HM;have HV:=qH (qI hV V);have HMB:=qH HM;have HSB:=qH HS;have HSET:=qH hset;have HJ0:=qH (hJ _ _ _ h0 (MoveM.alloc _ W (qC (spentCells m (qS a1 m.ways.length (m.ways.length+cap1)) (qS a2 m.home.length (m.home.length+cap2)) (qS a3 m.rocks.length (m.rocks.length+cap3)) 0 0) 119)));have HSP:=qH (Has.new W (spentCells m (qS a1 m.ways.length (m.ways.length+cap1)) (qS a2 m.home.length (m.home.length+cap2)) (qS a3 m.rocks.length (m.rocks.length+cap3)) 0 0) 119);have hmlt:=HM.lt;have hslt:=HS.lt;have hblt:=hset.lt;clear hV V HM HS hset h0;refine callsIn_of_wp Tryz.func149 rfl trivial ?_ rfl;simp only [Tryz.ntmps149,List.size_toArray,List.length_cons,List.length_nil,Nat.reduceAdd,Nat.reduceSub,Array.replicate_succ,Array.replicate_zero,List.push_toArray,List.append_toArray,List.nil_append,List.cons_append];gi_wp2;have HW0:=qH (show ∀ b,p b->b≠W.heap.size->b<W.heap.size->(W.alloc (qC (spentCells m (qS a1 m.ways.length (m.ways.length+cap1)) (qS a2 m.home.length (m.home.length+cap2)) (qS a3 m.rocks.length (m.rocks.length+cap3)) 0 0) 119)).heap[b]?=W.heap[b]? from fun b _ _ hb=>Below.heap_alloc _ _ _ hb)
 gi_loopw [11] (fun i wr=>∃ k:Nat,k<=m.ways.length/\i=O qL k/\J (upto id k) wr/\wr.heap[W.heap.size]?=some (qC (spentCells m (qS a1 m.ways.length (m.ways.length+cap1)) (qS a2 m.home.length (m.home.length+cap2)) (qS a3 m.rocks.length (m.rocks.length+cap3)) (hdT m l k) (hdE m l k)) 119 (0,0))/\(∀ b,p b->b≠W.heap.size->b<W.heap.size->wr.heap[b]?=W.heap[b]?)/\W.heap.size+1<=wr.heap.size)
  (fun i _=>m.ways.length-(intOf i).toNat)
 case atStart=>exact⟨0,Nat.zero_le _,rfl,HJ0.out,HSP.out,HW0.out,by simp⟩
 case round =>
  obtain⟨k,hk,rfl,hJs,hsp,hkp,hsz⟩:=hrel;obtain⟨hV,V⟩:=HV.out;have hb:=hd_bd V l k hk;have HKP:=qH hkp;have HMr:=HM0.out.blocks (B:=wr) (by omega) (fun b hb=>hkp b (p4 b hb) (by omega) (by omega))
  by_cases hlt:k<m.ways.length
  ·have hub:=Z1K V l k hlt
   have d1:decide ((k:Int)<(m.ways.length:Int))=true:=by simp;omega
   have HMH:=qH (HMr.mono (by omega:n0<=wr.heap.size))
   clear hkp HMr;cases k with
   | zero =>
    have c0:wr.cell? ⟨W.heap.size,0,none⟩=some (O qL (hdT m l 0)):=Zl hsp (i:=0) rfl;have c1:wr.cell? ⟨W.heap.size,1,none⟩=some (O qL (hdE m l 0)):=Zl hsp (i:=1) rfl;have HP2:=qH (qI hsp (Only.of_below (b:=W.heap.size) (qK _ wr)));obtain⟨fn,tmps,assign,body,hy,hR⟩:=hY _ 0 _ hJs (by rw [Zq];omega) hsz
    unfold encW at hy;have hz2:=hsz;clear hsp hJs V hV hb;simp only [usT,usE,hdT,hdE] at hy c0 c1 HP2;simp only [Int.natCast_zero] at *;gi_wp2;refine hR.mono ?_;rintro e W3 (⟨rfl,hJ3,hk3⟩ | ⟨rfl,hJx3⟩)
    ·have hsp3:=(hk3.2 _ p0).trans HP2.out.1
     have hz3:W.heap.size+1<=W3.heap.size:=Nat.le_trans hz2 hk3.1;have hkp3:∀ b,p b->b≠W.heap.size->b<W.heap.size->W3.heap[b]?=W.heap[b]?:=fun b h1 h2 h3=>(hk3.2 b h1).trans (((HP2.out.2.block b (by omega) h2)).trans (HKP.out b h1 h2 h3))
     have hbs:Boxed W3 Bs 148 (.map (some bm)):=(hkp3 Bs p2 (by omega) hslt).trans HSB.out
     have hst:SetAt W3 bm l:=HSET.out.block (hkp3 bm p3 (by omega) hblt)
     have hlook:(Instr.lookup 148 (.map (some bm)) (O qL 0) false).run Tryz.prog W3=.ok (.bool (decide (((0:Nat):Int) ∈ l))) W3:=hst.look (k:=(0:Nat)) (Z3x (by omega) (by omega))
     have hM3:=HM0.out.blocks (B:=W3) (by omega) (fun b hb=>hkp3 b (p4 b hb) (by omega) (by omega))
     have cbs:=hbs.cell;have HKP3:=qH hkp3;have HSP3:=qH hsp3;have HJ3:=qH hJ3;have HM3:=qH (hM3.mono (by omega:n0<=W3.heap.size))
     clear hkp3 hbs hst hM3 hJ3 hk3 hy hR hsp3;by_cases hin:((0:Nat):Int) ∈ l
     ·have dl:decide (((0:Nat):Int) ∈ l)=true:=by simpa using hin
      rw [dl] at hlook;have hwt:Hid (hdT m l (0+1)=usT m l 0+(wy m.ways 0).wait/\hdE m l (0+1)=usE m l 0+m.idle*(wy m.ways 0).wait):=by
       show hdT m l (0+1)=_/\_
       simp only [hdT,hdE,waitT,hin,if_true];exact⟨trivial,trivial⟩
      have hwa:=qH (Z74 W.heap.size m (qS a1 m.ways.length (m.ways.length+cap1)) (qS a2 m.home.length (m.home.length+cap2)) (qS a3 m.rocks.length (m.rocks.length+cap3)) (usT m l 0) (usE m l 0) 0 W3 HSP3.out HM3.out HV.out.1 (by omega) hub.1 (by omega) hub.2.2.1 (by omega))
      clear hin dl
      gi_wp2_with ((try refine⟨trivial,?_⟩);gi_at_call 150;refine (callsIn_wide.2 hwa.out).mono ?_;rintro r W4 ⟨⟨v,rfl⟩,hsp4,hO4⟩)
      have HP4:=qH (qI hsp4 hO4);clear hsp4 hO4;gi_wp2;go_roundw
      case rel =>
       refine⟨0+1,by omega,by go_num,?_,by rw [hwt.out.1,hwt.out.2];exact HP4.out.1,fun b h1 h2 h3=>(HP4.out.2.block b (by omega) h2).trans (HKP3.out b h1 h2 h3),Nat.le_trans hz3 HP4.out.2.size⟩
       rw [ZA];exact hJ _ _ _ HJ3.out (HP4.out.2.move rfl ⟨_,HSP3.out,rfl⟩)
      case measure=>simp [intOf];omega
     ·have dl:decide (((0:Nat):Int) ∈ l)=false:=by simpa using hin
      rw [dl] at hlook;have hwt:Hid (hdT m l (0+1)=usT m l 0/\hdE m l (0+1)=usE m l 0):=by
       show hdT m l (0+1)=_/\_
       simp only [hdT,hdE,waitT,hin,if_false,Int.mul_zero,Int.add_zero];exact⟨trivial,trivial⟩
      clear hin dl;gi_wp2;go_roundw
      case rel =>
       refine⟨0+1,by omega,by go_num,?_,by rw [hwt.out.1,hwt.out.2];exact HSP3.out,HKP3.out,hz3⟩
       rw [ZA];exact HJ3.out
      case measure=>simp [intOf];omega
    ·gi_wp2
     exact bodyPost_ret (v:=qT #[]) (by simp [results,Tryz.f149]) rfl ⟨⟨_,rfl⟩,.inr ⟨_,⟨0+1,by omega,(ZA _ _).symm⟩,hJx3⟩⟩
   | succ j =>
    have hg:=qH (Z9T W.heap.size m (qS a1 m.ways.length (m.ways.length+cap1)) (qS a2 m.home.length (m.home.length+cap2)) (qS a3 m.rocks.length (m.rocks.length+cap3)) (hdT m l (j+1)) (hdE m l (j+1)) j (j+1) wr hsp HMH.out hV (by omega) hlt hb.1 (by omega) hb.2.2.1 (by omega))
    have HSPr:=qH hsp;have HJs:=qH hJs;have d2:decide ((j:Int)+1>0)=true:=by rw [decide_eq_true_eq];omega
    clear hsp hJs V hV hb
    gi_wp2_with ((try refine⟨trivial,?_⟩);gi_at_call 62;refine (callsIn_wide.2 hg.out).mono ?_;rintro r W2 ⟨⟨v,rfl⟩,hsp2,hO2⟩;have c0:W2.cell? ⟨W.heap.size,0,none⟩=some (O qL (hdT m l (j+1)+tLeg m j (j+1))):=Zl hsp2 (i:=0) rfl;have c1:W2.cell? ⟨W.heap.size,1,none⟩=some (O qL (hdE m l (j+1)+eLeg m j (j+1))):=Zl hsp2 (i:=1) rfl;have HP2:=qH (qI hsp2 hO2);have hz2:W.heap.size+1<=W2.heap.size:=Nat.le_trans hsz hO2.size;obtain⟨fn,tmps,assign,body,hy,hR⟩:=hY _ (j+1) _ (hJ _ _ _ HJs.out (hO2.move rfl ⟨_,HSPr.out,rfl⟩)) (by rw [Zq];omega) hz2;unfold encW at hy;rw [show (((j+1:Nat)):Int)=(j:Int)+1 by omega,(Z40 m l j).1,(Z40 m l j).2] at hy;clear hsp2 hO2)
    gi_wp2;refine hR.mono ?_;rintro e W3 (⟨rfl,hJ3,hk3⟩ | ⟨rfl,hJx3⟩)
    ·have hsp3:=(hk3.2 _ p0).trans HP2.out.1
     have hz3:W.heap.size+1<=W3.heap.size:=Nat.le_trans hz2 hk3.1;have hkp3:∀ b,p b->b≠W.heap.size->b<W.heap.size->W3.heap[b]?=W.heap[b]?:=fun b h1 h2 h3=>(hk3.2 b h1).trans (((HP2.out.2.block b (by omega) h2)).trans (HKP.out b h1 h2 h3))
     have hbs:Boxed W3 Bs 148 (.map (some bm)):=(hkp3 Bs p2 (by omega) hslt).trans HSB.out
     have hst:SetAt W3 bm l:=HSET.out.block (hkp3 bm p3 (by omega) hblt)
     have hlook:(Instr.lookup 148 (.map (some bm)) (O qL ((j:Int)+1)) false).run Tryz.prog W3=.ok (.bool (decide (((j+1:Nat):Int) ∈ l))) W3:=hst.look (k:=((j+1):Nat)) (Z3x (by omega) (by omega))
     have hM3:=HM0.out.blocks (B:=W3) (by omega) (fun b hb=>hkp3 b (p4 b hb) (by omega) (by omega))
     have cbs:=hbs.cell;have HKP3:=qH hkp3;have HSP3:=qH hsp3;have HJ3:=qH hJ3;have HM3:=qH (hM3.mono (by omega:n0<=W3.heap.size))
     clear hkp3 hbs hst hM3 hJ3 hk3 hy hR hsp3;by_cases hin:(((j+1):Nat):Int) ∈ l
     ·have dl:decide ((((j+1):Nat):Int) ∈ l)=true:=by simpa using hin
      rw [dl] at hlook;have hwt:Hid (hdT m l ((j+1)+1)=usT m l (j+1)+(wy m.ways (j+1)).wait/\hdE m l ((j+1)+1)=usE m l (j+1)+m.idle*(wy m.ways (j+1)).wait):=by
       show hdT m l ((j+1)+1)=_/\_
       simp only [hdT,hdE,waitT,hin,if_true];exact⟨trivial,trivial⟩
      have hwa:=qH (Z74 W.heap.size m (qS a1 m.ways.length (m.ways.length+cap1)) (qS a2 m.home.length (m.home.length+cap2)) (qS a3 m.rocks.length (m.rocks.length+cap3)) (usT m l (j+1)) (usE m l (j+1)) (j+1) W3 HSP3.out HM3.out HV.out.1 (by omega) hub.1 (by omega) hub.2.2.1 (by omega))
      clear hin dl
      gi_wp2_with ((try refine⟨trivial,?_⟩);gi_at_call 150;refine (callsIn_wide.2 hwa.out).mono ?_;rintro r W4 ⟨⟨v,rfl⟩,hsp4,hO4⟩)
      have HP4:=qH (qI hsp4 hO4);clear hsp4 hO4;gi_wp2;go_roundw
      case rel =>
       refine⟨(j+1)+1,by omega,by go_num,?_,by rw [hwt.out.1,hwt.out.2];exact HP4.out.1,fun b h1 h2 h3=>(HP4.out.2.block b (by omega) h2).trans (HKP3.out b h1 h2 h3),Nat.le_trans hz3 HP4.out.2.size⟩
       rw [ZA];exact hJ _ _ _ HJ3.out (HP4.out.2.move rfl ⟨_,HSP3.out,rfl⟩)
      case measure=>simp [intOf];omega
     ·have dl:decide ((((j+1):Nat):Int) ∈ l)=false:=by simpa using hin
      rw [dl] at hlook;have hwt:Hid (hdT m l ((j+1)+1)=usT m l (j+1)/\hdE m l ((j+1)+1)=usE m l (j+1)):=by
       show hdT m l ((j+1)+1)=_/\_
       simp only [hdT,hdE,waitT,hin,if_false,Int.mul_zero,Int.add_zero];exact⟨trivial,trivial⟩
      clear hin dl;gi_wp2;go_roundw
      case rel =>
       refine⟨(j+1)+1,by omega,by go_num,?_,by rw [hwt.out.1,hwt.out.2];exact HSP3.out,HKP3.out,hz3⟩
       rw [ZA];exact HJ3.out
      case measure=>simp [intOf];omega
    ·gi_wp2
     exact bodyPost_ret (v:=qT #[]) (by simp [results,Tryz.f149]) rfl ⟨⟨_,rfl⟩,.inr ⟨_,⟨(j+1)+1,by omega,(ZA _ _).symm⟩,hJx3⟩⟩
  ·obtain rfl:k=m.ways.length:=by omega
   have d1:decide ((m.ways.length:Int)<(m.ways.length:Int))=false:=by simp
   gi_wp2;go_end0;exact⟨⟨_,rfl⟩,.inl ⟨_,rfl,hJs⟩⟩
theorem ZaD (n:Nat) (hn:1<=n) (p:Nat->Nat->Prop) (m:Msn) (vw vh vr:Value) (l:List Int) (Bm Bs bm n0:Nat) (w:World) (hV:validB m=true)
  (hm:MsnAt n0 w m vw vh vr) (hn0:n0<=w.heap.size) (hset:SetAt w bm l) (HM:Has w Bm (Zc m vw vh vr) 26) (HS:Boxed w Bs 148 (.map (some bm)))
  (p0:∀ B,p B B) (p2:∀ B,p B Bs) (p3:∀ B,p B bm) (p4:∀ B b,b<n0->p B b) :
  SeqM n Tryz.prog 149 #[qP (some ⟨Bm,0,none⟩),qP (some ⟨Bs,0,none⟩)] (encW m l) (fun B=>KeepsP (p B)) (fun B r=>r=B) 1 m.ways.length
   (fun ys=>ys=upto id m.ways.length) (fun pre=>∃ j,j<=m.ways.length/\pre=upto id j) w:=fun lp J Jx W hW hJ _ hY h0 =>
 ZaF n hn (p W.heap.size) m vw vh vr l Bm Bs bm n0 W lp hV (hm.below (hW.mono hn0)) (Nat.le_trans hn0 hW.size) (hset.block (hW.block bm hset.lt)) (HM.below hW HM.lt) ((hW.block Bs HS.lt).trans HS)
  (p0 _) (p2 _) (p3 _) (p4 _) J Jx hJ hY h0
def UsedQ (l1 l2:List Int) (er:Int) (w:World) (e:Ending) (w':World):Prop :=
 ∃ v1 v2,e=qR (qT #[v1,v2,O qL er])/\Z8 w'.heap.size w' v1 l1/\Z8 w'.heap.size w' v2 l2/\Below w.heap.size w w'
def UsedN (l1 l2:List Int) (er:Int) (w:World) (e:Ending) (w':World):Prop :=
 ∃ v1 v2,e=qR (qT #[v1,v2,O qL er])/\Z8 w'.heap.size w' v1 l1/\Z8 w'.heap.size w' v2 l2/\Below w.heap.size w w'/\NewI w.heap.size v1/\NewI w.heap.size v2
theorem UsedN.used {l1 l2:List Int} {er:Int} {w:World} {e:Ending} {w':World} (h:UsedN l1 l2 er w e w'):UsedQ l1 l2 er w e w':=by
 obtain⟨v1,v2,a,b,c,d,_,_⟩:=h;exact⟨v1,v2,a,b,c,d⟩
theorem three (w:World) (cs:Array Value) (T:TypeId) :
  Has (((w.alloc (qC cs T)).alloc (qC #[qS none 0 0] 29)).alloc (qC #[qS none 0 0] 29)) w.heap.size cs T /\
  Boxed (((w.alloc (qC cs T)).alloc (qC #[qS none 0 0] 29)).alloc (qC #[qS none 0 0] 29)) (w.heap.size+1) 29 (qS none 0 0) /\
  Boxed (((w.alloc (qC cs T)).alloc (qC #[qS none 0 0] 29)).alloc (qC #[qS none 0 0] 29)) (w.heap.size+1+1) 29 (qS none 0 0) /\
  Below w.heap.size w (((w.alloc (qC cs T)).alloc (qC #[qS none 0 0] 29)).alloc (qC #[qS none 0 0] 29)) /\
  (((w.alloc (qC cs T)).alloc (qC #[qS none 0 0] 29)).alloc (qC #[qS none 0 0] 29)).heap.size=w.heap.size+3:=by
 have s1:(w.alloc (qC cs T)).heap.size=w.heap.size+1:=by simp
 have s2:((w.alloc (qC cs T)).alloc (qC #[qS none 0 0] 29)).heap.size=w.heap.size+1+1:=by simp
 have h1:=Boxed.new (w.alloc (qC cs T)) 29 (qS none 0 0);have h2:=Boxed.new ((w.alloc (qC cs T)).alloc (qC #[qS none 0 0] 29)) 29 (qS none 0 0);rw [s1] at h1;rw [s2] at h2;exact⟨((Has.new w cs T).below ((qK (w.heap.size+1) _).alloc (by simp) _) (by omega)).below ((qK (w.heap.size+1) _).alloc (by simp) _) (by omega),h1.alloc _,h2,
  (((qK _ _).alloc (qN _) _).alloc (by first | omega | (simp;done) | (simp;omega)) _).alloc (by first | omega | (simp;done) | (simp;omega)) _,by simp⟩
theorem ZI {W:World} {B:Nat} {t:TypeId} {x:Value} (h:Boxed W B t x):∀ j u,[x][j]?=some u->W.cell? ((⟨B,0,none⟩:Addr).add j)=some u:=by
 intro j u hj
 match j,hj with
 | 0, hj =>
  simp at hj;subst hj;exact h.cell
 | j+1,hj=>simp at hj
def tL (m:Msn) (l:List Int) (k:Nat):Value:=O qL (usT m l k)
def eL (m:Msn) (l:List Int) (k:Nat):Value:=O qL (usE m l k)
noncomputable def usedT (m:Msn) (l:List Int):List Int:=upto (usT m l) m.ways.length
noncomputable def usedE (m:Msn) (l:List Int):List Int:=upto (usE m l) m.ways.length
set_option linter.unusedSimpArgs false in
theorem Z75 (m : Msn) (vw vh vr vl : Value) (l : List Int) (w : World) (hm : MsnAt w.heap.size w m vw vh vr) (hl : Z8 w.heap.size w vl l) (hV : validB m = true) (hst : stopsB m l = true) :
  Calls Tryz.prog 41 #[.agg (Zc m vw vh vr),vl] w (UsedN (usedT m l) (usedE m l) 0 w):=by
 obtain⟨t1,t2,t3,tb,tz⟩:=three w (Zc m vw vh vr) 26;have hv:=Z0L m vw vh vr _ ((hm.below tb).mono (by omega))
 rw [hV] at hv;have hv:=qH hv;have HT:=qH (qI t1 (qI t2 (qI t3 tb)));have HM:=qH hm;have HL:=qH hl;have HV:=qH (qI hV hst);have hse:=qH (fun w1 h1 h2=>Zc4 m vw vh vr vl l w1 h1 h2)
 have hwy:=qH (fun b w1=>ZaE m vw vh vr b w1)
 obtain⟨⟨_,a1,cap1,rfl,_⟩,⟨_,a2,cap2,rfl,_⟩,⟨_,a3,cap3,rfl,_⟩⟩:=hm;obtain⟨_,al,capl,rfl,_⟩:=hl;have n41:=((Zj m).1 hV).n41;clear t1 t2 t3 tb tz hV hst;unfold Zc at *;refine (callsIn_wide (n:=9)).1 ?_;refine callsIn_of_wp_marks Tryz.func41 rfl trivial ?_ rfl;simp only [Tryz.ntmps41,List.size_toArray,List.length_cons,List.length_nil,Nat.reduceAdd,Nat.reduceSub,Array.replicate_succ,Array.replicate_zero,List.push_toArray,List.append_toArray,List.nil_append,List.cons_append];refine wpIn_wide.2 ?_;go_wp2_with fail;refine hv.out.mono ?_;rintro e w1 ⟨rfl,hb1⟩;obtain⟨t1,t2,t3,tb⟩:=HT.out;have H1:=t1.below (hb1.mono (by simp):Below (w.heap.size+3) _ w1) (by omega)
 have k1:=Boxed.below t2 (hb1.mono (by simp):Below (w.heap.size+3) _ w1) (by omega)
 have k2:=Boxed.below t3 (hb1.mono (by simp):Below (w.heap.size+3) _ w1) (by omega)
 have B1:=tb.trans (hb1.mono (by simp;omega))
 have z1:w.heap.size+3<=w1.heap.size:=by have:=hb1.size;simp at this;omega
 obtain⟨c0,c1,c2,c3,c4,c5,c6,c7,c8,c9,c10⟩:=Zg (m:=m) (vw:=qS a1 m.ways.length (m.ways.length+cap1)) (vh:=qS a2 m.home.length (m.home.length+cap2)) (vr:=qS a3 m.rocks.length (m.rocks.length+cap3)) H1;have HK:=qH (qI k1 (qI k2 (qI B1 H1)));clear hb1 k1 k2 t1 t2 t3 tb B1 H1;go_wp2_with fail;refine (hse.out _ ((HM.out.1.below HK.out.2.2.1).mono HK.out.2.2.1.size) ((HL.out.below HK.out.2.2.1).mono HK.out.2.2.1.size)).mono ?_;rintro e w2 (⟨h0,_⟩ | ⟨_,bm,rfl,hS,hsz,hb2⟩)
 ·exact absurd h0 (by rw [HV.out.2];simp)
 obtain⟨k1,k2,B1,H1⟩:=HK.out;have k1:=Boxed.below k1 hb2 (by omega)
 have k2:=Boxed.below k2 hb2 (by omega)
 have H2:=H1.below hb2 H1.lt;have B2:=B1.trans (hb2.mono B1.size);have z2:w.heap.size+3<=w2.heap.size:=Nat.le_trans z1 hb2.size;clear c0 c1 c2 c3 c4 c5 c6 c7 c8 c9 c10 HK;obtain⟨c0,c1,c2,c3,c4,c5,c6,c7,c8,c9,c10⟩:=Zg (m:=m) (vw:=qS a1 m.ways.length (m.ways.length+cap1)) (vh:=qS a2 m.home.length (m.home.length+cap2)) (vr:=qS a3 m.rocks.length (m.rocks.length+cap3)) H2;have HK:=qH (qI k1 (qI k2 (qI B2 hS)));clear hb2 k1 k2 B1 B2 H1 H2 hS hsz;go_wp2_with (go_at_call 94;refine (hwy.out _ _).mono ?_;rintro e w3 ⟨rfl,rfl⟩);generalize hW0:World.alloc (World.alloc w2 _) _=W0;have hz0:W0.heap.size=w2.heap.size+2:=by rw [<- hW0];simp
 have hB0:Below w2.heap.size w2 W0:=by rw [<- hW0];exact ((qK _ w2).alloc (qN _) _).alloc (by first | omega | (simp;done) | (simp;omega)) _
 obtain⟨k1,k2,B2,hS⟩:=HK.out;have bT:=Boxed.below k1 hB0 (by omega)
 have bE:=Boxed.below k2 hB0 (by omega)
 have hBw:Below w.heap.size w W0:=B2.trans (hB0.mono (by omega))
 have bM:Has W0 w2.heap.size #[qS a1 m.ways.length (m.ways.length+cap1),qS a2 m.home.length (m.home.length+cap2),O qL m.start,qS a3 m.rocks.length (m.rocks.length+cap3),O qL m.speed,O qL m.part,O qL m.flow,O qL m.idle,O qL m.drive,O qL m.battery,O qL m.deadline] 26:=by
  rw [<- hW0];exact (Has.new w2 _ _).below ((qK (w2.heap.size+1) _).alloc (by simp) _) (by omega)
 have bS:Boxed W0 (w2.heap.size+1) 148 (.map (some bm)):=by
  rw [<- hW0];have:=Boxed.new (w2.alloc (qC #[qS a1 m.ways.length (m.ways.length+cap1),qS a2 m.home.length (m.home.length+cap2),O qL m.start,qS a3 m.rocks.length (m.rocks.length+cap3),O qL m.speed,O qL m.part,O qL m.flow,O qL m.idle,O qL m.drive,O qL m.battery,O qL m.deadline] 26)) 148 (.map (some bm))
  rwa [World.size_alloc] at this
 have hset:SetAt W0 bm l:=hS.block (hB0.block bm hS.lt);have hlt:=hset.lt;have hmW:MsnAt w.heap.size W0 m _ _ _:=HM.out.below hBw;have hbm:bm<w2.heap.size:=hS.lt;have hsb:bm≠w.heap.size+1/\bm≠w.heap.size+1+1:=by
  obtain⟨_,_,⟨es,clock,h0,_⟩,_⟩:=hS;exact⟨fun e=>(by rw [e,show w2.heap[w.heap.size+1]?=_ from k1] at h0;cases h0),fun e=>(by rw [e,show w2.heap[w.heap.size+1+1]?=_ from k2] at h0;cases h0)⟩
 clear hW0 c0 c1 c2 c3 c4 c5 c6 c7 c8 c9 c10 k1 k2 B2 hS HK;refine (wpIn_wide (n:=9)).1 ?_;refine Z2h (by omega) (gf:=149) (lb:=#[qP (some ⟨w2.heap.size,0,none⟩),qP (some ⟨w2.heap.size+1,0,none⟩)]) rfl (enters_of Tryz.func149 (by kernel_rfl) rfl)
  (ZaD 8 (by omega) (fun B b=>(b<w2.heap.size+2/\b≠w.heap.size+1/\b≠w.heap.size+1+1)\/b=B) m _ _ _ l w2.heap.size (w2.heap.size+1) bm w.heap.size W0 HV.out.1 hmW hBw.size hset bM bS (fun _=>.inr rfl) (fun _=>.inl ⟨by omega,by omega,by omega⟩) (fun _=>.inl ⟨by omega,hsb.1,hsb.2⟩) (fun _ b hb=>.inl ⟨by omega,by omega,by omega⟩))
  (fun h k=>KeepsP.trans h k) ?hKb (qK _ _) (fun _=>rfl)
  (fun pre W=>(∃ v1 v2,Boxed W (w.heap.size+1) 29 v1/\Boxed W (w.heap.size+1+1) 29 v2/\W.ownsRow (w2.heap.size+5) 3 1 v1 pre.length (pre.map (tL m l))/\W.ownsRow (w2.heap.size+5) 3 1 v2 pre.length (pre.map (eL m l))/\(v1.ownBlock=none\/v1.ownBlock≠v2.ownBlock))/\Below w.heap.size w W)
  (fun _ _ _=>False) ?hI (fun _=>OwnM.pure (fun _=>False)) ⟨⟨_,_,bT,bE,World.ownsRow_nil _ _ _ _,World.ownsRow_nil _ _ _ _,.inl rfl⟩,hBw⟩
  (fun x a' W=>∃ Bc,a'={ tmps:=#[.agg #[qS a1 m.ways.length (m.ways.length+cap1),qS a2 m.home.length (m.home.length+cap2),O qL m.start,qS a3 m.rocks.length (m.rocks.length+cap3),O qL m.speed,O qL m.part,O qL m.flow,O qL m.idle,O qL m.drive,O qL m.battery,O qL m.deadline],qS al l.length (l.length+capl),qP (some ⟨w.heap.size,0,none⟩),undef,qP (some ⟨w.heap.size+1,0,none⟩),qP (some ⟨w.heap.size+1+1,0,none⟩),O qL 0,.map (some bm),.bool true,undef,qP (some ⟨Bc,0,none⟩),.agg #[qS a1 m.ways.length (m.ways.length+cap1),qS a2 m.home.length (m.home.length+cap2),O qL m.start,qS a3 m.rocks.length (m.rocks.length+cap3),O qL m.speed,O qL m.part,O qL m.flow,O qL m.idle,O qL m.drive,O qL m.battery,O qL m.deadline],.bool true,.bool false,qT #[.map (some bm),.bool true],.agg #[qS a1 m.ways.length (m.ways.length+cap1),qS a2 m.home.length (m.home.length+cap2),O qL m.start,qS a3 m.rocks.length (m.rocks.length+cap3),O qL m.speed,O qL m.part,O qL m.flow,O qL m.idle,O qL m.drive,O qL m.battery,O qL m.deadline],qS al l.length (l.length+capl),qT #[.map (some bm),.bool true],.map (some bm),.bool true,.bool true,.bool false,.agg #[qS a1 m.ways.length (m.ways.length+cap1),qS a2 m.home.length (m.home.length+cap2),O qL m.start,qS a3 m.rocks.length (m.rocks.length+cap3),O qL m.speed,O qL m.part,O qL m.flow,O qL m.idle,O qL m.drive,O qL m.battery,O qL m.deadline],.map (some bm),.func (.func 149) #[] #[qP (some ⟨w2.heap.size,0,none⟩),qP (some ⟨w2.heap.size+1,0,none⟩)],O qL (x:Int),.agg #[O qL (usT m l x),O qL (usE m l x)],undef,undef,undef,undef,undef,undef,undef,undef,undef,undef,undef,undef],defers:=[] }/\W.heap[Bc]?=some (qC #[tL m l x,eL m l x] 117 (0,0))/\w2.heap.size+5<=Bc)
  ?hAx ?assign ?body ?done ?stop
 case hKb=>exact fun W o o' _ _=>⟨by simp,fun b hb=>World.putObj_heap_other (by rcases hb with⟨h,_⟩ | h <;> omega)⟩
 case hI =>
  refine OwnM.and ?_ (OwnM.below w (qN _) (by omega) (fun r hr=>by omega))
  rintro s X Y row ⟨v1,v2,h1,h2,r1,r2,hne⟩ hg hrow;have off:∀ {b:Nat} {t:TypeId} {v:Value},Boxed X b t v->b<W0.heap.size->some b≠row:=fun {b t v} hb hlt e'=>by
   obtain⟨o,ho,hc⟩:=hrow _ e'.symm;rcases hc with⟨_,hc⟩ | ⟨hc,_⟩
   ·omega
   ·rw [show X.heap[b]?=_ from hb] at ho;cases ho;cases hc
  have offr:∀ {v:Value} {n:Nat} {xs:List Value},X.ownsRow (w2.heap.size+5) 3 1 v n xs->v.ownBlock=none\/v.ownBlock≠row:=fun {v n xs} hr=>by
   rcases hr.2 with⟨rfl,_⟩ | ⟨g,cap,cur,rfl,hbg,hgb,_⟩
   ·exact .inl rfl
   ·refine .inr fun e'=>?_
    obtain⟨o,ho,hc⟩:=hrow g (by simpa [Value.ownBlock] using e'.symm)
    rcases hc with⟨_,hc⟩ | ⟨hc,_⟩
    ·omega
    ·rw [hgb] at ho;cases ho;cases hc
  exact⟨v1,v2,h1.kept hg (off h1 (by omega)),h2.kept hg (off h2 (by omega)),r1.kept hg (offr r1),r2.kept hg (offr r2),hne⟩
 case hAx =>
  rintro x a' s X Y row ⟨Bc,rfl,hc,hBc⟩ hg hrow;refine⟨Bc,rfl,(hg.block Bc (Array.getElem?_eq_some_iff.1 hc).1 fun e'=>?_).trans hc,hBc⟩
  obtain⟨o,ho,h⟩:=hrow _ e'.symm;rcases h with⟨_,h⟩ | ⟨h,_⟩
  ·omega
  ·rw [hc] at ho;cases ho;cases h
 case assign =>
  rintro ll pre x W K hi hsz hK;have hc0:=Has.new W #[tL m l x,eL m l x] 117;obtain⟨⟨v1,v2,h1,h2,r1,r2,hne⟩,hB⟩:=hi;have hI:=qH (qI (⟨v1,v2,h1.alloc (qC #[tL m l x,eL m l x] 117),h2.alloc _,r1.alloc _,r2.alloc _,hne⟩:∃ v1 v2,Boxed (W.alloc (qC #[tL m l x,eL m l x] 117)) (w.heap.size+1) 29 v1/\Boxed (W.alloc (qC #[tL m l x,eL m l x] 117)) (w.heap.size+1+1) 29 v2/\(W.alloc (qC #[tL m l x,eL m l x] 117)).ownsRow (w2.heap.size+5) 3 1 v1 pre.length (pre.map (tL m l))/\(W.alloc (qC #[tL m l x,eL m l x] 117)).ownsRow (w2.heap.size+5) 3 1 v2 pre.length (pre.map (eL m l))/\(v1.ownBlock=none\/v1.ownBlock≠v2.ownBlock)) (hB.trans (((qK w.heap.size W).alloc hB.size (qC #[tL m l x,eL m l x] 117)))));have HC:=qH hc0;clear h1 h2 r1 r2 hne hB hc0;unfold encW;gi_wp2;exact hK _ _ ((KeepsOthers.alloc W _).from _) ⟨by simp,fun b hb=>Below.heap_alloc _ _ _ (by rcases hb with⟨h,_⟩ | h <;> omega)⟩ hI.out ⟨_,rfl,HC.out,by omega⟩
 case body =>
  rintro ll pre x a' W hll ⟨r,hr⟩ ⟨⟨v1,v2,h1,h2,r1,r2,hne⟩,hB⟩ ⟨Bc,rfl,hc,hBc⟩ hlt hsz;have hn:pre.length<=100:=by omega
  have hTW:=(Two.refl r1 r2 hne).grow (X':=W.drew) ⟨rfl,rfl,rfl,qN _,fun _ _ _=>rfl⟩
  have hclt:=(Array.getElem?_eq_some_iff.1 hc).1;have hcr:∀ {v:Value} {n:Nat} {xs:List Value},W.ownsRow (w2.heap.size+5) 3 1 v n xs->some Bc≠v.ownBlock:=fun {v n xs} hr e'=>by
   rcases hr.2 with⟨rfl,_⟩ | ⟨g,cap,cur,rfl,_,hg,_⟩
   ·simp [Value.ownBlock] at e'
   ·obtain rfl:Bc=g:=by simpa [Value.ownBlock] using e'
    rw [hc] at hg;cases hg
  have hc1:=hcr r1;have hc2:=hcr r2;simp only [tL,eL] at hc;have SS:Hid (∀ (X:World) (u1 u2:Value) (n1 n2:Nat) (l1 l2:List Value),Two (w2.heap.size+5) 3 W X v1 v2 u1 u2 n1 n2 l1 l2->Boxed X (w.heap.size+1) 29 v1/\Boxed X (w.heap.size+1+1) 29 v2/\X.heap[Bc]?=some (qC #[O qL (usT m l x),O qL (usE m l x)] 117 (0,0))):=fun X u1 u2 n1 n2 l1 l2 h =>
   ⟨(h.keep _ (by omega) (Zw r1 (by omega)) (Zw r2 (by omega))).trans h1,(h.keep _ (by omega) (Zw r1 (by omega)) (Zw r2 (by omega))).trans h2,(h.keep _ hclt hc1 hc2).trans hc⟩
  have HR:=qH (qI r1 (qI r2 (qI h1 (qI h2 hB))));have hbase:w2.heap.size+5<=W.heap.size:=by omega
  have HT:=qH hTW;obtain⟨i0,hi,hz0',hz1',hz2'⟩:=info_parts intInfo;clear r1 r2 h1 h2 hB hne hTW hc hcr hc1 hc2 hr;gi_wp2;refine Zi (ZP _ _) 10 (fun X=>Boxed X (w.heap.size+1) 29 v1/\Boxed X (w.heap.size+1+1) 29 v2/\X.heap[Bc]?=some (qC #[O qL (usT m l x),O qL (usE m l x)] 117 (0,0))) (by kernel_rfl) (by kernel_rfl) (by kernel_rfl) fun hH inv0=>?_
  refine sk hH (i:=0) (v:=v1) (Zd rfl) inv0 (fun X hX=>?_) fun inv1=>?_
  ·have hx:=hX.1.cell;go_simp
  simp only [qJ,zq4,zr4,zs4];refine sk hH (i:=1) (v:=qP (some ⟨Bc,0,none⟩)) (Zd rfl) inv1 (fun X hX=>?_) fun inv2=>?_
  ·go_simp
  simp only [qJ,zq4,zr4,zs4];refine sk hH (i:=2) (v:=O qL (usT m l x)) (Zd rfl) inv2 (fun X hX=>?_) fun inv3=>?_
  ·have hx:=Zl hX.2.2 (i:=0) rfl;go_simp
  simp only [qJ,zq4,zr4,zs4];refine sk hH (i:=5) (v:=v2) (Zd rfl) inv3 (fun X hX=>?_) fun inv4=>?_
  ·have hx:=hX.2.1.cell;go_simp
  simp only [qJ,zq4,zr4,zs4];refine sk hH (i:=6) (v:=qP (some ⟨Bc,1,none⟩)) (Zd rfl) inv4 (fun X hX=>?_) fun inv5=>?_
  ·go_simp
  simp only [qJ,zq4,zr4,zs4];refine sk hH (i:=7) (v:=O qL (usE m l x)) (Zd rfl) inv5 (fun X hX=>?_) fun inv6=>?_
  ·have hx:=Zl hX.2.2 (i:=1) rfl;go_simp
  simp only [qJ,zq4,zr4,zs4];clear inv0 inv1 inv2 inv3 inv4 inv5 inv6 hH;generalize hTx:usT m l x=T at *;generalize hEx:usE m l x=E at *;generalize W.drew=X0 at *;have hT:=HT.out;clear HT;refine ZB (rs:=[3,8]) (by kernel_rfl) (by simp) (SS.out _ _ _ _ _ _ _ hT) (by simp) (fun i hi'=>?_)
  simp only [List.mem_cons,List.not_mem_nil,or_false] at hi';rcases hi' with rfl | rfl
  ·refine ZE (Zd rfl) rfl (v:=qS (some ⟨X0.heap.size,0,none⟩) 1 1) (w':=X0.alloc (qC #[O qL T] 3)) (by go_simp) ?_
   simp only [qJ,zq4,zr4,zs4];have b3:=Boxed.new X0 3 (O qL T);have zs3:W.heap.size<=X0.heap.size:=hT.size;replace hT:=hT.alloc (qC #[O qL T] 3);generalize X0.alloc (qC #[O qL T] 3)=X1 at *;generalize X0.heap.size=s3 at *;refine ZB (rs:=[4,8]) (by kernel_rfl) (by simp) (SS.out _ _ _ _ _ _ _ hT) (by simp) (fun i hi'=>?_)
   simp only [List.mem_cons,List.not_mem_nil,or_false] at hi';rcases hi' with rfl | rfl
   ·refine Zz (Zd rfl) rfl (.tmp 27) (.tmp 30) 29 rfl (w2.heap.size+5) 3 i0 (.int .i64 0) 1 8 Tryz.underlying29 hi hz0' hz1' hz2' rfl (by decide) _ _ _ rfl hT.r1 ⟨s3,0,none⟩ 1 1 [.int .i64 T] rfl rfl (ZI b3) (by simp [Value.oneCell']) (by unfold maxLen;omega) (by omega) (Nat.le_trans hbase hT.size) ?_
    intro u1 X2 hr1 hg1 ho1;simp only [qJ,zq4,zr4,zs4];replace hT:=hT.app1 hg1 hr1 ho1;obtain⟨g1,cp1,rfl⟩:=ownsRow_succ hr1;clear hg1 hr1 ho1 b3;refine ZB (rs:=[8]) (by kernel_rfl) (by simp) (SS.out _ _ _ _ _ _ _ hT) (by simp) (fun i hi'=>?_)
    simp only [List.mem_cons,List.not_mem_nil,or_false] at hi';subst hi';refine ZE (Zd rfl) rfl (v:=qS (some ⟨X2.heap.size,0,none⟩) 1 1) (w':=X2.alloc (qC #[O qL E] 3)) (by go_simp) ?_
    simp only [qJ,zq4,zr4,zs4];have b8:=Boxed.new X2 3 (O qL E);have zs8:W.heap.size<=X2.heap.size:=hT.size;replace hT:=hT.alloc (qC #[O qL E] 3);generalize X2.alloc (qC #[O qL E] 3)=X3 at *;generalize X2.heap.size=s8 at *;refine ZB (rs:=[9]) (by kernel_rfl) (by simp) (SS.out _ _ _ _ _ _ _ hT) (by simp) (fun i hi'=>?_)
    simp only [List.mem_cons,List.not_mem_nil,or_false] at hi';subst hi';refine Zz (Zd rfl) rfl (.tmp 32) (.tmp 35) 29 rfl (w2.heap.size+5) 3 i0 (.int .i64 0) 1 8 Tryz.underlying29 hi hz0' hz1' hz2' rfl (by decide) _ _ _ rfl hT.r2 ⟨s8,0,none⟩ 1 1 [.int .i64 E] rfl rfl (ZI b8) (by simp [Value.oneCell']) (by unfold maxLen;omega) (by omega) (Nat.le_trans hbase hT.size) ?_
    intro u2 X4 hr2 hg2 ho2;simp only [qJ,zq4,zr4,zs4];replace hT:=hT.app2 hg2 hr2 ho2;obtain⟨g2,cp2,rfl⟩:=ownsRow_succ hr2;clear hg2 hr2 ho2 b8;refine Zm (by kernel_rfl) (SS.out _ _ _ _ _ _ _ hT) ?_
    simp only [List.drop_succ_cons,List.drop_zero];obtain⟨r1,r2,h1,h2,hB⟩:=HR.out;obtain⟨_,⟨q3,q4⟩,⟨q5,q6⟩,q7,q8,q9⟩:=hT.store (t:=29) r1 r2 h1 h2 (by omega) (by omega) (by omega)
    obtain⟨p1,p2,_⟩:=SS.out _ _ _ _ _ _ _ hT;have x1:=p1.cell;have y1:=p1.frozen;have x2:=p2.cell;have y2:=p2.frozen;have HQ:=qH (qI q3 (qI q4 (qI q5 (qI q6 (qI q7 (qI q8 (qI q9 (qI hT.ne (qI r1 (qI r2 hB))))))))));clear q3 q4 q5 q6 q7 q8 q9 r1 r2 h1 h2 hB p1 p2 hT;gi_wp2;obtain⟨q3,q4,q5,q6,q7,q8,q9,hne,r1,r2,hB⟩:=HQ.out;refine⟨q7.from _,⟨q9.1,fun b hb=>?_⟩,⟨_,_,q3,q4,?_,?_,hne⟩,hB.trans (q8 _ (by omega) (by omega) (by omega))⟩
    ·rcases hb with⟨b1,b2,b3⟩ | b1
     ·exact q9.2 b (by omega) b2 b3 (Zw r1 (by omega)) (Zw r2 (by omega))
     ·exact q9.2 b (by omega) (by omega) (by omega) (Zw r1 (by omega)) (Zw r2 (by omega))
    ·rw [show (pre++[x]).length=pre.length+1 by simp,show (pre++[x]).map (tL m l)=pre.map (tL m l)++[O qL T] by rw [<- hTx];simp [tL]]
     exact q5
    ·rw [show (pre++[x]).length=pre.length+1 by simp,show (pre++[x]).map (eL m l)=pre.map (eL m l)++[O qL E] by rw [<- hEx];simp [eL]]
     exact q6
   ·refine ZE (Zd rfl) rfl (v:=qS (some ⟨X1.heap.size,0,none⟩) 1 1) (w':=X1.alloc (qC #[O qL E] 3)) (by go_simp) ?_
    simp only [qJ,zq4,zr4,zs4];have b8:=Boxed.new X1 3 (O qL E);have zs8:W.heap.size<=X1.heap.size:=hT.size;have b3:=b3.alloc (qC #[O qL E] 3);replace hT:=hT.alloc (qC #[O qL E] 3);generalize X1.alloc (qC #[O qL E] 3)=X2 at *;generalize X1.heap.size=s8 at *;refine ZB (rs:=[4]) (by kernel_rfl) (by simp) (SS.out _ _ _ _ _ _ _ hT) (by simp) (fun i hi'=>?_)
    simp only [List.mem_cons,List.not_mem_nil,or_false] at hi';subst hi';refine Zz (Zd rfl) rfl (.tmp 27) (.tmp 30) 29 rfl (w2.heap.size+5) 3 i0 (.int .i64 0) 1 8 Tryz.underlying29 hi hz0' hz1' hz2' rfl (by decide) _ _ _ rfl hT.r1 ⟨s3,0,none⟩ 1 1 [.int .i64 T] rfl rfl (ZI b3) (by simp [Value.oneCell']) (by unfold maxLen;omega) (by omega) (Nat.le_trans hbase hT.size) ?_
    intro u1 X3 hr1 hg1 ho1;simp only [qJ,zq4,zr4,zs4];have b8:=b8.kept hg1 (fun e'=>by have:=(HR.out.1.lt _ e'.symm).2;omega)
    replace hT:=hT.app1 hg1 hr1 ho1;obtain⟨g1,cp1,rfl⟩:=ownsRow_succ hr1;clear hg1 hr1 ho1 b3;refine ZB (rs:=[9]) (by kernel_rfl) (by simp) (SS.out _ _ _ _ _ _ _ hT) (by simp) (fun i hi'=>?_)
    simp only [List.mem_cons,List.not_mem_nil,or_false] at hi';subst hi';refine Zz (Zd rfl) rfl (.tmp 32) (.tmp 35) 29 rfl (w2.heap.size+5) 3 i0 (.int .i64 0) 1 8 Tryz.underlying29 hi hz0' hz1' hz2' rfl (by decide) _ _ _ rfl hT.r2 ⟨s8,0,none⟩ 1 1 [.int .i64 E] rfl rfl (ZI b8) (by simp [Value.oneCell']) (by unfold maxLen;omega) (by omega) (Nat.le_trans hbase hT.size) ?_
    intro u2 X4 hr2 hg2 ho2;simp only [qJ,zq4,zr4,zs4];replace hT:=hT.app2 hg2 hr2 ho2;obtain⟨g2,cp2,rfl⟩:=ownsRow_succ hr2;clear hg2 hr2 ho2 b8;refine Zm (by kernel_rfl) (SS.out _ _ _ _ _ _ _ hT) ?_
    simp only [List.drop_succ_cons,List.drop_zero];obtain⟨r1,r2,h1,h2,hB⟩:=HR.out;obtain⟨_,⟨q3,q4⟩,⟨q5,q6⟩,q7,q8,q9⟩:=hT.store (t:=29) r1 r2 h1 h2 (by omega) (by omega) (by omega)
    obtain⟨p1,p2,_⟩:=SS.out _ _ _ _ _ _ _ hT;have x1:=p1.cell;have y1:=p1.frozen;have x2:=p2.cell;have y2:=p2.frozen;have HQ:=qH (qI q3 (qI q4 (qI q5 (qI q6 (qI q7 (qI q8 (qI q9 (qI hT.ne (qI r1 (qI r2 hB))))))))));clear q3 q4 q5 q6 q7 q8 q9 r1 r2 h1 h2 hB p1 p2 hT;gi_wp2;obtain⟨q3,q4,q5,q6,q7,q8,q9,hne,r1,r2,hB⟩:=HQ.out;refine⟨q7.from _,⟨q9.1,fun b hb=>?_⟩,⟨_,_,q3,q4,?_,?_,hne⟩,hB.trans (q8 _ (by omega) (by omega) (by omega))⟩
    ·rcases hb with⟨b1,b2,b3⟩ | b1
     ·exact q9.2 b (by omega) b2 b3 (Zw r1 (by omega)) (Zw r2 (by omega))
     ·exact q9.2 b (by omega) (by omega) (by omega) (Zw r1 (by omega)) (Zw r2 (by omega))
    ·rw [show (pre++[x]).length=pre.length+1 by simp,show (pre++[x]).map (tL m l)=pre.map (tL m l)++[O qL T] by rw [<- hTx];simp [tL]]
     exact q5
    ·rw [show (pre++[x]).length=pre.length+1 by simp,show (pre++[x]).map (eL m l)=pre.map (eL m l)++[O qL E] by rw [<- hEx];simp [eL]]
     exact q6
  ·refine ZE (Zd rfl) rfl (v:=qS (some ⟨X0.heap.size,0,none⟩) 1 1) (w':=X0.alloc (qC #[O qL E] 3)) (by go_simp) ?_
   simp only [qJ,zq4,zr4,zs4];have b8:=Boxed.new X0 3 (O qL E);have zs8:W.heap.size<=X0.heap.size:=hT.size;replace hT:=hT.alloc (qC #[O qL E] 3);generalize X0.alloc (qC #[O qL E] 3)=X1 at *;generalize X0.heap.size=s8 at *;refine ZB (rs:=[3]) (by kernel_rfl) (by simp) (SS.out _ _ _ _ _ _ _ hT) (by simp) (fun i hi'=>?_)
   simp only [List.mem_cons,List.not_mem_nil,or_false] at hi';subst hi';refine ZE (Zd rfl) rfl (v:=qS (some ⟨X1.heap.size,0,none⟩) 1 1) (w':=X1.alloc (qC #[O qL T] 3)) (by go_simp) ?_
   simp only [qJ,zq4,zr4,zs4];have b3:=Boxed.new X1 3 (O qL T);have zs3:W.heap.size<=X1.heap.size:=hT.size;have b8:=b8.alloc (qC #[O qL T] 3);replace hT:=hT.alloc (qC #[O qL T] 3);generalize X1.alloc (qC #[O qL T] 3)=X2 at *;generalize X1.heap.size=s3 at *;refine ZB (rs:=[4]) (by kernel_rfl) (by simp) (SS.out _ _ _ _ _ _ _ hT) (by simp) (fun i hi'=>?_)
   simp only [List.mem_cons,List.not_mem_nil,or_false] at hi';subst hi';refine Zz (Zd rfl) rfl (.tmp 27) (.tmp 30) 29 rfl (w2.heap.size+5) 3 i0 (.int .i64 0) 1 8 Tryz.underlying29 hi hz0' hz1' hz2' rfl (by decide) _ _ _ rfl hT.r1 ⟨s3,0,none⟩ 1 1 [.int .i64 T] rfl rfl (ZI b3) (by simp [Value.oneCell']) (by unfold maxLen;omega) (by omega) (Nat.le_trans hbase hT.size) ?_
   intro u1 X3 hr1 hg1 ho1;simp only [qJ,zq4,zr4,zs4];have b8:=b8.kept hg1 (fun e'=>by have:=(HR.out.1.lt _ e'.symm).2;omega)
   replace hT:=hT.app1 hg1 hr1 ho1;obtain⟨g1,cp1,rfl⟩:=ownsRow_succ hr1;clear hg1 hr1 ho1 b3;refine ZB (rs:=[9]) (by kernel_rfl) (by simp) (SS.out _ _ _ _ _ _ _ hT) (by simp) (fun i hi'=>?_)
   simp only [List.mem_cons,List.not_mem_nil,or_false] at hi';subst hi';refine Zz (Zd rfl) rfl (.tmp 32) (.tmp 35) 29 rfl (w2.heap.size+5) 3 i0 (.int .i64 0) 1 8 Tryz.underlying29 hi hz0' hz1' hz2' rfl (by decide) _ _ _ rfl hT.r2 ⟨s8,0,none⟩ 1 1 [.int .i64 E] rfl rfl (ZI b8) (by simp [Value.oneCell']) (by unfold maxLen;omega) (by omega) (Nat.le_trans hbase hT.size) ?_
   intro u2 X4 hr2 hg2 ho2;simp only [qJ,zq4,zr4,zs4];replace hT:=hT.app2 hg2 hr2 ho2;obtain⟨g2,cp2,rfl⟩:=ownsRow_succ hr2;clear hg2 hr2 ho2 b8;refine Zm (by kernel_rfl) (SS.out _ _ _ _ _ _ _ hT) ?_
   simp only [List.drop_succ_cons,List.drop_zero];obtain⟨r1,r2,h1,h2,hB⟩:=HR.out;obtain⟨_,⟨q3,q4⟩,⟨q5,q6⟩,q7,q8,q9⟩:=hT.store (t:=29) r1 r2 h1 h2 (by omega) (by omega) (by omega)
   obtain⟨p1,p2,_⟩:=SS.out _ _ _ _ _ _ _ hT;have x1:=p1.cell;have y1:=p1.frozen;have x2:=p2.cell;have y2:=p2.frozen;have HQ:=qH (qI q3 (qI q4 (qI q5 (qI q6 (qI q7 (qI q8 (qI q9 (qI hT.ne (qI r1 (qI r2 hB))))))))));clear q3 q4 q5 q6 q7 q8 q9 r1 r2 h1 h2 hB p1 p2 hT;gi_wp2;obtain⟨q3,q4,q5,q6,q7,q8,q9,hne,r1,r2,hB⟩:=HQ.out;refine⟨q7.from _,⟨q9.1,fun b hb=>?_⟩,⟨_,_,q3,q4,?_,?_,hne⟩,hB.trans (q8 _ (by omega) (by omega) (by omega))⟩
   ·rcases hb with⟨b1,b2,b3⟩ | b1
    ·exact q9.2 b (by omega) b2 b3 (Zw r1 (by omega)) (Zw r2 (by omega))
    ·exact q9.2 b (by omega) (by omega) (by omega) (Zw r1 (by omega)) (Zw r2 (by omega))
   ·rw [show (pre++[x]).length=pre.length+1 by simp,show (pre++[x]).map (tL m l)=pre.map (tL m l)++[O qL T] by rw [<- hTx];simp [tL]]
    exact q5
   ·rw [show (pre++[x]).length=pre.length+1 by simp,show (pre++[x]).map (eL m l)=pre.map (eL m l)++[O qL E] by rw [<- hEx];simp [eL]]
    exact q6
 case done =>
  rintro D ys W hD rfl ⟨⟨v1,v2,h1,h2,r1,r2,hne⟩,hB⟩ hK;have e1:(upto id m.ways.length).length=m.ways.length:=Zq _ _;have e2:(upto id m.ways.length).map (tL m l)=(usedT m l).map (O qL):=by simp [usedT,upto,tL]
  have e3:(upto id m.ways.length).map (eL m l)=(usedE m l).map (O qL):=by simp [usedE,upto,eL]
  rw [e1,e2] at r1;rw [e1,e3] at r2;have g1:(usedT m l).length<=70368744177663:=by simp [usedT,upto];omega
  have g2:(usedE m l).length<=70368744177663:=by simp [usedE,upto];omega
  obtain⟨_,av1,cv1,hv1,_⟩:=Z8.own r1 g1;obtain⟨_,av2,cv2,hv2,_⟩:=Z8.own r2 g2;subst hv1;subst hv2;have l1:=Low.fact h1.cell;have l2:=Low.fact h2.cell;have HQ:=qH (qI h1 (qI h2 (qI r1 (qI r2 (qI hne (qI hB (qI hK (qI g1 g2))))))));have hDb:=hBw.size;have hzW:=hB.size;clear h1 h2 r1 r2 hne hB hK e1 e2 e3 g1 g2;go_wp2;have hS:Hid (Boxed W (w.heap.size+1) 29 (qS av1 (usedT m l).length ((usedT m l).length+cv1))/\Boxed W (w.heap.size+1+1) 29 (qS av2 (usedE m l).length ((usedE m l).length+cv2))):=⟨HQ.out.1,HQ.out.2.1⟩;clear l1 l2;generalize hVa:Value.slice av1 (usedT m l).length ((usedT m l).length+cv1)=va1 at *;generalize hVb:Value.slice av2 (usedE m l).length ((usedE m l).length+cv2)=va2 at *;refine (wpIn_wide (n:=9)).1 ?_;refine Zi (Zk _) 3 (fun X=>Boxed X (w.heap.size+1) 29 va1/\Boxed X (w.heap.size+1+1) 29 va2) (by kernel_rfl) (by kernel_rfl) (by kernel_rfl) fun hH inv0=>?_
  refine sk hH (i:=0) (v:=va1) (Zd rfl) inv0 (fun X hX=>?_) fun inv1=>?_
  ·have hx:=hX.1.cell;go_simp
  simp only [qJ,zq4,zr4,zs4];refine sk hH (i:=1) (v:=va2) (Zd rfl) inv1 (fun X hX=>?_) fun inv2=>?_
  ·have hx:=hX.2.cell;go_simp
  simp only [qJ,zq4,zr4,zs4];clear inv0 inv1 inv2 hH;have hSw:Boxed W.drew (w.heap.size+1) 29 va1/\Boxed W.drew (w.heap.size+1+1) 29 va2:=hS.out;have hg2:W.grownBy W.drew none:=⟨rfl,rfl,rfl,qN _,fun _ _ _=>rfl⟩
  have hwd:Hid (Below W.heap.size W W.drew):=⟨rfl,rfl,rfl,qN _,fun _ _=>rfl⟩
  generalize W.drew=w5 at *;refine sa1 (r:=2) hSw ?_;have x1:=hSw.1.cell;have y1:=hSw.1.frozen;subst hVa;subst hVb;refine ZY (Zd rfl) rfl (w':=w5.setCell ⟨w.heap.size+1,0,none⟩ (qS av1 (usedT m l).length ((usedT m l).length+cv1))) (by go_simp) ?_
  simp only [qJ,zq4,zr4,zs4];refine Zm (by kernel_rfl) ⟨hSw.1.set _,hSw.2.other (by omega) _⟩ ?_
  simp only [List.drop_succ_cons,List.drop_zero];obtain⟨h1,h2,r1,r2,hne,hB,hK,g1,g2⟩:=HQ.out;have h1:=h1.kept hg2 (by simp)
  have h2:=h2.kept hg2 (by simp)
  have r1:=r1.kept hg2 (by cases (Value.slice av1 (usedT m l).length ((usedT m l).length+cv1)).ownBlock <;> simp)
  have r2:=r2.kept hg2 (by cases (Value.slice av2 (usedE m l).length ((usedE m l).length+cv2)).ownBlock <;> simp)
  have hK2:w5.heap[D]?=some (.deferred (some [])):=(hwd.out.block D (Array.getElem?_eq_some_iff.1 hK).1).trans hK;have hB2:Below w.heap.size w w5:=hB.trans (hwd.out.mono hB.size);obtain⟨_,⟨q3,q4⟩,⟨q5,q6⟩,q7,q8,q9⟩:=(Two.refl r1 r2 hne).store (t:=29) r1 r2 h1 h2 (by omega) (by omega) (by omega)
  have x2:=h2.cell;have y2:=h2.frozen;have HX:=qH (qI q3 (qI q4 (qI q5 (qI q6 (qI (q7.same D _ hK2 rfl) (qI (hB2.trans (q8 w.heap.size (by omega) (by omega) (by omega))) (qI g1 g2)))))))
  clear h1 h2 r1 r2 hne hB hK g1 g2 hg2 hK2 hB2 q3 q4 q5 q6 q7 q8 q9 HQ hSw hS hwd;gi_wp2;generalize qU (qU w5 _ _) _ _=F at *;go_wp2;obtain⟨q3,q4,q5,q6,hK,hB,g1,g2⟩:=HX.out;have f1:=ownsRow_putObj q5 (.deferred none) hK rfl;have f2:=ownsRow_putObj q6 (.deferred none) hK rfl;have b1:=q3.kept (grownBy_putObj' F D (.deferred none)) (fun e=>by cases e;omega)
  have b2:=q4.kept (grownBy_putObj' F D (.deferred none)) (fun e=>by cases e;omega)
  have x1:=b1.cell;have x2:=b2.cell;have I1:=Z8.own f1 g1;have I2:=Z8.own f2 g2;have hBf:Below w.heap.size w (F.putObj D (.deferred none)):=hB.grown (grownBy_putObj' F D _) hB.size (fun j e=>by cases e;omega)
  refine⟨by simp,.inl ⟨_,_,rfl,run_takeDeferred hK,?_⟩⟩
  exact⟨qT #[_,_,O qL 0],by simp [results,Tryz.f41,go_sem,x1,x2],_,_,rfl,I1,I2,hBf,fun b o n c e=>by have:=(f1.lt b (by rw [e];rfl)).1;omega,fun b o n c e=>by have:=(f2.lt b (by rw [e];rfl)).1;omega⟩
 case stop=>rintro D c pre W _ _ hf;exact hf.elim
end
def min2 (a b:Int):Int:=if b<a then b else a
def rdA (m:Msn) (l:List Int):Nat->Int
 | 0=>m.start
 | k+1=>if ((k+1:Nat):Int) ∈ l then min2 (rdA m l k+gLeg m k (k+1)) (wy m.ways (k+1)).fix else rdA m l k+gLeg m k (k+1)
def rdB (m:Msn) (l:List Int):Nat->Int
 | 0=>m.start
 | k+1=>rdA m l k+gLeg m k (k+1)
theorem Z0G (m:Msn) (l:List Int) (k:Nat):rdA m l (k+1)=if ((k+1:Nat):Int) ∈ l then min2 (rdB m l (k+1)) (wy m.ways (k+1)).fix else rdB m l (k+1):=rfl
theorem Z0F (m:Msn) (l:List Int) (k:Nat):rdB m l (k+1)=rdA m l k+gLeg m k (k+1):=rfl
theorem Zcc (a b:Int):min2 a b<=a/\min2 a b<=b/\(min2 a b=a\/min2 a b=b):=by unfold min2;split <;> omega
def sumG (m:Msn):Nat->Int
 | 0=>m.start
 | k+1=>sumG m k+gLeg m k (k+1)
theorem Z8Z {m:Msn} (V:VMsn m):∀ k,k<m.ways.length->sumG m k<=grownTo m k
 | 0,_=>Int.le_refl _
 | k + 1, h => by
  have ih:=Z8Z V k (by omega)
  have b:=Z0B V.ways h;have g2:=Z00 V.leg V.ways (i:=k+1) (j:=(wy m.ways (k+1)).back.toNat) h (by omega)
  simp only [sumG,grownTo];omega
theorem Zc1 {m:Msn} (V:VMsn m) {k:Nat} (h:k<m.ways.length):sumG m k<=100000:=by
 have a:=Z8Z V k h;have b:=Z0J V.leg V.start V.ways k (m.ways.length-1) (by omega) (by omega)
 have:=V.grown;unfold grownV at this;omega
theorem rd_bd {m:Msn} (V:VMsn m) (l:List Int):∀ k,k<m.ways.length->0<=rdB m l k/\rdB m l k<=sumG m k/\0<=rdA m l k/\rdA m l k<=sumG m k
 | 0,_=>by have:=V.start;simp only [rdB,rdA,sumG];omega
 | k + 1, h => by
  have ih:=rd_bd V l k (by omega)
  have g:=Z00 V.leg V.ways (i:=k) (j:=k+1) (by omega) h
  have wb:=ZO (Z06 V.ways h);have e:rdB m l (k+1)=rdA m l k+gLeg m k (k+1):=rfl;have e2:sumG m (k+1)=sumG m k+gLeg m k (k+1):=rfl;have h1:0<=rdB m l (k+1)/\rdB m l (k+1)<=sumG m (k+1):=by omega
  refine⟨h1.1,h1.2,?_⟩;rw [Z0G];have mn:=Zcc (rdB m l (k+1)) (wy m.ways (k+1)).fix
  split
  ·omega
  ·omega
theorem rd_le {m:Msn} (V:VMsn m) (l:List Int) {k:Nat} (h:k<m.ways.length):0<=rdB m l k/\rdB m l k<=100000/\0<=rdA m l k/\rdA m l k<=100000:=by
 have:=rd_bd V l k h;have:=Zc1 V h;omega
noncomputable def radOkB (m:Msn) (l:List Int):Bool:=validB m && stopsB m l
noncomputable def rdBL (m:Msn) (l:List Int):List Int:=if radOkB m l=true then upto (rdB m l) m.ways.length else []
noncomputable def rdAL (m:Msn) (l:List Int):List Int:=if radOkB m l=true then upto (rdA m l) m.ways.length else []
noncomputable def rdE (m:Msn) (l:List Int):Int:=if radOkB m l=true then 0 else 1
section
attribute [local irreducible] wpQuiet
open Go.RowKit
def homeT (m:Msn) (a:Nat):Nat->Int
 | 0=>0
 | j+1=>homeT m a j+tLeg m (itB m a j) (itB m a (j+1))
def homeE (m:Msn) (a:Nat):Nat->Int
 | 0=>0
 | j+1=>homeE m a j+eLeg m (itB m a j) (itB m a (j+1))
theorem Z0T {m:Msn} (V:VMsn m) {a:Nat} (ha:a<m.ways.length):∀ j,j<=dep m a->0<=homeT m a j/\homeT m a j<=j*90000000/\0<=homeE m a j/\homeE m a j<=j*90900000000
 | 0,_=>by simp [homeT,homeE]
 | j + 1, h => by
  have ih:=Z0T V ha j (by omega)
  have x1:=Z0S V.ways ha (j:=j) (by omega)
  have x2:=Z0S V.ways ha h;have t:=Z35 V.leg V.ways x1 x2;have e:=Z3C V x1 x2;simp only [homeT,homeE];omega
theorem Z1y {n0:Nat} {W:World} {v:Value} {l:List Int} {n:Nat} (h:Z8 n0 W v l) (hl:l.length=n+1):∃ b o cap,v=qS (some ⟨b,o,none⟩) (n+1) (n+1+cap)/\b<n0/\∀ j,j<n+1->W.cell? ⟨b,o+j,none⟩=some (O qL (l.getD j 0)):=by
 obtain⟨_,a,cap,rfl,hc⟩:=h;rcases hc with h0 | ⟨b,o,rfl,hb,hc⟩
 ·rw [h0] at hl;simp at hl
 ·rw [hl] at hc ⊢
  exact⟨b,o,cap,rfl,hb,hc⟩
theorem Z1W {m:Msn} {a n j:Nat} (hj:j<n+1):(intL (upto (itB m a) (n+1))).getD j 0=(itB m a j:Int):=by
 simp [intL,upto,List.getD,hj]
theorem Z1Z (m : Msn) (vw vh vr : Value) (a : Nat) (w : World) (hm : MsnAt w.heap.size w m vw vh vr) (hV : validB m = true) (ha : a < m.ways.length) :
  Calls Tryz.prog 26 #[.agg (Zc m vw vh vr),O qL a] w fun e w'=>e=qR (qT #[O qL (homeT m a (dep m a)),O qL (homeE m a (dep m a)),O qL 0])/\Below w.heap.size w w':=by
 have W1:Below w.heap.size w (w.alloc (qC (Zc m vw vh vr) 26)):=(qK _ _).alloc (qN _) _;have hr:=Z3c m vw vh vr a _ ((hm.below W1).mono W1.size);rw [(Z0P hV ha).1,(Z0P hV ha).2] at hr;have V:=(Zj m).1 hV;have hd:=Z3F V.ways ha;have n41:=V.n41;obtain⟨n,hn⟩:∃ n,dep m a=n:=⟨_,rfl⟩;rw [hn] at hr hd ⊢;have hlen:(intL (upto (itB m a) (n+1))).length=n+1:=by simp [intL,upto]
 have hr:=qH hr;have HM:=qH hm;have HV:=qH (qI hV (qI V (qI hlen hn)));have H0:=Has.new w (Zc m vw vh vr) 26;have H0':=qH H0;obtain⟨⟨_,a1,cap1,rfl,_⟩,⟨_,a2,cap2,rfl,_⟩,⟨_,a3,cap3,rfl,_⟩⟩:=hm;clear hV V hlen hn W1 H0;unfold Zc at *;go_enter Tryz.func26,Tryz.ntmps26;go_wp2_with fail;refine hr.out.mono ?_;rintro e w1 ⟨v1,rfl,hI,hb1⟩;obtain⟨b2,o2,cap4,rfl,hb2',hcell⟩:=Z1y hI HV.out.2.2.1;have B1:Below w.heap.size w w1:=((qK _ w).alloc (qN _) _).trans (hb1.mono (by simp))
 have H1:=H0'.out.below (hb1.mono (by simp):Below (w.heap.size+1) _ w1) (by omega)
 obtain⟨c0,c1,c2,c3,c4,c5,c6,c7,c8,c9,c10⟩:=Zg (m:=m) (vw:=qS a1 m.ways.length (m.ways.length+cap1)) (vh:=qS a2 m.home.length (m.home.length+cap2)) (vr:=qS a3 m.rocks.length (m.rocks.length+cap3)) H1;have z1:=H1.lt;have HCL:=qH hcell;have HS:=qH (Has.new w1 (spentCells m (qS a1 m.ways.length (m.ways.length+cap1)) (qS a2 m.home.length (m.home.length+cap2)) (qS a3 m.rocks.length (m.rocks.length+cap3)) 0 0) 119);clear hI hb1 hcell H1;by_cases hc4:n+1+cap4=1
 all_goals
  go_wp2;have HX:=qH (Only.of_below (b:=w1.heap.size) ((qK _ w1).alloc (qN _) (qC (spentCells m (qS a1 m.ways.length (m.ways.length+cap1)) (qS a2 m.home.length (m.home.length+cap2)) (qS a3 m.rocks.length (m.rocks.length+cap3)) 0 0) 119)))
  go_loopw [25] (fun i wr=>∃ j:Nat,j<=n/\i=O qL (j:Int)/\wr.heap[w1.heap.size]?=some (qC (spentCells m (qS a1 m.ways.length (m.ways.length+cap1)) (qS a2 m.home.length (m.home.length+cap2)) (qS a3 m.rocks.length (m.rocks.length+cap3)) (homeT m a j) (homeE m a j)) 119 (0,0))/\Only w1.heap.size w1 wr) (fun i _=>n-(intOf i).toNat)
  case atStart=>exact⟨0,by omega,rfl,HS.out,HX.out⟩
  case round =>
   obtain⟨j,hj,rfl,H,hO⟩:=hrel;have hzr:=hO.size;have BO:Below w1.heap.size w1 wr:=hO.below (qN _) (qN _);have BW:=B1.trans (BO.mono B1.size);obtain⟨hV,V,hlen,hn⟩:=HV.out;have tb:=Z0T V ha j (by omega)
   have hlt1:=(Array.getElem?_eq_some_iff.1 H).1;by_cases hlt:j<n
   ·(try (exfalso;omega))
    all_goals
     have x1:=Z0S V.ways ha (j:=j) (by omega)
     have x2:=Z0S V.ways ha (j:=j+1) (by omega)
     have f1:=HCL.out j (by omega)
     have f2:=HCL.out (j+1) (by omega)
     rw [Z1W (by omega)] at f1 f2
     have l1:=(BO.cell (p:=⟨b2,o2+j,none⟩) hb2').trans f1;have l2:=(BO.cell (p:=⟨b2,o2+(j+1),none⟩) hb2').trans f2;rw [show o2+(j+1)=o2+1+j by omega] at l2
     have hg:=Z9T w1.heap.size m (qS a1 m.ways.length (m.ways.length+cap1)) (qS a2 m.home.length (m.home.length+cap2)) (qS a3 m.rocks.length (m.rocks.length+cap3)) (homeT m a j) (homeE m a j) _ _ wr H ((HM.out.below BW).mono BW.size) hV x1 x2 tb.1 (by omega) tb.2.2.1 (by omega)
     have hs:homeT m a (j+1)=homeT m a j+tLeg m (itB m a j) (itB m a (j+1))/\homeE m a (j+1)=homeE m a j+eLeg m (itB m a j) (itB m a (j+1)):=⟨rfl,rfl⟩;have hs:=qH hs;have hg:=qH hg;have HH:=qH H;have hOO:=qH hO;generalize itB m a j=p1 at *;generalize itB m a (j+1)=p2 at *;generalize homeT m a j=t0 at *;generalize homeE m a j=e0 at *;have jl:(j:Int)<(n:Int):=by omega
     have jl1:(j:Int)<(n:Int)+1:=by omega
     clear hV V hlen hn f1 f2 H hO;go_wp2_with fail;refine hg.out.mono ?_;rintro r w4 ⟨⟨v,rfl⟩,hH4,hO4⟩;have HZ:=qH (qI hH4 (hOO.out.trans hO4));clear hH4 hO4;go_wp2;go_roundw
     case rel=>exact⟨j+1,by omega,by go_num,by rw [hs.out.1,hs.out.2];exact HZ.out.1,HZ.out.2⟩
     case measure=>simp [intOf];omega
   ·obtain rfl:j=n:=by omega
    have c0:=Low.fact (Zl H (i:=0) rfl);have c1:=Low.fact (Zl H (i:=1) rfl);have dj:decide ((j:Int)<(j:Int))=false:=by simp
    clear hV V hlen hn H;go_wp2
    (refine Zh (by kernel_rfl) (by kernel_rfl) ?_;(iterate 9 (apply Zf;(case hw=>rfl);(case hval=>(intro w1 hw1;have hcx:=Low.cells hw1;simp only [Oper.quietAt];go_simp;first | done | rfl | exact⟨rfl,rfl⟩));simp only [qJ,zq4,zr4,zs4]));refine wpQuiet_nil ?_;intro w2 hw2)
    go_wp2;go_ret3;exact⟨rfl,BW.trans (hw2.out.mono BW.size)⟩
theorem Z2l (va vb : Value) (a b : List Int) (w : World) (ha : Z8 w.heap.size w va a) (hb : Z8 w.heap.size w vb b) :
  Calls Tryz.prog 17 #[va,vb] w fun e w'=>e=qR (.bool (decide (a=b)))/\Below w.heap.size w w':=by
 obtain⟨hla,aa,capa,rfl,hca⟩:=ha;obtain⟨hlb,ab,capb,rfl,hcb⟩:=hb;by_cases hl:a.length=b.length
 ·rw [<- hl]
  have d0:((a.length:Int) != (a.length:Int))=false:=by simp
  have hcaH:=qH hca;have hcbH:=qH hcb;have hlH:=qH hl;clear hca hcb hl;go_enter Tryz.func17,Tryz.ntmps17;go_wp2
  go_loopw [5] (fun i wr=>∃ k:Nat,k<=a.length/\i=O qL k/\(∀ j,j<k->a.getD j 0=b.getD j 0)/\Below w.heap.size w wr) (fun i _=>a.length-(intOf i).toNat)
  case atStart=>exact⟨0,by omega,rfl,fun j hj=>by omega,qK _ _⟩
  case round =>
   obtain⟨k,hk,rfl,hall,hB⟩:=hrel;have hall':=qH hall;clear hall;by_cases hlt:k<a.length
   ·obtain⟨ba,oa,rfl,hba,hcA⟩:∃ b1 o1,aa=some ⟨b1,o1,none⟩/\b1<w.heap.size/\∀ j,j<a.length->w.cell? ⟨b1,o1+j,none⟩=some (O qL (a.getD j 0)):=by
     rcases hcaH.out with h | h
     ·rw [h] at hlt;simp at hlt
     ·exact h
    obtain⟨bb,ob,rfl,hbb,hcB⟩:∃ b1 o1,ab=some ⟨b1,o1,none⟩/\b1<w.heap.size/\∀ j,j<b.length->w.cell? ⟨b1,o1+j,none⟩=some (O qL (b.getD j 0)):=by
     rcases hcbH.out with h | h
     ·have:=hlH.out;rw [h] at this;simp at this;rw [this] at hlt;simp at hlt
     ·exact h
    have c1:=Low.fact ((hB.cell (p:=⟨ba,oa+k,none⟩) hba).trans (hcA k hlt));have c2:=Low.fact ((hB.cell (p:=⟨bb,ob+k,none⟩) hbb).trans (hcB k (by have:=hlH.out;omega)))
    have hi:(k:Int)<a.length:=by omega
    have hz:=hB.size;clear hcA hcB;by_cases he:a.getD k 0=b.getD k 0
    ·rw [<- he] at c2
     have he':=qH he;clear he;generalize a.getD k 0=x at c1 c2;have dx:(x != x)=false:=by simp
     go_wp2
     (refine Zh (by kernel_rfl) (by kernel_rfl) ?_;(iterate 9 (apply Zf;(case hw=>rfl);(case hval=>(intro w1 hw1;have hcx:=Low.cells hw1;simp only [Oper.quietAt];go_simp;first | done | rfl | exact⟨rfl,rfl⟩));simp only [qJ,zq4,zr4,zs4]));refine wpQuiet_nil ?_;intro w2 hw2)
     go_wp2;go_roundw
     case rel =>
      refine⟨k+1,by omega,by go_num,fun j hj=>?_,hB.trans (hw2.out.mono hz)⟩
      by_cases e:j=k
      ·rw [e];exact he'.out
      ·exact hall'.out j (by omega)
     case measure=>simp [intOf];omega
    ·have hne:Hid (decide (a=b)=false):=by
      show decide (a=b)=false
      simp only [decide_eq_false_iff_not];rintro rfl;exact he rfl
     generalize a.getD k 0=x at *;generalize b.getD k 0=y at *;have dx:(x != y)=true:=by simpa using he
     clear he;go_wp2
     (refine Zh (by kernel_rfl) (by kernel_rfl) ?_;(iterate 9 (apply Zf;(case hw=>rfl);(case hval=>(intro w1 hw1;have hcx:=Low.cells hw1;simp only [Oper.quietAt];go_simp;first | done | rfl | exact⟨rfl,rfl⟩));simp only [qJ,zq4,zr4,zs4]));refine wpQuiet_nil ?_;intro w2 hw2)
     go_wp2;go_ret;exact⟨Zs hne.out.symm,hB.trans (hw2.out.mono hz)⟩
   ·have heq:Hid (decide (a=b)=true):=by
     show decide (a=b)=true
     simp only [decide_eq_true_eq];refine List.ext_getElem hlH.out fun j h1 h2=>?_
     have:=hall'.out j (by omega)
     simpa [List.getD,List.getElem?_eq_getElem h1,List.getElem?_eq_getElem h2] using this
    go_wp2;go_ret;exact⟨Zs heq.out.symm,hB⟩
 ·have hne:decide (a=b)=false:=by
   simp only [decide_eq_false_iff_not];rintro rfl;exact hl rfl
  rw [hne];have d0:((a.length:Int) != (b.length:Int))=true:=by simp;omega
  clear hca hcb hl hne;go_enter Tryz.func17,Tryz.ntmps17;go_wp2;go_ret;exact⟨rfl,zB2⟩
end
theorem Z5A {l:List Int} {k:Nat} (hk:k<l.length):l.getD k 0 ∈ l:=by simp [List.getD,List.getElem?_eq_getElem hk]
theorem Z5y {l:List Int} {x:Int} (h:x ∈ l):∃ k,k<l.length/\l.getD k 0=x:=by
 obtain⟨k,hk,e⟩:=List.getElem_of_mem h;exact⟨k,hk,by simp [List.getD,List.getElem?_eq_getElem hk,e]⟩
theorem Z3i {m:Msn} {l:List Int} (h:stopsB m l=true) {k:Nat} (hk:k<l.length):stopOk m l k:=by
 simp only [stopsB,decide_eq_true_eq] at h;exact h k hk
theorem Z1v {m:Msn} {l:List Int} (h:stopsB m l=true):∀ k j,j<k->k<l.length->l.getD j 0<l.getD k 0
 | 0,_,hj,_=>by omega
 | k + 1, j, hj, hk => by
  have a:=(Z3i h hk).1;simp only [prevS,Nat.add_one_ne_zero,if_false,Nat.add_sub_cancel] at a;by_cases e:j=k
  ·rw [e];exact a
  ·have:=Z1v h k j (by omega) (by omega);omega
theorem Z48 {m:Msn} {l:List Int} (h:stopsB m l=true) {k:Nat} (hk:k<l.length):0<l.getD k 0/\l.getD k 0<m.ways.length/\(wy m.ways (l.getD k 0).toNat).fix≠0:=by
 have a:=Z3i h hk;refine⟨?_,a.2⟩;rcases Nat.eq_zero_or_pos k with e | e
 ·subst e;exact a.1
 ·have b:=Z1v h k 0 e hk
  have c:=(Z3i h (show 0<l.length by omega)).1
  have c2:prevS l 0=0:=rfl;omega
theorem Z5w {m:Msn} {l:List Int} (h1:l.Pairwise (·<·)) (h2:∀ x ∈ l,0<x/\x<m.ways.length/\(wy m.ways x.toNat).fix≠0):stopsB m l=true:=by
 simp only [stopsB,decide_eq_true_eq];intro k hk;refine⟨?_,(h2 _ (Z5A hk)).2⟩;unfold prevS
 split
 ·exact (h2 _ (Z5A hk)).1
 ·have:=List.pairwise_iff_getElem.1 h1 (k-1) k (by omega) hk (by omega)
  simpa [List.getD,List.getElem?_eq_getElem hk,List.getElem?_eq_getElem (show k-1<l.length by omega)] using this
end Go.Proofs.YthipcinibldgnaaGreat
