/- package power: leg, Cost. | package power: add, go1, wait, Home. | package power: set: a map of stops. | package power: ways: the iterator over the .. -/
import Derived.Maps.OwnSet
import Derived.Maps.OwnOps
import Derived.Maps.Views
import Derived.LoopTactic
import Derived.Test.YtdolkgihppgpcaaGreatBin11
set_option maxRecDepth 8000
set_option maxHeartbeats 2000000
namespace Go.Proofs.YtdolkgihppgpcaaGreat
section
attribute [local irreducible] wpQuiet
open Go.RowKit
def eLeg (m:Msn) (i j:Nat):Int:=m.idle*tLeg m i j+m.drive*dLeg m i j
theorem Z3Q {m:Msn} (V:VMsn m) {i j:Nat} (hi:i<m.ways.length) (hj:j<m.ways.length) :
  0≤m.idle*tLeg m i j∧m.idle*tLeg m i j≤90000000000∧0≤m.drive*dLeg m i j∧m.drive*dLeg m i j≤900000000∧0≤eLeg m i j∧eLeg m i j≤90900000000:=by
 have t:=Z3u V.leg V.ways hi hj;have d:=Z3S V.ways hi hj;have h1:=Int.mul_nonneg V.idle.1 t.1;have h2:=Int.mul_nonneg V.drive.1 d.1;have h3:=Int.mul_le_mul V.idle.2 t.2 t.1 (by omega)
 have h4:=Int.mul_le_mul V.drive.2 d.2 d.1 (by omega)
 unfold eLeg;omega
theorem Z8Q (m:Msn) (vw vh vr:Value) (i j:Nat) (w:World) (hm:MsnAt w.heap.size w m vw vh vr) (hV:validB m=true) (hi:i<m.ways.length) (hj:j<m.ways.length) :
  Calls Tryz.prog 134 #[.agg (Zc m vw vh vr),.int .i64 i,.int .i64 j] w fun e w'=>e=.returned (.tuple #[.agg #[.int .i64 (tLeg m i j),.int .i64 (eLeg m i j)],.int .i64 0])∧Below w.heap.size w w':=by
 have W1:Below w.heap.size w ((w.alloc (.cells (Zc m vw vh vr) 26)).alloc (.cells #[.int .i64 0,.int .i64 0] 159)):=((Below.refl _ _).alloc (Nat.le_refl _) _).alloc (by first | omega | (simp;done) | (simp;omega)) _
 have hl:=Z3E m vw vh vr i j _ ((hm.below W1).mono W1.size);rw [Z3D hV hi hj] at hl;have hl:=Lib.hid hl;have b:=Z3Q ((Zs m).1 hV) hi hj;have x1:IntKind.i64.wrap (m.idle*tLeg m i j)=m.idle*tLeg m i j:=zW2;have x2:IntKind.i64.wrap (m.drive*dLeg m i j)=m.drive*dLeg m i j:=zW2;have x3:IntKind.i64.wrap (m.idle*tLeg m i j+m.drive*dLeg m i j)=m.idle*tLeg m i j+m.drive*dLeg m i j:=zW2;unfold eLeg;generalize tLeg m i j=t at *;generalize dLeg m i j=d at *;generalize gLeg m i j=g at *;have H:=Has.new (w.alloc (.cells (Zc m vw vh vr) 26)) #[.int .i64 0,.int .i64 0] 159;rw [show (w.alloc (.cells (Zc m vw vh vr) 26)).heap.size=w.heap.size+1 by simp] at H
 have H:=Lib.hid H;clear hm hV W1 b;unfold Zc at *;go_enter Tryz.func134,Tryz.ntmps134;go_wp2_with (go_at_call 20;refine (hl.out).mono ?_;rintro e w1 ⟨rfl,hb1⟩;have H1:=H.out.below hb1 (by simp);obtain⟨hc1,hf1⟩:=bcell hb1;have x0:=Zk H1 (i:=0) rfl;have x1:=Zk H1 (i:=1) rfl;have y0:=Ze H1 0;have y1:=Ze H1 1;have hz1:=hb1.size;try simp at hz1)
 have z0:=Zk (H1.set 0 (.int .i64 t)) (i:=0) rfl;have z1:=Zk ((H1.set 0 (.int .i64 t)).set 1 (.int .i64 (m.idle*t+m.drive*d))) (i:=1) rfl;refine bodyPost_ret (v:=.tuple #[.agg #[.int .i64 t,.int .i64 (m.idle*t+m.drive*d)],.int .i64 0]) (by simp [results,Tryz.f134,go_sem,z0,z1]) rfl ⟨rfl,?_⟩
 repeat (first | exact Below.refl _ _ | assumption | apply Below.drew | refine Below.setCell ?_ (by first | omega | (simp;done) | (simp;omega)) _ | refine Below.alloc ?_ (by first | omega | (simp;done) | (simp;omega)) _ | refine Below.call (by assumption) ?_ (by first | omega | (simp;done) | (simp;omega)))
structure Only (b:Nat) (w w':World):Prop where
 os:w'.os=w.os
 tape:w'.tape=w.tape
 output:w'.output=w.output
 size:w.heap.size≤w'.heap.size
 block:∀ k,k<w.heap.size→k≠b→w'.heap[k]?=w.heap[k]?
theorem Only.of_below {b:Nat} {w w':World} (h:Below w.heap.size w w'):Only b w w':=⟨h.os,h.tape,h.output,h.size,fun k hk _=>h.block k hk⟩
theorem Only.trans {b:Nat} {x y z:World} (h:Only b x y) (k:Only b y z):Only b x z :=
 ⟨k.os.trans h.os,k.tape.trans h.tape,k.output.trans h.output,Nat.le_trans h.size k.size,fun i hi hne=>(k.block i (Nat.lt_of_lt_of_le hi h.size) hne).trans (h.block i hi hne)⟩
theorem Only.below {b n:Nat} {w w':World} (h:Only b w w') (hn:n≤b) (hw:n≤w.heap.size):Below n w w':=⟨h.os,h.tape,h.output,h.size,fun k hk=>h.block k (by omega) (by omega)⟩
theorem Only.set {b:Nat} {w w':World} (h:Only b w w') (i:Nat) (v:Value):Only b w (w'.setCell ⟨b,i,none⟩ v) :=
 ⟨h.os,h.tape,h.output,by simpa [World.setCell] using h.size,fun k hk hne=>(Below.heap_setCell w' ⟨b,i,none⟩ v k hne).trans (h.block k hk hne)⟩
def spentCells (m:Msn) (vw vh vr:Value) (t e:Int):Array Value :=
 #[.int .i64 t,.int .i64 e,vw,vh,.int .i64 m.start,vr,.int .i64 m.speed,.int .i64 m.part,.int .i64 m.flow,.int .i64 m.idle,.int .i64 m.drive,.int .i64 m.battery,.int .i64 m.deadline]
theorem Z8z (B:Nat) (m:Msn) (vw vh vr:Value) (t e t2 e2:Int) (w:World) (H:w.heap[B]?=some (.cells (spentCells m vw vh vr t e) 161 (0,0)))
  (ht:IntKind.i64.wrap (t+t2)=t+t2) (he:IntKind.i64.wrap (e+e2)=e+e2) :
  Calls Tryz.prog 135 #[.pointer (some ⟨B,0,none⟩),.agg #[.int .i64 t2,.int .i64 e2]] w fun r w'=>(∃ v,r=.returned v)∧w'.heap[B]?=some (.cells (spentCells m vw vh vr (t+t2) (e+e2)) 161 (0,0))∧Only B w w':=by
 have hlt:=(Array.getElem?_eq_some_iff.1 H).1;have c0:w.cell? ⟨B,0,none⟩=some (.int .i64 t):=Zk H (i:=0) rfl;have c1:w.cell? ⟨B,1,none⟩=some (.int .i64 e):=Zk H (i:=1) rfl;have f0:=Ze H 0;have f1:=Ze H 1;have HH:=Lib.hid H;clear H;go_enter Tryz.func135,Tryz.ntmps135;go_wp2
 go_region
 all_goals go_wp2
 all_goals go_end0
 all_goals refine⟨⟨_,rfl⟩,(((Has.set (Has.set HH.out 0 _) 1 _).below ((Below.refl (B+1) _).alloc (by simp [World.setCell];omega) _) (by omega)):_),⟨rfl,rfl,rfl,by simp [World.setCell],fun k hk hne=>?_⟩⟩
 all_goals
  refine (((Below.refl _ _).alloc (Nat.le_refl _) _).block k (by simpa [World.setCell] using hk):_=(World.setCell (World.setCell w ⟨B,0,none⟩ (.int .i64 (t+t2))) ⟨B,1,none⟩ (.int .i64 (e+e2))).heap[k]?).trans ?_
  exact (((Only.of_below (Below.refl _ w)).set 0 _).set 1 _).block k hk hne
theorem Z4T {W:World} {B:Nat} {m:Msn} {vw vh vr:Value} {t e:Int} {T:TypeId} (H:W.heap[B]?=some (.cells (spentCells m vw vh vr t e) T (0,0))):W.cell? ⟨B,2,none⟩=some vw∧W.cell? ⟨B,3,none⟩=some vh∧W.cell? ⟨B,4,none⟩=some (.int .i64 m.start)∧W.cell? ⟨B,5,none⟩=some vr∧W.cell? ⟨B,6,none⟩=some (.int .i64 m.speed)∧W.cell? ⟨B,7,none⟩=some (.int .i64 m.part)∧W.cell? ⟨B,8,none⟩=some (.int .i64 m.flow)∧W.cell? ⟨B,9,none⟩=some (.int .i64 m.idle)∧W.cell? ⟨B,10,none⟩=some (.int .i64 m.drive)∧W.cell? ⟨B,11,none⟩=some (.int .i64 m.battery)∧W.cell? ⟨B,12,none⟩=some (.int .i64 m.deadline) :=
 ⟨Zk H (i:=2) rfl,Zk H (i:=3) rfl,Zk H (i:=4) rfl,Zk H (i:=5) rfl,Zk H (i:=6) rfl,Zk H (i:=7) rfl,Zk H (i:=8) rfl,Zk H (i:=9) rfl,Zk H (i:=10) rfl,Zk H (i:=11) rfl,Zk H (i:=12) rfl⟩
def SpentQ (B:Nat) (m:Msn) (vw vh vr:Value) (t e:Int) (w:World) (r:Ending) (w':World):Prop :=
 (∃ v,r=.returned v)∧w'.heap[B]?=some (.cells (spentCells m vw vh vr t e) 161 (0,0))∧Only B w w'
theorem Z7X (B:Nat) (m:Msn) (vw vh vr:Value) (t e:Int) (i j:Nat) (w:World) (H:w.heap[B]?=some (.cells (spentCells m vw vh vr t e) 161 (0,0)))
  (hm:MsnAt w.heap.size w m vw vh vr) (hV:validB m=true) (hi:i<m.ways.length) (hj:j<m.ways.length) (t1:0≤t) (t2:t≤1000000000000000) (e1:0≤e) (e2:e≤1000000000000000) :
  Calls Tryz.prog 114 #[.pointer (some ⟨B,0,none⟩),.int .i64 i,.int .i64 j] w (SpentQ B m vw vh vr (t+tLeg m i j) (e+eLeg m i j) w):=by
 have hlt:=(Array.getElem?_eq_some_iff.1 H).1;have V:=(Zs m).1 hV;have tb:=Z3u V.leg V.ways hi hj;have eb:=Z3Q V hi hj;have hl:=Z8Q m vw vh vr i j w hm hV hi hj;have ht:IntKind.i64.wrap (t+tLeg m i j)=t+tLeg m i j:=zW2;have he:IntKind.i64.wrap (e+eLeg m i j)=e+eLeg m i j:=zW2;generalize tLeg m i j=dt at *;generalize eLeg m i j=de at *;have hl:=Lib.hid hl;have HW:=Lib.hid (And.intro ht he);obtain⟨c2,c3,c4,c5,c6,c7,c8,c9,c10,c11,c12⟩:=Z4T H;have HH:=Lib.hid H;clear H hm hV V ht he tb eb;unfold Zc at hl;go_enter Tryz.func114,Tryz.ntmps114;go_wp2_with fail;refine hl.out.mono ?_;rintro r w1 ⟨rfl,hb1⟩;have H1:=(hb1.block B hlt).trans HH.out;have H1':=Lib.hid H1;clear c2 c3 c4 c5 c6 c7 c8 c9 c10 c11 c12;have z1:=hb1.size;have HB1:=Lib.hid hb1;clear hb1 H1;go_wp2;have N2:=Has.new w1 #[.int .i64 dt,.int .i64 de] 159;have n0:=Low.fact (N2.cell (i:=0) rfl);have n1:=Low.fact (N2.cell (i:=1) rfl);have HN:=Lib.hid N2;clear N2
 (refine (wpIn_wide (n:=9)).1 ?_;refine Zl (Zj _) 4 (by kernel_rfl) (by kernel_rfl) (by kernel_rfl) ?_;simp only [List.take_succ_cons,List.take_zero,List.drop_succ_cons,List.drop_zero];(iterate 4 (apply Zf;(case hw=>rfl);(case hval=>(intro w1 hw1;have hcx:=Low.cells hw1;simp only [Oper.quietAt];go_simp;first | done | rfl | exact⟨rfl,rfl⟩));simp only [Act.put,zq4,zr4,zs4]));refine wpQuiet_nil ?_;intro w2 hw2)
 have B2:=Lib.hid (((Below.refl _ w1).alloc (Nat.le_refl _) (.cells #[.int .i64 dt,.int .i64 de] 159)).trans (hw2.out.mono (by simp)))
 have H2:=(B2.out.block B (by omega)).trans H1'.out
 have H2':=Lib.hid H2;clear H2 hw2 n0 n1
 gi_wp2_with (refine⟨trivial,?_⟩;gi_at_call 135;refine (callsIn_wide.2 (Z8z B m vw vh vr t e dt de _ H2'.out HW.out.1 HW.out.2)).mono ?_;rintro r w3 ⟨⟨v,rfl⟩,hH3,hO3⟩)
 have HO:=Lib.hid (And.intro hH3 (((Only.of_below HB1.out).trans (Only.of_below B2.out)).trans hO3));clear hH3 hO3;go_wp2;go_end0;exact⟨⟨_,rfl⟩,HO.out.1,HO.out.2⟩
theorem Z5G (B:Nat) (m:Msn) (vw vh vr:Value) (t e:Int) (i:Nat) (w:World) (H:w.heap[B]?=some (.cells (spentCells m vw vh vr t e) 161 (0,0)))
  (hm:MsnAt w.heap.size w m vw vh vr) (hV:validB m=true) (hi:i<m.ways.length) (t1:0≤t) (t2:t≤1000000000000000) (e1:0≤e) (e2:e≤1000000000000000) :
  Calls Tryz.prog 133 #[.pointer (some ⟨B,0,none⟩),.int .i64 i] w (SpentQ B m vw vh vr (t+(wy m.ways i).wait) (e+m.idle*(wy m.ways i).wait) w):=by
 have hlt:=(Array.getElem?_eq_some_iff.1 H).1;have V:=(Zs m).1 hV;have wb:=ZR (Z0u V.ways hi);have mb:=Z00 (a:=m.idle) (b:=(wy m.ways i).wait) (m:=1000) (n:=100000) (by have:=V.idle;omega) (by have:=V.idle;omega) (by omega) (by omega)
 have mn:=Int.mul_nonneg V.idle.1 wb.2.2.2.2.2.2.1;have x1:IntKind.i64.wrap (m.idle*(wy m.ways i).wait)=m.idle*(wy m.ways i).wait:=zW2;have ht:IntKind.i64.wrap (t+(wy m.ways i).wait)=t+(wy m.ways i).wait:=zW2;have he:IntKind.i64.wrap (e+m.idle*(wy m.ways i).wait)=e+m.idle*(wy m.ways i).wait:=zW2;obtain⟨b,o,cap,rfl,hb,hc2⟩:=hm.1.cells (by omega)
 have u3:=(hc2 i hi).2.2.2.1;have HW:=Lib.hid (And.intro ht he);have hil:(i:Int)<m.ways.length:=by omega
 have i0:(0:Int)≤i:=by omega
 generalize (wy m.ways i).wait=q at *;have cl2:w.cell? ⟨B,2,none⟩=some (.slice (some ⟨b,o,none⟩) m.ways.length (m.ways.length+cap)):=Zk H (i:=2) rfl;have cl9:w.cell? ⟨B,9,none⟩=some (.int .i64 m.idle):=Zk H (i:=9) rfl;have l9:=Low.fact cl9;have HH:=Lib.hid H;clear H hm hV V ht he wb mb mn hc2 cl9;go_enter Tryz.func133,Tryz.ntmps133;go_wp2
 (refine (wpIn_wide (n:=9)).1 ?_;refine Zl (Zj _) 12 (by kernel_rfl) (by kernel_rfl) (by kernel_rfl) ?_;simp only [List.take_succ_cons,List.take_zero,List.drop_succ_cons,List.drop_zero];(iterate 12 (apply Zf;(case hw=>rfl);(case hval=>(intro w1 hw1;have hcx:=Low.cells hw1;simp only [Oper.quietAt];go_simp;first | done | rfl | exact⟨rfl,rfl⟩));simp only [Act.put,zq4,zr4,zs4]));refine wpQuiet_nil ?_;intro w2 hw2)
 have H2:=(hw2.out.block B hlt).trans HH.out;have H2':=Lib.hid H2;have B2:=Lib.hid hw2.out;clear H2 hw2 l9
 gi_wp2_with (refine⟨trivial,?_⟩;gi_at_call 135;refine (callsIn_wide.2 (Z8z B m _ vh vr t e q (m.idle*q) _ H2'.out HW.out.1 HW.out.2)).mono ?_;rintro r w3 ⟨⟨v,rfl⟩,hH3,hO3⟩)
 have HO:=Lib.hid (And.intro hH3 ((Only.of_below B2.out).trans hO3));clear hH3 hO3;go_wp2;go_end0;exact⟨⟨_,rfl⟩,HO.out.1,HO.out.2⟩
end
section
attribute [local irreducible] wpQuiet
open Go.RowKit Go.Maps
theorem keyInt:Keyed Tryz.prog 3:=int_keyed Tryz.underlying3
theorem zeroBool (w:World):(zeroValue 4).run Tryz.prog w=.ok (.bool false) w:=by kernel_rfl
def SetAt (W:World) (b:Nat) (l:List Int):Prop:=∃ (n:Nat) (D:DataW Unit),W.ownsMap Tryz.prog 3 (plainElem Tryz.prog 4) b n D∧n≤l.length∧(∃ es,D=.map es)∧∀ k:Int,(Lit.int .i64 k).wf=true→D.atKey (.int .i64 k) (.lit (.bool false))=.lit (.bool (decide (k ∈ l)))
theorem SetAt.made (w:World):SetAt (w.alloc (.map #[] 0)) w.heap.size []:=⟨0,_,World.ownsMap_made _ _ _ _,Nat.le_refl _,⟨[],rfl⟩,fun k _=>by simp [DataW.atKey]⟩
theorem SetAt.kept {W W':World} {row:Option Nat} {b:Nat} {l:List Int} (h:SetAt W b l) (hg:W.grownBy W' row) (hne:some b≠row):SetAt W' b l:=by
 obtain⟨n,D,h1,h2,h3,h4⟩:=h;exact⟨n,D,h1.kept hg hne,h2,h3,h4⟩
theorem SetAt.lt {W:World} {b:Nat} {l:List Int} (h:SetAt W b l):b<W.heap.size:=by obtain⟨n,D,h1,_⟩:=h;exact h1.lt
theorem SetAt.block {W W':World} {b:Nat} {l:List Int} (h:SetAt W b l) (hb:W'.heap[b]?=W.heap[b]?):SetAt W' b l:=by
 obtain⟨n,D,⟨es,clock,h0,F,hs,hD⟩,h2,h3,h4⟩:=h;exact⟨n,D,⟨es,clock,hb.trans h0,F,hs,hD⟩,h2,h3,h4⟩
theorem SetAt.look {W:World} {b:Nat} {l:List Int} (h:SetAt W b l) {k:Int} (hk:(Lit.int .i64 k).wf=true):(Instr.lookup 83 (.map (some b)) (.int .i64 k) false).run Tryz.prog W=.ok (.bool (decide (k ∈ l))) W:=by
 obtain⟨n,D,h1,_,_,h4⟩:=h;obtain⟨v,ps,hrun,hv⟩:=h1.lookup keyInt Tryz.underlying83 (zeroBool W) (plainElem_bool Tryz.underlying4 false) (keyOf_int_mk Tryz.underlying3 hk);rw [h4 k hk] at hv;rw [hrun];unfold plainElem at hv;rw [Tryz.underlying4] at hv;cases v <;> simp_all
def prevS (l:List Int) (k:Nat):Int:=if k=0 then 0 else l.getD (k-1) 0
def stopOk (m:Msn) (l:List Int) (k:Nat):Prop:=prevS l k<l.getD k 0∧l.getD k 0<m.ways.length∧(wy m.ways (l.getD k 0).toNat).fix≠0
instance (m:Msn) (l:List Int) (k:Nat):Decidable (stopOk m l k):=by unfold stopOk;infer_instance
def stopsB (m:Msn) (l:List Int):Bool:=decide (∀ k,k<l.length→stopOk m l k)
theorem Z0q {m:Msn} {l:List Int} {k:Nat} (hk:k<l.length) (h:¬ stopOk m l k):stopsB m l=false:=by
 simp only [stopsB,decide_eq_false_iff_not];intro h2;exact h (h2 k hk)
theorem Z0J {m:Msn} {l:List Int} {k:Nat} (h:∀ j,j<k→stopOk m l j):∀ j,j≤k→0≤prevS l j
 | 0,_=>by simp [prevS]
 | j + 1, hj => by
  have ih:=Z0J h j (by omega)
  have:=(h j (by omega)).1
  simp only [prevS,Nat.add_one_ne_zero,if_false,Nat.add_sub_cancel];omega
def SetQ (l:List Int) (w:World) (e:Ending) (w':World):Prop:=∃ b,e=.returned (.tuple #[.map (some b),.bool true])∧SetAt w' b l∧w.heap.size≤b∧Below w.heap.size w w'
theorem SetAt.put {b:Nat} {l:List Int} {s:Int} (hs:(Lit.int .i64 s).wf=true) {n:Nat} {D:DataW Unit} {W':World} (hn:n≤l.length) (hm:∃ es,D=.map es)
  (hat:∀ k:Int,(Lit.int .i64 k).wf=true→D.atKey (.int .i64 k) (.lit (.bool false))=.lit (.bool (decide (k ∈ l))))
  (h:W'.ownsMap Tryz.prog 3 (plainElem Tryz.prog 4) b (n+1) (D.put (.int .i64 s) (.lit (.bool true)))):SetAt W' b (l++[s]):=by
 refine⟨n+1,_,h,by simp;omega,?_,fun k hk=>?_⟩
 ·obtain⟨es,rfl⟩:=hm;exact IsMap.put ⟨es,rfl⟩ _ _
 ·by_cases e:k=s
  ·subst e
   rw [atKey_put_same hm (by trivial)]
   simp
  ·rw [atKey_put_other (by intro h;injection h with _ h2;exact e h2),hat k hk]
   simp [e]
def SetsQ (m:Msn) (l:List Int) (w:World) (e:Ending) (w':World):Prop :=
 (stopsB m l=false∧e=.returned (.tuple #[.map none,.bool false])∧Below w.heap.size w w')∨(stopsB m l=true∧SetQ l w e w')
theorem Z2B {n:Int} (h1:-9223372036854775808≤n) (h2:n≤9223372036854775807):(Lit.int .i64 n).wf=true:=by
 simp [Lit.wf,IntKind.min,IntKind.max,IntKind.signed,IntKind.bits];omega
theorem Z9N (m : Msn) (vw vh vr vl : Value) (l : List Int) (w : World) (hw : WaysAt w.heap.size w vw m.ways) (hl : Z9 w.heap.size w vl l) :
  Calls Tryz.prog 112 #[.agg (Zc m vw vh vr),vl] w (SetsQ m l w):=by
 obtain⟨hll,al,capl,rfl,hlc⟩:=hl;obtain⟨hwl,aw,capw,rfl,hwc⟩:=hw;have H0:=Has.new w (Zc m (.slice aw m.ways.length (m.ways.length+capw)) vh vr) 26;have hS0:=SetAt.made (w.alloc (.cells (Zc m (.slice aw m.ways.length (m.ways.length+capw)) vh vr) 26));rw [World.size_alloc] at hS0;have H1:=H0.below ((Below.refl (w.heap.size+1) _).alloc (by simp) (.map #[] 0)) (by omega)
 have H1':=Lib.hid H1;have S1':=Lib.hid hS0;have hlH:=Lib.hid hlc;have hwH:=Lib.hid hwc;have hmm:=@run_makeMap Tryz.prog;clear hlc hwc H0 H1 hS0;unfold Zc at *;go_enter Tryz.func112,Tryz.ntmps112;go_wp2;clear hmm
 go_loopw [7,13] (fun s i wr=>∃ k:Nat,k≤l.length∧i=.int .i64 k∧s=.int .i64 (prevS l k)∧(∀ j,j<k→stopOk m l j)∧SetAt wr (w.heap.size+1) (l.take k)∧Has wr w.heap.size (Zc m (.slice aw m.ways.length (m.ways.length+capw)) vh vr) 26∧Below w.heap.size w wr) (fun _ i _=>l.length-(intOf i).toNat)
 case atStart=>exact⟨0,by omega,rfl,rfl,fun j hj=>by omega,S1'.out,H1'.out,((Below.refl _ _).alloc (Nat.le_refl _) _).alloc (by first | omega | (simp;done) | (simp;omega)) _⟩
 case round =>
  obtain⟨k,hk,rfl,rfl,hall,hS,H,hB⟩:=hrel;have hzr:=hB.size;have hlt1:=H.lt;have hall':=Lib.hid hall;have HH:=Lib.hid H;have cc:wr.cell? ⟨w.heap.size,0,none⟩=some (.slice aw m.ways.length (m.ways.length+capw)):=H.cell (i:=0) rfl;have hp:=Z0J hall k (Nat.le_refl _);have HS:=Lib.hid hS;clear hall H hS;by_cases hlt:k<l.length
  ·obtain ⟨bl, ol, rfl, hbl, hcl⟩ : ∃ b1 o1, al = some ⟨b1, o1, none⟩ ∧ b1 < w.heap.size ∧ ∀ j, j < l.length → w.cell? ⟨b1, o1 + j, none⟩ = some (.int .i64 (l.getD j 0)) := by
    rcases hlH.out with h | h
    ·rw [h] at hlt;simp at hlt
    ·exact h
   have f1:=(hB.cell (p:=⟨bl,ol+k,none⟩) hbl).trans (hcl k hlt);have hsk:prevS l (k+1)=l.getD k 0:=by simp [prevS]
   have htk:l.take (k+1)=l.take k++[l.getD k 0]:=by
    rw [List.take_succ_eq_append_getElem hlt];simp [List.getD,List.getElem?_eq_getElem hlt]
   have hok:stopOk m l k↔prevS l k<l.getD k 0∧l.getD k 0<m.ways.length∧(wy m.ways (l.getD k 0).toNat).fix≠0:=Iff.rfl;clear hcl;obtain⟨s,hs⟩:∃ s,l.getD k 0=s:=⟨_,rfl⟩;obtain⟨p0,hp0⟩:∃ p0,prevS l k=p0:=⟨_,rfl⟩;rw [hs] at f1 hsk htk hok;rw [hp0] at hp hok ⊢;have HK:=Lib.hid (And.intro hsk (And.intro htk hs));have HO:=Lib.hid hok;clear hsk htk hs hp0 hok;by_cases h1:p0<s
   ·have d1 : decide (s ≤ p0) = false := by simp; omega
    by_cases h2:s<m.ways.length
    ·have d2:decide ((m.ways.length:Int)≤s)=false:=by simp;omega
     obtain⟨q,rfl⟩:∃ q:Nat,s=q:=⟨s.toNat,by omega⟩
     obtain⟨bw,ow,rfl,hbw,hcw⟩:∃ b o,aw=some ⟨b,o,none⟩∧b<w.heap.size∧∀ j,j<m.ways.length→w.cell? ⟨b,o+j*5,none⟩=some (.int .i64 (wy m.ways j).x)∧w.cell? ⟨b,o+j*5+1,none⟩=some (.int .i64 (wy m.ways j).y)∧w.cell? ⟨b,o+j*5+2,none⟩=some (.int .i64 (wy m.ways j).fix)∧w.cell? ⟨b,o+j*5+3,none⟩=some (.int .i64 (wy m.ways j).wait)∧w.cell? ⟨b,o+j*5+4,none⟩=some (.int .i64 (wy m.ways j).back):=by
      rcases hwH.out with h | h
      ·rw [h] at h2;simp at h2;omega
      ·exact h
     have f2:=(hB.cell (p:=⟨bw,ow+q*5+2,none⟩) hbw).trans (hcw q (by omega)).2.2.1
     clear hcw;have hql:q<m.ways.length:=by omega
     have HO2:=HO.out;rw [Int.toNat_natCast] at HO2;have HOO:=Lib.hid HO2;clear HO2;by_cases h3:(wy m.ways q).fix=0
     ·have hno:Hid (stopsB m l=false):=Z0q hlt (fun h=>(HOO.out.1 h).2.2 h3)
      rw [h3] at f2;clear h3;go_wp2;go_ret2;exact .inl ⟨hno.out,rfl,hB⟩
     ·have d3:((wy m.ways q).fix == 0)=false:=by simpa using h3
      have hyes:Hid (stopOk m l k):=HOO.out.2 ⟨h1,h2,h3⟩;obtain⟨n,D,hown,hn,hmp,hat⟩:=HS.out;have HAT:=Lib.hid hat;have HMP:=Lib.hid hmp;have hn2:n≤70368744177663:=by have:=List.length_take_le k l;omega
      have HN:=Lib.hid hn;have hwf:(Lit.int .i64 (q:Int)).wf=true:=Z2B (by omega) (by omega)
      clear h3 hat hmp hn;go_wp2_with (at_mapUpdate;refine wpList_mapUpdate_own _ rfl _ _ _ 83 rfl 3 4 keyInt Tryz.underlying83 _ (w.heap.size+1) n D rfl hown (by unfold maxLen;omega) _ _ (.int .i64 (q:Int)) rfl rfl (keyOf_int_mk Tryz.underlying3 hwf) (.lit (.bool true)) [] (plainElem_bool Tryz.underlying4 true) ?_;intro w1 hown1 hgrow1)
      go_roundw
      case rel =>
       have hB1:Below w.heap.size w w1:=hB.grown hgrow1 (by omega) (fun j e=>by cases e;omega)
       have hb2:Below (w.heap.size+1) wr w1:=(Below.refl _ wr).grown hgrow1 (by omega) (fun j e=>by cases e;omega)
       refine⟨k+1,by omega,by go_num,by rw [HK.out.1],fun j hj=>?_,?_,HH.out.below hb2 (by omega),hB1⟩
       ·by_cases e:j=k
        ·rw [e];exact hyes.out
        ·exact hall'.out j (by omega)
       ·rw [HK.out.2.1]
        exact SetAt.put hwf HN.out HMP.out HAT.out hown1
      case measure=>simp [intOf];omega
    ·have d2:decide ((m.ways.length:Int)≤s)=true:=by simp;omega
     have hno:Hid (stopsB m l=false):=Z0q hlt (fun h=>h2 (HO.out.1 h).2.1)
     go_wp2;go_ret2;exact .inl ⟨hno.out,rfl,hB⟩
   ·have d1:decide (s≤p0)=true:=by simp;omega
    have hno:Hid (stopsB m l=false):=Z0q hlt (fun h=>h1 (HO.out.1 h).1)
    go_wp2;go_ret2;exact .inl ⟨hno.out,rfl,hB⟩
  ·obtain rfl:k=l.length:=by omega
   have hyes:Hid (stopsB m l=true):=by
    show stopsB m l=true
    simp only [stopsB,decide_eq_true_eq];exact hall'.out
   have hd:decide ((l.length:Int)<(l.length:Int))=false:=by simp
   go_wp2;go_ret2;refine .inr ⟨hyes.out,_,rfl,?_,by omega,hB⟩
   have:=HS.out
   rwa [List.take_length] at this
end
section
attribute [local go_sem] Oper.semAt_some
attribute [local irreducible] wpQuiet
open Go.RowKit Go.Shelf
def waitT (m:Msn) (l:List Int) (k:Nat):Int:=if (k:Int) ∈ l then (wy m.ways k).wait else 0
def usT (m:Msn) (l:List Int):Nat→Int
 | 0=>0
 | k+1=>usT m l k+waitT m l k+tLeg m k (k+1)
def usE (m:Msn) (l:List Int):Nat→Int
 | 0=>0
 | k+1=>usE m l k+m.idle*waitT m l k+eLeg m k (k+1)
def hdT (m:Msn) (l:List Int):Nat→Int
 | 0=>0
 | k+1=>usT m l k+waitT m l k
def hdE (m:Msn) (l:List Int):Nat→Int
 | 0=>0
 | k+1=>usE m l k+m.idle*waitT m l k
theorem Z70 {m:Msn} (V:VMsn m) (l:List Int) {k:Nat} (hk:k<m.ways.length):0≤waitT m l k∧waitT m l k≤100000∧0≤m.idle*waitT m l k∧m.idle*waitT m l k≤100000000:=by
 have wb:=ZR (Z0u V.ways hk);have h:0≤waitT m l k∧waitT m l k≤100000:=by unfold waitT;split <;> omega
 have h1:=Int.mul_nonneg V.idle.1 h.1;have h2:=Int.mul_le_mul V.idle.2 h.2 h.1 (by omega)
 omega
theorem Z2j {m:Msn} (V:VMsn m) (l:List Int):∀ k,k<m.ways.length→0≤usT m l k∧usT m l k≤k*100000000∧0≤usE m l k∧usE m l k≤k*100000000000
 | 0,_=>by simp [usT,usE]
 | k + 1, h => by
  have ih:=Z2j V l k (by omega)
  have w:=Z70 V l (k:=k) (by omega)
  have t:=Z3u V.leg V.ways (i:=k) (j:=k+1) (by omega) h
  have e:=Z3Q V (i:=k) (j:=k+1) (by omega) h
  simp only [usT,usE];omega
theorem hd_bd {m:Msn} (V:VMsn m) (l:List Int):∀ k,k≤m.ways.length→0≤hdT m l k∧hdT m l k≤k*100000000∧0≤hdE m l k∧hdE m l k≤k*100000000000
 | 0,_=>by simp [hdT,hdE]
 | k + 1, h => by
  have u:=Z2j V l k (by omega)
  have w:=Z70 V l (k:=k) (by omega)
  simp only [hdT,hdE];omega
theorem Z2Z (m:Msn) (l:List Int):∀ k,usT m l (k+1)=hdT m l (k+1)+tLeg m k (k+1)∧usE m l (k+1)=hdE m l (k+1)+eLeg m k (k+1):=fun _=>⟨rfl,rfl⟩
theorem Z8C (m:Msn) (vw vh vr:Value) (bm:Nat) (w:World) :
  Calls Tryz.prog 113 #[.agg (Zc m vw vh vr),.map (some bm)] w fun e w'=>e=.returned (.func (.func 132) #[] #[.pointer (some ⟨w.heap.size,0,none⟩),.pointer (some ⟨w.heap.size+1,0,none⟩)])∧(w.alloc (.cells (Zc m vw vh vr) 26)).alloc (.cells #[.map (some bm)] 83)=w':=by
 unfold Zc;go_enter Tryz.func113,Tryz.ntmps113;go_wp2;go_ret;exact⟨rfl,rfl⟩
theorem Only.move {b:Nat} {own:Nat→Prop} {A C:World} (h:Only b A C) (ho:own b) (hc:∃ o:Obj,A.heap[b]?=some o∧o.isCells=true):MoveM own A C:=MoveM.one ho hc h.os h.tape h.output h.size h.block
def encW (m:Msn) (l:List Int) (x:Nat):Array Value:=#[.int .i64 (x:Int),.agg #[.int .i64 (usT m l x),.int .i64 (usE m l x)]]
theorem MsnAt.blocks {n0:Nat} {A B:World} {m:Msn} {vw vh vr:Value} (h:MsnAt n0 A m vw vh vr) (hs:A.heap.size≤B.heap.size) (hb:∀ b,b<n0→B.heap[b]?=A.heap[b]?):MsnAt n0 B m vw vh vr :=
 by
 have hB:Below n0 A { A with heap:=B.heap }:=⟨rfl,rfl,rfl,hs,hb⟩
 exact h.below hB
theorem Z8D (n : Nat) (hn : 1 ≤ n) (p : Nat → Prop) (m : Msn) (vw vh vr : Value) (l : List Int) (Bm Bs bm n0 : Nat) (W : World) (lp : Nat) (hV : validB m = true)
  (hm:MsnAt n0 W m vw vh vr) (hn0:n0≤W.heap.size) (hset:SetAt W bm l) (HM:Has W Bm (Zc m vw vh vr) 26) (HS:Boxed W Bs 83 (.map (some bm)))
  (p0:p W.heap.size) (p2:p Bs) (p3:p bm) (p4:∀ b,b<n0→p b) (J Jx:List Nat→World→Prop)
  (hJ:∀ s A B,J s A→MoveM (fun r=>r=W.heap.size) A B→J s B)
  (hY:∀ (pre:List Nat) (x:Nat) W1,J pre W1→pre.length<m.ways.length→W.heap.size+1≤W1.heap.size→YieldAt Fence.wide (n-1) Tryz.prog lp (encW m l x) W1 fun e W' =>
   (e=.returned (.bool true)∧J (pre++[x]) W'∧KeepsP p W1 W')∨(e=.returned (.bool false)∧Jx (pre++[x]) W')) (h0:J [] W) :
  CallsIn Fence.wide n Tryz.prog 132 #[.func (.yield lp) #[] #[],.pointer (some ⟨Bm,0,none⟩),.pointer (some ⟨Bs,0,none⟩)] W fun e W'=>(∃ v,e=.returned v) ∧
   ((∃ ys,ys=upto id m.ways.length∧J ys W')∨(∃ pre,(∃ j,j≤m.ways.length∧pre=upto id j)∧Jx pre W')):=by
 have V:=(Zs m).1 hV;have n41:=V.n41;have HM0:=Lib.hid hm;obtain⟨⟨_,a1,cap1,rfl,_⟩,⟨_,a2,cap2,rfl,_⟩,⟨_,a3,cap3,rfl,_⟩⟩:=hm;obtain⟨c0,c1,c2,c3,c4,c5,c6,c7,c8,c9,c10⟩:=Zi HM;have HV:=Lib.hid (And.intro hV V);have HMB:=Lib.hid HM;have HSB:=Lib.hid HS;have HSET:=Lib.hid hset;have HJ0:=Lib.hid (hJ _ _ _ h0 (MoveM.alloc _ W (.cells (spentCells m (.slice a1 m.ways.length (m.ways.length+cap1)) (.slice a2 m.home.length (m.home.length+cap2)) (.slice a3 m.rocks.length (m.rocks.length+cap3)) 0 0) 161)));have HSP:=Lib.hid (Has.new W (spentCells m (.slice a1 m.ways.length (m.ways.length+cap1)) (.slice a2 m.home.length (m.home.length+cap2)) (.slice a3 m.rocks.length (m.rocks.length+cap3)) 0 0) 161);have hmlt:=HM.lt;have hslt:=HS.lt;have hblt:=hset.lt;clear hV V HM HS hset h0;refine callsIn_of_wp Tryz.func132 rfl trivial ?_ rfl;simp only [Tryz.ntmps132,List.size_toArray,List.length_cons,List.length_nil,Nat.reduceAdd,Nat.reduceSub,Array.replicate_succ,Array.replicate_zero,List.push_toArray,List.append_toArray,List.nil_append,List.cons_append];gi_wp2;have HW0:=Lib.hid (show ∀ b,p b→b≠W.heap.size→b<W.heap.size→(W.alloc (.cells (spentCells m (.slice a1 m.ways.length (m.ways.length+cap1)) (.slice a2 m.home.length (m.home.length+cap2)) (.slice a3 m.rocks.length (m.rocks.length+cap3)) 0 0) 161)).heap[b]?=W.heap[b]? from fun b _ _ hb=>Below.heap_alloc _ _ _ hb)
 gi_loopw [11] (fun i wr=>∃ k:Nat,k≤m.ways.length∧i=.int .i64 k∧J (upto id k) wr∧wr.heap[W.heap.size]?=some (.cells (spentCells m (.slice a1 m.ways.length (m.ways.length+cap1)) (.slice a2 m.home.length (m.home.length+cap2)) (.slice a3 m.rocks.length (m.rocks.length+cap3)) (hdT m l k) (hdE m l k)) 161 (0,0))∧(∀ b,p b→b≠W.heap.size→b<W.heap.size→wr.heap[b]?=W.heap[b]?)∧W.heap.size+1≤wr.heap.size)
  (fun i _=>m.ways.length-(intOf i).toNat)
 case atStart=>exact⟨0,Nat.zero_le _,rfl,HJ0.out,HSP.out,HW0.out,by simp⟩
 case round =>
  obtain⟨k,hk,rfl,hJs,hsp,hkp,hsz⟩:=hrel;obtain⟨hV,V⟩:=HV.out;have hb:=hd_bd V l k hk;have HKP:=Lib.hid hkp;have HMr:=HM0.out.blocks (B:=wr) (by omega) (fun b hb=>hkp b (p4 b hb) (by omega) (by omega))
  by_cases hlt:k<m.ways.length
  ·have hub:=Z2j V l k hlt
   have d1:decide ((k:Int)<(m.ways.length:Int))=true:=by simp;omega
   have HMH:=Lib.hid (HMr.mono (by omega:n0≤wr.heap.size))
   clear hkp HMr;cases k with
   | zero =>
    have c0:wr.cell? ⟨W.heap.size,0,none⟩=some (.int .i64 (hdT m l 0)):=Zk hsp (i:=0) rfl;have c1:wr.cell? ⟨W.heap.size,1,none⟩=some (.int .i64 (hdE m l 0)):=Zk hsp (i:=1) rfl;have HP2:=Lib.hid (And.intro hsp (Only.of_below (b:=W.heap.size) (Below.refl _ wr)));obtain⟨fn,tmps,assign,body,hy,hR⟩:=hY _ 0 _ hJs (by rw [Zx];omega) hsz
    unfold encW at hy;have hz2:=hsz;clear hsp hJs V hV hb;simp only [usT,usE,hdT,hdE] at hy c0 c1 HP2;simp only [Int.natCast_zero] at *;gi_wp2;refine hR.mono ?_;rintro e W3 (⟨rfl,hJ3,hk3⟩ | ⟨rfl,hJx3⟩)
    ·have hsp3:=(hk3.2 _ p0).trans HP2.out.1
     have hz3:W.heap.size+1≤W3.heap.size:=Nat.le_trans hz2 hk3.1;have hkp3:∀ b,p b→b≠W.heap.size→b<W.heap.size→W3.heap[b]?=W.heap[b]?:=fun b h1 h2 h3=>(hk3.2 b h1).trans (((HP2.out.2.block b (by omega) h2)).trans (HKP.out b h1 h2 h3))
     have hbs:Boxed W3 Bs 83 (.map (some bm)):=(hkp3 Bs p2 (by omega) hslt).trans HSB.out
     have hst:SetAt W3 bm l:=HSET.out.block (hkp3 bm p3 (by omega) hblt)
     have hlook:(Instr.lookup 83 (.map (some bm)) (.int .i64 0) false).run Tryz.prog W3=.ok (.bool (decide (((0:Nat):Int) ∈ l))) W3:=hst.look (k:=(0:Nat)) (Z2B (by omega) (by omega))
     have hM3:=HM0.out.blocks (B:=W3) (by omega) (fun b hb=>hkp3 b (p4 b hb) (by omega) (by omega))
     have cbs:=hbs.cell;have HKP3:=Lib.hid hkp3;have HSP3:=Lib.hid hsp3;have HJ3:=Lib.hid hJ3;have HM3:=Lib.hid (hM3.mono (by omega:n0≤W3.heap.size))
     clear hkp3 hbs hst hM3 hJ3 hk3 hy hR hsp3;by_cases hin:((0:Nat):Int) ∈ l
     ·have dl:decide (((0:Nat):Int) ∈ l)=true:=by simpa using hin
      rw [dl] at hlook;have hwt:Hid (hdT m l (0+1)=usT m l 0+(wy m.ways 0).wait∧hdE m l (0+1)=usE m l 0+m.idle*(wy m.ways 0).wait):=by
       show hdT m l (0+1)=_∧_
       simp only [hdT,hdE,waitT,hin,if_true];exact⟨trivial,trivial⟩
      have hwa:=Lib.hid (Z5G W.heap.size m (.slice a1 m.ways.length (m.ways.length+cap1)) (.slice a2 m.home.length (m.home.length+cap2)) (.slice a3 m.rocks.length (m.rocks.length+cap3)) (usT m l 0) (usE m l 0) 0 W3 HSP3.out HM3.out HV.out.1 (by omega) hub.1 (by omega) hub.2.2.1 (by omega))
      clear hin dl
      gi_wp2_with ((try refine⟨trivial,?_⟩);gi_at_call 133;refine (callsIn_wide.2 hwa.out).mono ?_;rintro r W4 ⟨⟨v,rfl⟩,hsp4,hO4⟩)
      have HP4:=Lib.hid (And.intro hsp4 hO4);clear hsp4 hO4;gi_wp2;go_roundw
      case rel =>
       refine⟨0+1,by omega,by go_num,?_,by rw [hwt.out.1,hwt.out.2];exact HP4.out.1,fun b h1 h2 h3=>(HP4.out.2.block b (by omega) h2).trans (HKP3.out b h1 h2 h3),Nat.le_trans hz3 HP4.out.2.size⟩
       rw [Zv];exact hJ _ _ _ HJ3.out (HP4.out.2.move rfl ⟨_,HSP3.out,rfl⟩)
      case measure=>simp [intOf];omega
     ·have dl:decide (((0:Nat):Int) ∈ l)=false:=by simpa using hin
      rw [dl] at hlook;have hwt:Hid (hdT m l (0+1)=usT m l 0∧hdE m l (0+1)=usE m l 0):=by
       show hdT m l (0+1)=_∧_
       simp only [hdT,hdE,waitT,hin,if_false,Int.mul_zero,Int.add_zero];exact⟨trivial,trivial⟩
      clear hin dl;gi_wp2;go_roundw
      case rel =>
       refine⟨0+1,by omega,by go_num,?_,by rw [hwt.out.1,hwt.out.2];exact HSP3.out,HKP3.out,hz3⟩
       rw [Zv];exact HJ3.out
      case measure=>simp [intOf];omega
    ·gi_wp2
     exact bodyPost_ret (v:=.tuple #[]) (by simp [results,Tryz.f132]) rfl ⟨⟨_,rfl⟩,.inr ⟨_,⟨0+1,by omega,(Zv _ _).symm⟩,hJx3⟩⟩
   | succ j =>
    have hg:=Lib.hid (Z7X W.heap.size m (.slice a1 m.ways.length (m.ways.length+cap1)) (.slice a2 m.home.length (m.home.length+cap2)) (.slice a3 m.rocks.length (m.rocks.length+cap3)) (hdT m l (j+1)) (hdE m l (j+1)) j (j+1) wr hsp HMH.out hV (by omega) hlt hb.1 (by omega) hb.2.2.1 (by omega))
    have HSPr:=Lib.hid hsp;have HJs:=Lib.hid hJs;have d2:decide ((j:Int)+1>0)=true:=by rw [decide_eq_true_eq];omega
    clear hsp hJs V hV hb
    gi_wp2_with ((try refine⟨trivial,?_⟩);gi_at_call 114;refine (callsIn_wide.2 hg.out).mono ?_;rintro r W2 ⟨⟨v,rfl⟩,hsp2,hO2⟩;have c0:W2.cell? ⟨W.heap.size,0,none⟩=some (.int .i64 (hdT m l (j+1)+tLeg m j (j+1))):=Zk hsp2 (i:=0) rfl;have c1:W2.cell? ⟨W.heap.size,1,none⟩=some (.int .i64 (hdE m l (j+1)+eLeg m j (j+1))):=Zk hsp2 (i:=1) rfl;have HP2:=Lib.hid (And.intro hsp2 hO2);have hz2:W.heap.size+1≤W2.heap.size:=Nat.le_trans hsz hO2.size;obtain⟨fn,tmps,assign,body,hy,hR⟩:=hY _ (j+1) _ (hJ _ _ _ HJs.out (hO2.move rfl ⟨_,HSPr.out,rfl⟩)) (by rw [Zx];omega) hz2;unfold encW at hy;rw [show (((j+1:Nat)):Int)=(j:Int)+1 by omega,(Z2Z m l j).1,(Z2Z m l j).2] at hy;clear hsp2 hO2)
    gi_wp2;refine hR.mono ?_;rintro e W3 (⟨rfl,hJ3,hk3⟩ | ⟨rfl,hJx3⟩)
    ·have hsp3:=(hk3.2 _ p0).trans HP2.out.1
     have hz3:W.heap.size+1≤W3.heap.size:=Nat.le_trans hz2 hk3.1;have hkp3:∀ b,p b→b≠W.heap.size→b<W.heap.size→W3.heap[b]?=W.heap[b]?:=fun b h1 h2 h3=>(hk3.2 b h1).trans (((HP2.out.2.block b (by omega) h2)).trans (HKP.out b h1 h2 h3))
     have hbs:Boxed W3 Bs 83 (.map (some bm)):=(hkp3 Bs p2 (by omega) hslt).trans HSB.out
     have hst:SetAt W3 bm l:=HSET.out.block (hkp3 bm p3 (by omega) hblt)
     have hlook:(Instr.lookup 83 (.map (some bm)) (.int .i64 ((j:Int)+1)) false).run Tryz.prog W3=.ok (.bool (decide (((j+1:Nat):Int) ∈ l))) W3:=hst.look (k:=((j+1):Nat)) (Z2B (by omega) (by omega))
     have hM3:=HM0.out.blocks (B:=W3) (by omega) (fun b hb=>hkp3 b (p4 b hb) (by omega) (by omega))
     have cbs:=hbs.cell;have HKP3:=Lib.hid hkp3;have HSP3:=Lib.hid hsp3;have HJ3:=Lib.hid hJ3;have HM3:=Lib.hid (hM3.mono (by omega:n0≤W3.heap.size))
     clear hkp3 hbs hst hM3 hJ3 hk3 hy hR hsp3;by_cases hin:(((j+1):Nat):Int) ∈ l
     ·have dl:decide ((((j+1):Nat):Int) ∈ l)=true:=by simpa using hin
      rw [dl] at hlook;have hwt:Hid (hdT m l ((j+1)+1)=usT m l (j+1)+(wy m.ways (j+1)).wait∧hdE m l ((j+1)+1)=usE m l (j+1)+m.idle*(wy m.ways (j+1)).wait):=by
       show hdT m l ((j+1)+1)=_∧_
       simp only [hdT,hdE,waitT,hin,if_true];exact⟨trivial,trivial⟩
      have hwa:=Lib.hid (Z5G W.heap.size m (.slice a1 m.ways.length (m.ways.length+cap1)) (.slice a2 m.home.length (m.home.length+cap2)) (.slice a3 m.rocks.length (m.rocks.length+cap3)) (usT m l (j+1)) (usE m l (j+1)) (j+1) W3 HSP3.out HM3.out HV.out.1 (by omega) hub.1 (by omega) hub.2.2.1 (by omega))
      clear hin dl
      gi_wp2_with ((try refine⟨trivial,?_⟩);gi_at_call 133;refine (callsIn_wide.2 hwa.out).mono ?_;rintro r W4 ⟨⟨v,rfl⟩,hsp4,hO4⟩)
      have HP4:=Lib.hid (And.intro hsp4 hO4);clear hsp4 hO4;gi_wp2;go_roundw
      case rel =>
       refine⟨(j+1)+1,by omega,by go_num,?_,by rw [hwt.out.1,hwt.out.2];exact HP4.out.1,fun b h1 h2 h3=>(HP4.out.2.block b (by omega) h2).trans (HKP3.out b h1 h2 h3),Nat.le_trans hz3 HP4.out.2.size⟩
       rw [Zv];exact hJ _ _ _ HJ3.out (HP4.out.2.move rfl ⟨_,HSP3.out,rfl⟩)
      case measure=>simp [intOf];omega
     ·have dl:decide ((((j+1):Nat):Int) ∈ l)=false:=by simpa using hin
      rw [dl] at hlook;have hwt:Hid (hdT m l ((j+1)+1)=usT m l (j+1)∧hdE m l ((j+1)+1)=usE m l (j+1)):=by
       show hdT m l ((j+1)+1)=_∧_
       simp only [hdT,hdE,waitT,hin,if_false,Int.mul_zero,Int.add_zero];exact⟨trivial,trivial⟩
      clear hin dl;gi_wp2;go_roundw
      case rel =>
       refine⟨(j+1)+1,by omega,by go_num,?_,by rw [hwt.out.1,hwt.out.2];exact HSP3.out,HKP3.out,hz3⟩
       rw [Zv];exact HJ3.out
      case measure=>simp [intOf];omega
    ·gi_wp2
     exact bodyPost_ret (v:=.tuple #[]) (by simp [results,Tryz.f132]) rfl ⟨⟨_,rfl⟩,.inr ⟨_,⟨(j+1)+1,by omega,(Zv _ _).symm⟩,hJx3⟩⟩
  ·obtain rfl:k=m.ways.length:=by omega
   have d1:decide ((m.ways.length:Int)<(m.ways.length:Int))=false:=by simp
   gi_wp2;go_end0;exact⟨⟨_,rfl⟩,.inl ⟨_,rfl,hJs⟩⟩
theorem Z8B (n:Nat) (hn:1≤n) (p:Nat→Nat→Prop) (m:Msn) (vw vh vr:Value) (l:List Int) (Bm Bs bm n0:Nat) (w:World) (hV:validB m=true)
  (hm:MsnAt n0 w m vw vh vr) (hn0:n0≤w.heap.size) (hset:SetAt w bm l) (HM:Has w Bm (Zc m vw vh vr) 26) (HS:Boxed w Bs 83 (.map (some bm)))
  (p0:∀ B,p B B) (p2:∀ B,p B Bs) (p3:∀ B,p B bm) (p4:∀ B b,b<n0→p B b) :
  SeqM n Tryz.prog 132 #[.pointer (some ⟨Bm,0,none⟩),.pointer (some ⟨Bs,0,none⟩)] (encW m l) (fun B=>KeepsP (p B)) (fun B r=>r=B) 1 m.ways.length
   (fun ys=>ys=upto id m.ways.length) (fun pre=>∃ j,j≤m.ways.length∧pre=upto id j) w:=fun lp J Jx W hW hJ _ hY h0 =>
 Z8D n hn (p W.heap.size) m vw vh vr l Bm Bs bm n0 W lp hV (hm.below (hW.mono hn0)) (Nat.le_trans hn0 hW.size) (hset.block (hW.block bm hset.lt)) (HM.below hW HM.lt) ((hW.block Bs HS.lt).trans HS)
  (p0 _) (p2 _) (p3 _) (p4 _) J Jx hJ hY h0
end
end Go.Proofs.YtdolkgihppgpcaaGreat
