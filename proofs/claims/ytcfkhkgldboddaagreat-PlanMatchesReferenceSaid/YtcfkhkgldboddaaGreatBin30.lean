/- package mink: plus, the function that Shift hands to each, each. | landfallref06.Moved. (Printed by tools/mkmoved.py.) -/
import Derived.Test.YtcfkhkgldboddaaGreatBin28
namespace Go.Proofs.YtcfkhkgldboddaaGreat
section
attribute [local irreducible] wpQuiet
open Go.RowKit
theorem Zac (p q:Pt) (w:World) (hp:Z4 p=true) (hq:Z4 q=true) :
  Calls Tryz.prog 60 #[.agg #[.int .i64 p.x,.int .i64 p.y],.agg #[.int .i64 q.x,.int .i64 q.y]] w fun e w'=>e=.returned (.agg #[.int .i64 (mvP q p).x,.int .i64 (mvP q p).y])∧Below w.heap.size w w':=by
 rw [ZT] at hp hq;obtain⟨px,py⟩:=p;obtain⟨qx,qy⟩:=q;simp only at hp hq
 show Calls _ _ _ _ fun e w'=>e=.returned (.agg #[.int .i64 (px+qx),.int .i64 (py+qy)])∧_
 have m1:IntKind.i64.wrap (px+qx)=px+qx:=zW2;have m2:IntKind.i64.wrap (py+qy)=py+qy:=zW2;clear hp hq;go_enter Tryz.func60,Tryz.ntmps60;go_wp2;refine bodyPost_ret (v:=.agg #[.int .i64 (px+qx),.int .i64 (py+qy)]) (by simp [results,Tryz.f60,go_sem]) rfl ⟨rfl,?_⟩
 repeat (first | exact Below.refl _ _ | assumption | apply Below.drew | refine Below.setCell ?_ (by first | omega | (simp;done) | (simp;omega)) _ | refine Below.alloc ?_ (by first | omega | (simp;done) | (simp;omega)) _ | refine Below.call (by assumption) ?_ (by first | omega | (simp;done) | (simp;omega)))
theorem Z7d (Bd:Nat) (x d:Pt) (w:World) (hx:Z4 x=true) (hd:Z4 d=true) (HD:Has w Bd #[.int .i64 d.x,.int .i64 d.y] 41) :
  Calls Tryz.prog 59 #[.agg #[.int .i64 x.x,.int .i64 x.y],.pointer (some ⟨Bd,0,none⟩)] w fun e w'=>e=.returned (.agg #[.int .i64 (mvP d x).x,.int .i64 (mvP d x).y])∧Below w.heap.size w w':=by
 have f:=Lib.hid (fun w1=>Zac x d w1 hx hd)
 have hlt:=HD.lt;have c0:=HD.cell (i:=0) rfl;have c1:=HD.cell (i:=1) rfl;have H:=Has.new (w.alloc (.cells #[.int .i64 x.x,.int .i64 x.y] 41)) #[.int .i64 0,.int .i64 0] 41;rw [show (w.alloc (.cells #[.int .i64 x.x,.int .i64 x.y] 41)).heap.size=w.heap.size+1 by simp] at H
 have H:=Lib.hid H;have B0:=Lib.hid (show Below w.heap.size w ((w.alloc (.cells #[.int .i64 x.x,.int .i64 x.y] 41)).alloc (.cells #[.int .i64 0,.int .i64 0] 41)) from ((Below.refl _ _).alloc (Nat.le_refl _) _).alloc (by first | omega | (simp;done) | (simp;omega)) _)
 generalize mvP d x=r at *;clear HD hx hd;go_enter Tryz.func59,Tryz.ntmps59;go_wp2_with fail;refine (f.out _).mono ?_;rintro e w1 ⟨rfl,hb1⟩;have H1:=H.out.below hb1 (by simp)
 have x0:=Zk H1 (i:=0) rfl;have x1:=Zk H1 (i:=1) rfl;have y0:=Zf H1 0;have y1:=Zf H1 1;have z0:=Zk (H1.set 0 (.int .i64 r.x)) (i:=0) rfl;have z1:=Zk ((H1.set 0 (.int .i64 r.x)).set 1 (.int .i64 r.y)) (i:=1) rfl;have B1:=zAi B0 hb1;clear hb1 H1 c0 c1;go_wp2;refine bodyPost_ret (v:=.agg #[.int .i64 r.x,.int .i64 r.y]) (by simp [results,Tryz.f59,go_sem,z0,z1]) rfl ⟨rfl,?_⟩
 exact (B1.out.setCell (p:=⟨w.heap.size+1,0,none⟩) (by simp) _).setCell (p:=⟨w.heap.size+1,1,none⟩) (by simp) _
theorem Z8N (d:Pt) (l:List Pt) {k:Nat} (h:k<l.length):mvL d (l.take (k+1))=mvL d (l.take k)++[mvP d (nth l k)]:=by
 have e:nth l k=l[k]:=by simp [nth,List.getD_eq_getElem?_getD,List.getElem?_eq_getElem h]
 unfold mvL;rw [List.take_add_one,List.getElem?_eq_getElem h,List.map_append,e]
 rfl
set_option maxRecDepth 8000 in
set_option maxHeartbeats 1600000 in
theorem ZaF (v : Value) (l : List Pt) (Bd : Nat) (d : Pt) (w : World) (hp : Z8 w.heap.size w v l) (HD : Has w Bd #[.int .i64 d.x, .int .i64 d.y] 41) (hs : l.length ≤ 64) (hpl : ∀ k, k < l.length → Z4 (nth l k) = true) (hd : Z4 d = true) :
  Calls Tryz.prog 58 #[v,.func (.func 59) #[] #[.pointer (some ⟨Bd,0,none⟩)]] w (PtsQ (mvL d l) w):=by
 obtain⟨hll,a,cap,rfl,hc⟩:=hp;have HC:=Lib.hid hc;have HPL:=Lib.hid hpl;have HDD:=Lib.hid HD;have HDP:=Lib.hid hd;obtain⟨i0,hi,hz0',hz1',hz2'⟩:=info_parts ptInfo;clear hc hpl hd HD;go_enter Tryz.func58,Tryz.ntmps58;go_wp2
 go_loopw [5,10] (fun v i wr=>∃ k:Nat,k≤l.length∧i=.int .i64 (k:Int)∧wr.ownsRow w.heap.size 41 2 v k (Za (mvL d (l.take k)))∧Below w.heap.size w wr) (fun _ i _=>l.length-(intOf i).toNat)
 case atStart=>exact⟨0,by omega,rfl,World.ownsRow_nil _ _ _ _,Below.refl _ _⟩
 case round =>
  obtain⟨k,hk,rfl,hrow,hB⟩:=hrel;have hzB:=hB.size;by_cases hlt:k<l.length
  ·obtain⟨b,o,rfl,hb,hcc⟩:∃ b o,a=some ⟨b,o,none⟩∧b<w.heap.size∧∀ j,j<l.length→w.cell? ⟨b,o+j*2,none⟩=some (.int .i64 (nth l j).x)∧w.cell? ⟨b,o+j*2+1,none⟩=some (.int .i64 (nth l j).y):=by
    rcases HC.out with h | h
    ·rw [h] at hlt;simp at hlt
    ·exact h
   obtain⟨q0,q1⟩:=hcc k hlt;have c0:=(hB.cell (p:=⟨b,o+k*2,none⟩) hb).trans q0;have c1:=(hB.cell (p:=⟨b,o+k*2+1,none⟩) hb).trans q1;have hst:=Lib.hid (Z8N d l hlt);have f:=Lib.hid (fun w1 (B:Below w.heap.size w w1)=>Z7d Bd (nth l k) d w1 (HPL.out k hlt) HDP.out (HDD.out.below B HDD.out.lt))
   generalize mvP d (nth l k)=r at *;generalize (nth l k).x=px at *;generalize (nth l k).y=py at *;have kl:(k:Int)<l.length:=by omega
   have k0:(0:Int)≤k:=by omega
   have dk:decide ((k:Int)<(l.length:Int))=true:=by simp;omega
   have HR:=Lib.hid hrow;have HB:=Lib.hid hB;have BA:=Lib.hid (show Below wr.heap.size wr (wr.alloc (.cells #[.int .i64 px,.int .i64 py] 41)) from (Below.refl _ _).alloc (Nat.le_refl _) _)
   clear hcc q0 q1 hrow hB;go_wp2_with fail;refine (f.out _ (HB.out.trans (BA.out.mono HB.out.size))).mono ?_;rintro e w2 ⟨rfl,b2⟩;have B2:=zAi BA b2;have R2:=Lib.hid (Zj HR.out B2.out);have z2:=B2.out.size;clear b2;go_wp2_with (at_builtin;refine wpList_append_own _ rfl _ _ 23 rfl w.heap.size 41 i0 (.agg #[.int .i64 0,.int .i64 0]) 2 16 Tryz.underlying23 hi hz0' hz1' hz2' rfl (by decide) _ _ _ rfl (R2.out.alloc _) ⟨w2.heap.size,0,none⟩ 1 1 [.int .i64 r.x,.int .i64 r.y] rfl rfl (Z11 _ _ _) (by simp [Value.oneCell']) (by unfold maxLen;omega) (by omega) (by simp;omega) ?_;intro v' w4 hown' hgrow _)
   go_roundw
   case rel =>
    have A2:=(Below.refl w2.heap.size w2).alloc (Nat.le_refl _) (.cells #[.int .i64 r.x,.int .i64 r.y] 41);have b4:Below w.heap.size w w4:=(HB.out.trans ((B2.out.trans (A2.mono z2)).mono hzB)).grown hgrow (by simp;omega) (fun j ej=>(R2.out.lt j ej).1)
    refine⟨k+1,by omega,by go_num,?_,b4⟩
    rw [hst.out,Zu];exact hown'
   case measure=>simp [intOf];omega
  ·obtain rfl:k=l.length:=by omega
   have dk:decide ((l.length:Int)<(l.length:Int))=false:=by simp
   rw [List.take_length] at hrow;have P:=Lib.hid (Z8.own hrow (by rw [ZQ];omega))
   have HB:=Lib.hid hB;clear hrow hB;go_wp2;go_ret;exact⟨_,rfl,P.out,HB.out⟩
theorem Zal (d:Pt) (l:List Pt) {k:Nat} (h:k<l.length):mvL d (l.take (k+1))=mvL d (l.take k)++[mvP d (nth l k)]:=by
 have e:nth l k=l[k]:=by simp [nth,List.getD_eq_getElem?_getD,List.getElem?_eq_getElem h]
 unfold mvL;rw [List.take_add_one,List.getElem?_eq_getElem h,List.map_append,e]
 rfl
set_option linter.unusedSimpArgs false in
set_option maxRecDepth 8000 in
set_option maxHeartbeats 3000000 in
theorem Z56 (vl : Value) (l : List Pt) (d : Pt) (w : World) (hp : Z8 w.heap.size w vl l) (hs : l.length ≤ 64) (hpl : ∀ k, k < l.length → Z4 (nth l k) = true) (hd : Z4 d = true) :
  Calls Tryz.prog 125 #[vl,.agg #[.int .i64 d.x,.int .i64 d.y]] w fun e w'=>∃ v,e=.returned v∧w'.ownsRow w.heap.size 41 2 v l.length (Za (mvL d l))∧Below w.heap.size w w':=by
 obtain⟨hll,a,cap,rfl,hc⟩:=hp;have HC:=Lib.hid hc;have HPL:=Lib.hid hpl;have pd:=Zi hd;obtain⟨i0,hi,hz0',hz1',hz2'⟩:=info_parts ptInfo;obtain⟨bx,by'⟩:=d
 simp only at pd;have hA:=(Below.refl w.heap.size w).alloc (Nat.le_refl _) (.cells #[.int .i64 bx,.int .i64 by'] 41)
 have HN:=Lib.hid (Has.new w #[.int .i64 bx,.int .i64 by'] 41)
 have HA:=Lib.hid hA;have hz1:(w.alloc (.cells #[.int .i64 bx,.int .i64 by'] 41)).heap.size=w.heap.size+1:=by simp
 clear hc hpl hd hA;go_enter Tryz.func125,Tryz.ntmps125;go_wp2
 go_loopw [5,6] (fun v i wr=>∃ k:Nat,k≤l.length∧i=.int .i64 (k:Int)∧wr.ownsRow (w.heap.size+1) 41 2 v k (Za (mvL ⟨bx,by'⟩ (l.take k)))∧Below (w.heap.size+1) (w.alloc (.cells #[.int .i64 bx,.int .i64 by'] 41)) wr) (fun _ i _=>l.length-(intOf i).toNat)
 case atStart=>exact⟨0,by omega,rfl,World.ownsRow_nil _ _ _ _,Below.refl _ _⟩
 case round =>
  obtain⟨k,hk,rfl,hrow,hB⟩:=hrel;have hzB:=hB.size;rw [hz1] at hzB;have hBw:=HA.out.trans (hB.mono (by omega))
  by_cases hlt:k<l.length
  ·obtain⟨b,o,rfl,hb,hcc⟩:∃ b o,a=some ⟨b,o,none⟩∧b<w.heap.size∧∀ j,j<l.length→w.cell? ⟨b,o+j*2,none⟩=some (.int .i64 (nth l j).x)∧w.cell? ⟨b,o+j*2+1,none⟩=some (.int .i64 (nth l j).y):=by
    rcases HC.out with h | h
    ·rw [h] at hlt;simp at hlt
    ·exact h
   obtain⟨q0,q1⟩:=hcc k hlt;have pk:=Zi (HPL.out k hlt);have hst:=Lib.hid (Zal ⟨bx,by'⟩ l hlt)
   have hmv:Hid (mvP ⟨bx,by'⟩ (nth l k)=⟨(nth l k).x+bx,(nth l k).y+by'⟩):=rfl
   obtain⟨px,hpx⟩:∃ px,(nth l k).x=px:=⟨_,rfl⟩;obtain⟨py,hpy⟩:∃ py,(nth l k).y=py:=⟨_,rfl⟩;rw [hpx,hpy] at pk hmv;rw [hpx] at q0;rw [hpy] at q1;have N:=HN.out.below hB (by omega)
   have c0:=(hBw.cell (p:=⟨b,o+k*2,none⟩) hb).trans q0;have c1:=(hBw.cell (p:=⟨b,o+k*2+1,none⟩) hb).trans q1;have c2:=N.cell (i:=0) rfl;have c3:=N.cell (i:=1) rfl;have m1:IntKind.i64.wrap (px+bx)=px+bx:=zW2;have m2:IntKind.i64.wrap (py+by')=py+by':=zW2
   have dk:decide ((k:Int)<(l.length:Int))=true:=by simp;omega
   have kl:(k:Int)<l.length:=by omega
   have k0:(0:Int)≤k:=by omega
   have HR:=Lib.hid hrow;have HB:=Lib.hid hB;have C01:=Lib.hid (And.intro c0 (And.intro c1 (And.intro c2 c3)));have hbz:b<wr.heap.size:=by omega
   clear hcc q0 q1 hrow hB hBw c0 c1 c2 c3 N hpx hpy pk;go_wp2;refine (wpIn_wide (n:=9)).1 ?_;refine Zm (Zt _) 20 (fun X=>X.cell? ⟨b,o+k*2,none⟩=some (.int .i64 px)∧X.cell? ⟨b,o+k*2+1,none⟩=some (.int .i64 py)∧X.cell? ⟨w.heap.size,0,none⟩=some (.int .i64 bx)∧X.cell? ⟨w.heap.size,1,none⟩=some (.int .i64 by')) (by kernel_rfl) (by kernel_rfl) (by kernel_rfl) fun hH inv0=>?_
   refine sk hH (i:=0) (v:=u5) (Zg rfl) inv0 (fun X hX=>?_) fun inv1=>?_
   ·obtain⟨x0,x1,x2,x3⟩:=hX;go_simp
   simp only [Act.put,zq4,zr4,zs4];refine sk hH (i:=1) (v:=(.slice (some ⟨b,o,none⟩) l.length (l.length+cap))) (Zg rfl) inv1 (fun X hX=>?_) fun inv2=>?_
   ·obtain⟨x0,x1,x2,x3⟩:=hX;go_simp
   simp only [Act.put,zq4,zr4,zs4];refine sk hH (i:=2) (v:=(.int .i64 (k:Int))) (Zg rfl) inv2 (fun X hX=>?_) fun inv3=>?_
   ·obtain⟨x0,x1,x2,x3⟩:=hX;go_simp
   simp only [Act.put,zq4,zr4,zs4];refine sk hH (i:=3) (v:=(.pointer (some ⟨b,o+k*2,none⟩))) (Zg rfl) inv3 (fun X hX=>?_) fun inv4=>?_
   ·obtain⟨x0,x1,x2,x3⟩:=hX;go_simp
   simp only [Act.put,zq4,zr4,zs4];refine sk hH (i:=4) (v:=(.pointer (some ⟨b,o+k*2,none⟩))) (Zg rfl) inv4 (fun X hX=>?_) fun inv5=>?_
   ·obtain⟨x0,x1,x2,x3⟩:=hX;go_simp
   simp only [Act.put,zq4,zr4,zs4];refine sk hH (i:=5) (v:=(.int .i64 px)) (Zg rfl) inv5 (fun X hX=>?_) fun inv6=>?_
   ·obtain⟨x0,x1,x2,x3⟩:=hX;go_simp
   simp only [Act.put,zq4,zr4,zs4];refine sk hH (i:=6) (v:=(.pointer (some ⟨w.heap.size,0,none⟩))) (Zg rfl) inv6 (fun X hX=>?_) fun inv7=>?_
   ·obtain⟨x0,x1,x2,x3⟩:=hX;go_simp
   simp only [Act.put,zq4,zr4,zs4];refine sk hH (i:=7) (v:=(.int .i64 bx)) (Zg rfl) inv7 (fun X hX=>?_) fun inv8=>?_
   ·obtain⟨x0,x1,x2,x3⟩:=hX;go_simp
   simp only [Act.put,zq4,zr4,zs4];refine sk hH (i:=8) (v:=(.int .i64 (px+bx))) (Zg rfl) inv8 (fun X hX=>?_) fun inv9=>?_
   ·obtain⟨x0,x1,x2,x3⟩:=hX;go_simp
   simp only [Act.put,zq4,zr4,zs4];refine sk hH (i:=9) (v:=(.slice (some ⟨b,o,none⟩) l.length (l.length+cap))) (Zg rfl) inv9 (fun X hX=>?_) fun inv10=>?_
   ·obtain⟨x0,x1,x2,x3⟩:=hX;go_simp
   simp only [Act.put,zq4,zr4,zs4];refine sk hH (i:=10) (v:=(.int .i64 (k:Int))) (Zg rfl) inv10 (fun X hX=>?_) fun inv11=>?_
   ·obtain⟨x0,x1,x2,x3⟩:=hX;go_simp
   simp only [Act.put,zq4,zr4,zs4];refine sk hH (i:=11) (v:=(.pointer (some ⟨b,o+k*2,none⟩))) (Zg rfl) inv11 (fun X hX=>?_) fun inv12=>?_
   ·obtain⟨x0,x1,x2,x3⟩:=hX;go_simp
   simp only [Act.put,zq4,zr4,zs4];refine sk hH (i:=12) (v:=(.pointer (some ⟨b,o+k*2+1,none⟩))) (Zg rfl) inv12 (fun X hX=>?_) fun inv13=>?_
   ·obtain⟨x0,x1,x2,x3⟩:=hX;go_simp
   simp only [Act.put,zq4,zr4,zs4];refine sk hH (i:=13) (v:=(.int .i64 py)) (Zg rfl) inv13 (fun X hX=>?_) fun inv14=>?_
   ·obtain⟨x0,x1,x2,x3⟩:=hX;go_simp
   simp only [Act.put,zq4,zr4,zs4];refine sk hH (i:=14) (v:=(.pointer (some ⟨w.heap.size,1,none⟩))) (Zg rfl) inv14 (fun X hX=>?_) fun inv15=>?_
   ·obtain⟨x0,x1,x2,x3⟩:=hX;go_simp
   simp only [Act.put,zq4,zr4,zs4];refine sk hH (i:=15) (v:=(.int .i64 by')) (Zg rfl) inv15 (fun X hX=>?_) fun inv16=>?_
   ·obtain⟨x0,x1,x2,x3⟩:=hX;go_simp
   simp only [Act.put,zq4,zr4,zs4];refine sk hH (i:=16) (v:=(.int .i64 (py+by'))) (Zg rfl) inv16 (fun X hX=>?_) fun inv17=>?_
   ·obtain⟨x0,x1,x2,x3⟩:=hX;go_simp
   simp only [Act.put,zq4,zr4,zs4];refine sk hH (i:=17) (v:=(.agg #[.int .i64 (px+bx),.int .i64 (py+by')])) (Zg rfl) inv17 (fun X hX=>?_) fun inv18=>?_
   ·obtain⟨x0,x1,x2,x3⟩:=hX;go_simp
   simp only [Act.put,zq4,zr4,zs4];have D:Below wr.heap.size wr wr.drew:=Below.drew (Below.refl _ _);have R0:=Zj HR.out D;have B0:=HB.out.trans (D.mono (by omega))
   have S0:wr.drew.cell? ⟨b,o+k*2,none⟩=some (.int .i64 px)∧wr.drew.cell? ⟨b,o+k*2+1,none⟩=some (.int .i64 py)∧wr.drew.cell? ⟨w.heap.size,0,none⟩=some (.int .i64 bx)∧wr.drew.cell? ⟨w.heap.size,1,none⟩=some (.int .i64 by'):=C01.out
   have z0:w.heap.size+1≤wr.drew.heap.size:=hzB;have zb:b<wr.drew.heap.size:=hbz;generalize wr.drew=X0 at R0 B0 S0 z0 zb ⊢;clear inv0 inv1 inv2 inv3 inv4 inv5 inv6 inv7 inv8 inv9 inv10 inv11 inv12 inv13 inv14 inv15 inv16 inv17 inv18 hH D;refine sa1 (r:=18) S0 ?_;refine ZI (Zg rfl) rfl (v:=.slice (some ⟨X0.heap.size,0,none⟩) 1 1) (w':=X0.alloc (.cells #[.int .i64 (px+bx),.int .i64 (py+by')] 41)) (by go_simp) ?_
   simp only [Act.put,zq4,zr4,zs4];have A0:=(Below.refl X0.heap.size X0).alloc (Nat.le_refl _) (.cells #[.int .i64 (px+bx),.int .i64 (py+by')] 41)
   have cN:=Z11 X0 (px+bx) (py+by')
   have R1:=Zj R0 A0;have B1:=B0.trans (A0.mono (by omega))
   have S1:=And.intro ((A0.cell (p:=⟨b,o+k*2,none⟩) zb).trans S0.1) (And.intro ((A0.cell (p:=⟨b,o+k*2+1,none⟩) zb).trans S0.2.1) (And.intro ((A0.cell (p:=⟨w.heap.size,0,none⟩) z0).trans S0.2.2.1) ((A0.cell (p:=⟨w.heap.size,1,none⟩) z0).trans S0.2.2.2)));have z1:=A0.size;generalize X0.alloc (.cells #[.int .i64 (px+bx),.int .i64 (py+by')] 41)=X1 at *
   refine sa1 (r:=19) S1 ?_;refine Zz (Zg rfl) rfl (.tmp 13) (.tmp 31) 23 rfl (w.heap.size+1) 41 i0 (.agg #[.int .i64 0,.int .i64 0]) 2 16 Tryz.underlying23 hi hz0' hz1' hz2' rfl (by decide) _ _ _ rfl R1 ⟨X0.heap.size,0,none⟩ 1 1 [.int .i64 (px+bx),.int .i64 (py+by')] rfl rfl cN (by simp [Value.oneCell']) (by unfold maxLen;omega) (by omega) (by omega) ?_
   intro v' X2 hown' hgrow _;simp only [Act.put,zq4,zr4,zs4];have B2:Below (w.heap.size+1) X1 X2:=(Below.refl _ X1).grown hgrow (by omega) (fun j ej=>(R1.lt j ej).1)
   refine Zw (by kernel_rfl) ⟨(B2.cell (p:=⟨b,o+k*2,none⟩) (Nat.lt_succ_of_lt hb)).trans S1.1,(B2.cell (p:=⟨b,o+k*2+1,none⟩) (Nat.lt_succ_of_lt hb)).trans S1.2.1,(B2.cell (p:=⟨w.heap.size,0,none⟩) (Nat.lt_succ_self _)).trans S1.2.2.1,(B2.cell (p:=⟨w.heap.size,1,none⟩) (Nat.lt_succ_self _)).trans S1.2.2.2⟩ ?_
   simp only [List.drop_succ_cons,List.drop_zero];have B3:=Lib.hid (B1.trans B2);have O3:=Lib.hid hown';clear R0 R1 B0 B1 B2 S0 S1 hown' hgrow A0 cN;gi_wp2;go_wp2;go_roundw
   case rel =>
    refine⟨k+1,by omega,by go_num,?_,B3.out⟩
    rw [hst.out,hmv.out,Zu];exact O3.out
   case measure=>simp [intOf];omega
  ·obtain rfl:k=l.length:=by omega
   have dk:decide ((l.length:Int)<(l.length:Int))=false:=by simp
   rw [List.take_length] at hrow;have HI:=Lib.hid (show wr.ownsRow w.heap.size 41 2 u5 l.length (Za (mvL ⟨bx,by'⟩ l)) from⟨hrow.1,hrow.2.imp id fun ⟨g,cap,cur,h1,h2,h3⟩=>⟨g,cap,cur,h1,by omega,h3⟩⟩)
   have HB:=Lib.hid hBw;clear hrow hB hBw;go_wp2;go_ret;exact⟨_,rfl,HI.out,HB.out⟩
end
end Go.Proofs.YtcfkhkgldboddaaGreat
