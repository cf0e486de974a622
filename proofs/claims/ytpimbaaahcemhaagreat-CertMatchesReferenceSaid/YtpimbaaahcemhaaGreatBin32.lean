/- Plans: what the legs of a mission with stops come to. No program here. | package tryst: has, disk. | package plan: trip.clear, trip.back. | package .. -/
import Derived.Test.YtpimbaaahcemhaaGreatBin17
import Derived.Test.YtpimbaaahcemhaaGreatBin30
import Derived.Test.YtpimbaaahcemhaaGreatBin31
set_option linter.unusedSimpArgs false
set_option linter.unusedVariables false
set_option maxRecDepth 8000
set_option maxHeartbeats 6400000
namespace Go.Proofs.YtpimbaaahcemhaaGreat
section
open Go.RowKit
theorem zCw {a b:World} {g:Nat} {k:Array Value} {t:TypeId} (h:Hid (Has a g k t)) (q:Hid (Below a.heap.size a b)):Has b g k t:=h.out.below q.out h.out.lt
end
def atW (m:Msn) (k:Nat):Pt:=⟨(wy m.ways k).x,(wy m.ways k).y⟩
noncomputable def clrB (m:Msn) (a:Nat) (u:Int) (b:Nat) (w:Int):Bool:=!firB (corL (atW m a) u (atW m b) w) m.rocks
def bkR (m:Msn) (a:Nat) (r:Int):Nat→Int
 | 0=>r
 | j+1=>bkR m a r j+gLeg m (itB m a j) (itB m a (j+1))
noncomputable def lieB (m:Msn) (r:Int):Bool:=decide ((cornersP (mvL (atW m 0) (Z5 r.toNat)) m.home).length=(mvL (atW m 0) (Z5 r.toNat)).length)
theorem Z5g {m:Msn} (V:VMsn m) {k:Nat} (hk:k<m.ways.length):-300000≤(atW m k).x∧(atW m k).x≤300000∧-300000≤(atW m k).y∧(atW m k).y≤300000:=ZJ V.ways hk
theorem Z2J {m:Msn} (V:VMsn m) {a b:Nat} (ha:a<m.ways.length) (hb:b<m.ways.length) {u w:Int} (hu:0≤u∧u≤100000) (hw:0≤w∧w≤100000):corE (atW m a) u (atW m b) w=0:=by
 have p:=Z5g V ha;have q:=Z5g V hb;exact ZaO (by omega) (by omega) hu hw
section
attribute [local irreducible] wpQuiet
open Go.RowKit
theorem Z0C (m:Msn) (l:List Int):(usedT m l).length=m.ways.length:=by unfold usedT;exact Zu _ _
theorem Z0H (f:Nat→Int) {n j:Nat} (h:j<n):(upto f n).getD j 0=f j:=by simp [upto,List.getD,h]
theorem ZV {n0:Nat} {W:World} {v:Value} {l:List Int} (h:Za n0 W v l) (h0:0<l.length):∃ b o cap,v=.slice (some ⟨b,o,none⟩) l.length (l.length+cap)∧b<n0∧∀ j,j<l.length→W.cell? ⟨b,o+j,none⟩=some (.int .i64 (l.getD j 0)):=by
 obtain⟨_,a,cap,e,hc⟩:=h;rcases hc with rfl | ⟨b,o,rfl,hb,hc⟩
 ·simp at h0
 ·exact⟨b,o,cap,e,hb,hc⟩
theorem Z0S (m:Msn) (l:List Int):(rdBU m l).length=m.ways.length:=by unfold rdBU;exact Zu _ _
theorem Z76 {m:Msn} {l:List Int} {k:Nat} (h:k<m.ways.length):(rdBU m l).getD k 0=rdB m l k:=by rw [rdBU,Z0H _ h]
theorem Z77 {m:Msn} {l:List Int} {k:Nat} (h:k<m.ways.length):(rdAU m l).getD k 0=rdA m l k:=by rw [rdAU,Z0H _ h]
theorem Z0D (m:Msn) (l:List Int):(usedE m l).length=m.ways.length:=by unfold usedE;exact Zu _ _
theorem lie_eq {m:Msn} (V:VMsn m) {r:Int} (h:0≤r∧r≤100000):dskE r=0∧shE (dskL r) (atW m 0)=0∧withinB (shL (dskL r) (atW m 0)) m.home=lieB m r:=by
 have hr:radOk r=true:=by simp [radOk,h]
 have hd:dskL r=Z5 r.toNat:=by simp [dskL,hr]
 have c:=Z2J V (a:=0) (b:=0) (by have:=V.n2;omega) (by have:=V.n2;omega) h h
 obtain⟨⟨hp,-⟩,ha,-⟩:=Z1l c;have G:=Z0x (n:=r.toNat) (by omega)
 have hv:Zc (Z5 r.toNat)=true:=by simpa [Zc] using G
 have e2:shE (dskL r) (atW m 0)=0:=by rw [hd];simp [shE,hv,hp,ha]
 refine⟨by simp [dskE,hr],e2,?_⟩
 have e3:shL (dskL r) (atW m 0)=mvL (atW m 0) (Z5 r.toNat):=by simp only [shL,e2,if_true];rw [hd]
 rw [e3];have hv2:Zc (mvL (atW m 0) (Z5 r.toNat))=true:=by rw [Z1w _ G];exact ha
 simp [withinB,lieB,hv2,V.home]
end
noncomputable def ccB (m:Msn) (a:Nat) (u:Int) (b:Nat) (w:Int):Bool:=decide (corE (atW m a) u (atW m b) w=0) && clrB m a u b w
noncomputable def ccC (m:Msn) (a:Nat) (r:Int):Nat→Bool
 | 0=>true
 | j+1=>ccC m a r j && ccB m (itB m a j) (bkR m a r j) (itB m a (j+1)) (bkR m a r (j+1))
noncomputable def hwE (m:Msn) (a:Nat) (r:Int):Int:=if ccC m a r (dep m a)=false then 50 else if lieB m (bkR m a r (dep m a))=false then 52 else 0
noncomputable def kpsE (m:Msn) (i:Nat) (u v t e:Int):Int :=
 if ccB m i u (i+1) v=false then 50
 else if hwE m (i+1) v=50 then 50
 else if hwE m (i+1) v=52 then 52
 else if e+homeE m (i+1) (dep m (i+1))>m.battery then 51
 else if t+homeT m (i+1) (dep m (i+1))>m.deadline then 6
 else 0
theorem Zbb {m:Msn} {a b:Nat} {u w:Int} (h:ccB m a u b w=true):(0≤u∧u≤100000)∧0≤w∧w≤100000:=by
 unfold ccB at h;rw [Bool.and_eq_true,decide_eq_true_eq] at h;obtain⟨⟨-,-,h1,h2,h3,h4⟩,-⟩:=Z1l h.1;exact⟨⟨h1,h2⟩,h3,h4⟩
theorem Zba {m:Msn} {a:Nat} {r:Int} (h0:0≤r∧r≤100000):∀ j,ccC m a r j=true→0≤bkR m a r j∧bkR m a r j≤100000
 | 0,_=>h0
 | j + 1, h => by
  simp only [ccC,Bool.and_eq_true] at h;exact (Zbb h.2).2
theorem Z5f {m:Msn} {a:Nat} {r:Int}:∀ n j,j≤n→ccC m a r n=true→ccC m a r j=true
 | 0,j,hj,h=>by rw [Nat.le_zero.1 hj];rfl
 | n + 1, j, hj, h => by
  rcases Nat.lt_or_eq_of_le hj with e | e
  ·simp only [ccC,Bool.and_eq_true] at h
   exact Z5f n j (by omega) h.1
  ·rw [e];exact h
theorem hwE_or (m:Msn) (a:Nat) (r:Int):hwE m a r=50∨hwE m a r=52∨hwE m a r=0:=by
 unfold hwE
 repeat' split
 all_goals simp
theorem ccB_of {m:Msn} (V:VMsn m) {a b:Nat} (ha:a<m.ways.length) (hb:b<m.ways.length) {u w:Int} (hu:0≤u∧u≤100000) (hw:0≤w∧w≤100000):ccB m a u b w=clrB m a u b w:=by
 unfold ccB;rw [Z2J V ha hb hu hw];simp
theorem ZaK {m:Msn} (V:VMsn m) {a b:Nat} {u v:Int} (h:corE (atW m a) u (atW m b) v=0):firE (corL (atW m a) u (atW m b) v) m.rocks=0:=by
 unfold corL;rw [if_pos h];have g:=ZP (Z3G h);have o1:okRocks (corH (atW m a) u.toNat (atW m b) v.toNat) m.rocks=true:=by unfold okRocks;rw [g,Bool.true_and];exact V.rocks
 unfold firE;rw [if_pos V.nr,if_pos o1]
theorem Z9c {m:Msn} (V:VMsn m) {r:Int} (h:0≤r∧r≤100000):bothE (shL (dskL r) (atW m 0)) m.home=0:=by
 have hr:radOk r=true:=by simp [radOk,h]
 have hd:dskL r=Z5 r.toNat:=by simp [dskL,hr]
 have c:=Z2J V (a:=0) (b:=0) (by have:=V.n2;omega) (by have:=V.n2;omega) h h
 obtain⟨⟨hp,-⟩,ha,-⟩:=Z1l c;have G:=Z0x (n:=r.toNat) (by omega)
 have hv:Zc (Z5 r.toNat)=true:=by simpa [Zc] using G
 have e2:shE (dskL r) (atW m 0)=0:=by rw [hd];simp [shE,hv,hp,ha]
 have e3:shL (dskL r) (atW m 0)=mvL (atW m 0) (Z5 r.toNat):=by simp only [shL,e2,if_true];rw [hd]
 rw [e3];have hv2:Zc (mvL (atW m 0) (Z5 r.toNat))=true:=by rw [Z1w _ G];exact ha
 simp [bothE,hv2,V.home]
section
open Go.RowKit
structure Psg where
 cor:List Pt
 fr:Int
 tw:Int
 tm:Int
 en:Int
structure Crt where
 stops:List Int
 psg:List Psg
 ret:List Int
def pgd (l:List Psg) (j:Nat):Psg:=l.getD j ⟨[],0,0,0,0⟩
def PsgAt (n0:Nat) (W:World) (b o:Nat) (p:Psg):Prop :=
 ∃ u,W.cell? ⟨b,o,none⟩=some u∧Z8 n0 W u p.cor∧W.cell? ⟨b,o+1,none⟩=some (.int .i64 p.fr)∧W.cell? ⟨b,o+2,none⟩=some (.int .i64 p.tw)∧W.cell? ⟨b,o+3,none⟩=some (.int .i64 p.tm)∧W.cell? ⟨b,o+4,none⟩=some (.int .i64 p.en)
theorem PsgAt.below {n0:Nat} {A B:World} (h:Below n0 A B) {b o:Nat} {p:Psg} (hb:b<n0) (hp:PsgAt n0 A b o p):PsgAt n0 B b o p:=by
 obtain⟨u,c0,hu,c1,c2,c3,c4⟩:=hp;exact⟨u,(h.cell (p:=⟨b,o,none⟩) hb).trans c0,hu.below h,(h.cell (p:=⟨b,o+1,none⟩) hb).trans c1,(h.cell (p:=⟨b,o+2,none⟩) hb).trans c2,(h.cell (p:=⟨b,o+3,none⟩) hb).trans c3,(h.cell (p:=⟨b,o+4,none⟩) hb).trans c4⟩
theorem PsgAt.mono {n0 n1:Nat} {W:World} {b o:Nat} {p:Psg} (hp:PsgAt n0 W b o p) (h:n0≤n1):PsgAt n1 W b o p:=by
 obtain⟨u,c0,hu,c⟩:=hp;exact⟨u,c0,hu.mono h,c⟩
def PsgsAt (n0:Nat) (W:World) (v:Value) (l:List Psg):Prop :=
 l.length≤70368744177663∧∃ a cap,v=.slice a l.length (l.length+cap)∧(l=[]∨∃ b o,a=some ⟨b,o,none⟩∧b<n0∧∀ j,j<l.length→PsgAt n0 W b (o+j*5) (pgd l j))
theorem PsgsAt.below {n0:Nat} {A B:World} (h:Below n0 A B) {v:Value} {l:List Psg} (hp:PsgsAt n0 A v l):PsgsAt n0 B v l:=by
 obtain⟨hl,a,cap,e,hc⟩:=hp;refine⟨hl,a,cap,e,hc.imp id ?_⟩;rintro ⟨b,o,e1,hb,hc⟩;exact⟨b,o,e1,hb,fun j hj=>(hc j hj).below h hb⟩
theorem PsgsAt.mono {n0 n1:Nat} {W:World} {v:Value} {l:List Psg} (hp:PsgsAt n0 W v l) (h:n0≤n1):PsgsAt n1 W v l:=by
 obtain⟨hl,a,cap,e,hc⟩:=hp;refine⟨hl,a,cap,e,hc.imp id ?_⟩;rintro ⟨b,o,e1,hb,hc⟩;exact⟨b,o,e1,by omega,fun j hj=>(hc j hj).mono h⟩
def CrtAt (n0:Nat) (W:World) (c:Crt) (vs vp vr:Value):Prop:=Za n0 W vs c.stops∧PsgsAt n0 W vp c.psg∧Za n0 W vr c.ret
theorem CrtAt.below {n0:Nat} {A B:World} (h:Below n0 A B) {c:Crt} {vs vp vr:Value} (hp:CrtAt n0 A c vs vp vr):CrtAt n0 B c vs vp vr:=⟨hp.1.below h,hp.2.1.below h,hp.2.2.below h⟩
theorem CrtAt.mono {n0 n1:Nat} {W:World} {c:Crt} {vs vp vr:Value} (hp:CrtAt n0 W c vs vp vr) (h:n0≤n1):CrtAt n1 W c vs vp vr:=⟨hp.1.mono h,hp.2.1.mono h,hp.2.2.mono h⟩
def wthB (n most:Int):Bool:=decide (0≤n∧n≤most)
noncomputable def okP (c:Crt) (j:Nat):Bool :=
 Zc (pgd c.psg j).cor && (wthB (pgd c.psg j).fr 100000 && (wthB (pgd c.psg j).tw 100000 && (wthB (pgd c.psg j).tm 1000000000 && (wthB (pgd c.psg j).en 1000000000 && wthB (c.ret.getD j 0) 1000000000))))
noncomputable def frmB (m:Msn) (c:Crt):Bool :=
 radOkB m c.stops && decide (c.psg.length=m.ways.length-1) && decide (c.ret.length=m.ways.length-1) && decide (∀ j,j<c.psg.length→okP c j=true)
def befR (m:Msn) (c:Crt) (i:Nat):Int:=if i=0 then m.start else if (i:Int) ∈ c.stops then min (pgd c.psg (i-1)).tw (wy m.ways i).fix else (pgd c.psg (i-1)).tw
def befT (m:Msn) (c:Crt) (i:Nat):Int:=if i=0 then 0 else if (i:Int) ∈ c.stops then (pgd c.psg (i-1)).tm+(wy m.ways i).wait else (pgd c.psg (i-1)).tm
def befE (m:Msn) (c:Crt) (i:Nat):Int:=if i=0 then 0 else if (i:Int) ∈ c.stops then (pgd c.psg (i-1)).en+m.idle*(wy m.ways i).wait else (pgd c.psg (i-1)).en
noncomputable def regB (r:List (List Pt)):Bool:=decide (r.length≤32) && polysB r
noncomputable def inAll (r:List (List Pt)) (p:List Pt):Bool:=decide (∀ j,j<r.length→withinB (rk r j) p=true)
section
variable {BL BS BE:Nat} {w w2:World} {st:Int × List Int} {ds:List Nat} {v:Value} {W X:World}
theorem Za.offG {l : List Int} {row : Option Nat} (h : Za W.heap.size W v l) (hg : W.grownBy X row) (hne : ∀ r, row = some r → l = [] ∨ v.ownBlock ≠ some r) : Za X.heap.size X v l := by
 obtain⟨hl,a,cap,e,hc⟩:=h;refine⟨hl,a,cap,e,?_⟩;rcases hc with hc | ⟨b,o,e1,hb,hc⟩
 ·exact .inl hc
 ·by_cases hl0:l=[]
  ·exact .inl hl0
  ·refine .inr ⟨b,o,e1,Nat.lt_of_lt_of_le hb hg.size,fun j hj=>?_⟩
   have hbn:some b≠row:=fun er=>by
    rcases hne b er.symm with h | h
    ·exact hl0 h
    ·exact h (by rw [e,e1];rfl)
   exact (World.cell?_of_block (hg.block b hb hbn)).trans (hc j hj)
end
end
section
variable (m:Msn) (R:List (List Pt)) (b d:Int)
end
section
variable {m:Msn} {R:List (List Pt)} {b d:Int}
theorem Z52 {c : List Pt} {ls : List (List Pt)} : ∀ k, (hitTo c ls k).isSome = false ↔ ∀ j, j < k → touchB c (rk ls j) = false
 | 0=>⟨fun _ j h=>by omega,fun _=>rfl⟩
 | k + 1 => by
  have ih:=Z52 (c:=c) (ls:=ls) k;simp only [hitTo];constructor
  ·intro h j hj
   cases hk:(hitTo c ls k).isSome
   ·rw [hk] at h
    simp only [Bool.false_eq_true,if_false] at h;rcases Nat.lt_or_eq_of_le (Nat.le_of_lt_succ hj) with e | e
    ·exact ih.1 hk j e
    ·rw [e];cases ht:touchB c (rk ls k)
     ·rfl
     ·rw [ht] at h;simp at h
   ·rw [hk] at h;simp [hk] at h
  ·intro h
   have hk:=ih.2 fun j hj=>h j (by omega)
   rw [hk,h k (by omega)]
   rfl
def Fewer (R ls:List (List Pt)):Prop:=R.length≤ls.length∧∀ j,j<R.length→∃ i,i<ls.length∧rk R j=rk ls i
variable (hF:Fewer R m.rocks) (V:VMsn m)
include hF V
omit hF V in
end
section
attribute [local irreducible] wpQuiet
open Go.RowKit
theorem Z1b (n most:Int) (w:World):Calls Tryz.prog 102 #[.int .i64 n,.int .i64 0,.int .i64 most] w fun e w'=>e=.returned (.bool (wthB n most))∧w=w':=by
 have H:Hid (wthB n most=decide (0≤n∧n≤most)):=rfl;by_cases h0:0≤n;rotate_left
 ·have d0:decide ((0:Int)≤n)=false:=by rw [decide_eq_false_iff_not];exact h0
  have d1:decide (n≥(0:Int))=false:=by rw [decide_eq_false_iff_not];exact h0
  have HV:=Lib.hid (show wthB n most=false by rw [H.out,decide_eq_false_iff_not];exact fun h=>h0 h.1)
  clear h0;go_enter Tryz.func102,Tryz.ntmps102;go_wp2;go_ret;exact⟨by rw [HV.out];rfl,rfl⟩
 have d0:decide ((0:Int)≤n)=true:=by rw [decide_eq_true_eq];exact h0
 have d1:decide (n≥(0:Int))=true:=by rw [decide_eq_true_eq];exact h0
 obtain⟨b,hb⟩:∃ b,decide (n≤most)=b:=⟨_,rfl⟩;have HV:=Lib.hid (show wthB n most=b by rw [H.out,← hb];exact decide_eq_decide.2 ⟨fun h=>h.2,fun h=>⟨h0,h⟩⟩)
 clear h0 H;go_enter Tryz.func102,Tryz.ntmps102;go_wp2;go_ret;exact⟨by rw [HV.out];rfl,rfl⟩
theorem Z6l (px py:Int) (n:Nat) (w:World) (hn:n≤100000) (hp:Z4 ⟨px,py⟩=true) :
  Calls Tryz.prog 151 #[.agg #[.int .i64 px,.int .i64 py],.int .i64 (n:Int)] w (PtsQ (mvL ⟨px,py⟩ (Z5 n)) w):=by
 have f1:=Lib.hid (fun w1=>Z5V n w1 hn)
 have G:=Z0x hn;have f2:=Lib.hid (fun v1 w1 h=>Z5D v1 (Z5 n) ⟨px,py⟩ w1 h G.2.1 (fun k hk=>(G.2.2.1 k hk).1) hp)
 have hln:=ZQ ⟨px,py⟩ (Z5 n);have hl8:=Z0m n;have HL:=Lib.hid (And.intro hln hl8);clear hln hl8 G;have BW:=Lib.hid (Below.refl w.heap.size w);go_enter Tryz.func151,Tryz.ntmps151;go_upto_region 1 with fail
 generalize hXX0:World.alloc w _=X0;obtain⟨q0,hA,hzX0⟩:=box1 hXX0;clear hXX0;have BW:=Lib.hid hA;clear hA;have AB:=Lib.hid q0;clear q0 hzX0;have y0:=AB.out.cell (i:=0) rfl;have y1:=AB.out.cell (i:=1) rfl;refine (wpIn_wide (n:=9)).1 ?_;refine Zj (Zt _) 4 (fun X=>Below X0.heap.size X0 X) (by kernel_rfl) (by kernel_rfl) (by kernel_rfl) fun hH inv0=>?_
 have hD:=Below.drew (Below.refl X0.heap.size X0);generalize hXX1:X0.drew=X1 at *;clear hXX1;replace BW:=zAg BW hD;have B_X0:=Lib.hid hD;clear hD;refine sk hH (i:=0) (v:=.int .i64 (n:Int)) (Ze rfl) inv0 (fun X hX=>?_) fun inv1=>?_
 ·go_simp
 simp only [Act.put,zq5,zr5,zs5];clear inv0;refine sk hH (i:=2) (v:=.agg #[.int .i64 px,.int .i64 py]) (Ze rfl) inv1 (fun X hX=>?_) fun inv2=>?_
 ·have r0:=(hX.cell (p:=⟨w.heap.size,0,none⟩) (World.block_lt_of_cell? _ _ y0)).trans y0;have r1:=(hX.cell (p:=⟨w.heap.size,1,none⟩) (World.block_lt_of_cell? _ _ y1)).trans y1;go_simp
 simp only [Act.put,zq5,zr5,zs5];clear inv1;have inv3:=HeadInv.put2 inv2 (j:=1) (by kernel_rfl) (by omega)
 clear inv2;refine sa1 (r:=1) B_X0.out ?_;refine ZM (Ze rfl) rfl (f:=153) (args:=#[.int .i64 (n:Int)]) (by go_simp) (f1.out X1) ?_
 rintro e w1 ⟨v1,rfl,p1,b1⟩;refine⟨v1,rfl,?_⟩;simp only [Act.put,zq5,zr5,zs5];replace BW:=zAg BW b1;replace B_X0:=zAg B_X0 b1;clear b1;have P1:=Lib.hid p1;clear p1;have inv4:=HeadInv.put2 inv3 (j:=3) (by kernel_rfl) (by omega)
 clear inv3;refine sa1 (r:=3) B_X0.out ?_;refine ZM (Ze rfl) rfl (f:=181) (args:=#[v1,.agg #[.int .i64 px,.int .i64 py]]) (by go_simp) (f2.out _ _ P1.out) ?_
 rintro e w2 ⟨v2,rfl,p2,b2⟩;refine⟨v2,rfl,?_⟩;simp only [Act.put,zq5,zr5,zs5];replace BW:=zAg BW b2;replace B_X0:=zAg B_X0 b2;have B_w1:=Lib.hid b2;clear b2;have P2:=Lib.hid (Z8.own p2 (by have:=HL.out;omega))
 clear p2 inv4 hH;refine Zv (by kernel_rfl) B_X0.out ?_
 simp only [List.drop_succ_cons,List.drop_zero];obtain⟨g2,d2,hv2⟩:=P2.out.len;subst hv2;gi_wp2;go_wp2;go_ret;exact⟨_,rfl,P2.out,BW.out⟩
theorem Z9p (x:Option Nat):decide (idxO x<0)=!x.isSome:=by
 cases x with
 | none=>rfl
 | some k =>
  show decide (((k:Nat):Int)<0)=false
  exact decide_eq_false (by omega)
theorem Z2C (m:Msn) (vw vh vr:Value) (w:World) (hm:MsnAt w.heap.size w m vw vh vr) (V:VMsn m) (a b:Nat) (u v:Int) (ha:a<m.ways.length) (hb:b<m.ways.length) :
  Calls Tryz.prog 87 #[.agg (Zd m vw vh vr),.int .i64 a,.int .i64 u,.int .i64 b,.int .i64 v] w fun e w'=>e=.returned (.bool (ccB m a u b v))∧Below w.heap.size w w':=by
 have n41:=V.n41;have hrk:∀ j,j<m.rocks.length→Zc (rk m.rocks j)=true:=of_decide_eq_true V.rocks;have hgx:=fun (h:corE (atW m a) u (atW m b) v=0)=>show Zc (corL (atW m a) u (atW m b) v)=true∧decide (idxO (hitTo (corL (atW m a) u (atW m b) v) m.rocks m.rocks.length)<0)=!firB (corL (atW m a) u (atW m b) v) m.rocks by
  have g:Zc (corL (atW m a) u (atW m b) v)=true:=by
   unfold corL;rw [if_pos h];exact ZP (Z3G h)
  have ok:okRocks (corL (atW m a) u (atW m b) v) m.rocks=true:=by unfold okRocks;rw [g,Bool.true_and];exact V.rocks
  refine⟨g,?_⟩;unfold firB;rw [if_pos ⟨V.nr,ok⟩];exact Z9p _
 unfold atW at hgx;have f1:=fun w1=>Z1Z ⟨(wy m.ways a).x,(wy m.ways a).y⟩ ⟨(wy m.ways b).x,(wy m.ways b).y⟩ u v w1
 have f2:=fun vc w1 (B:Below w.heap.size w w1) h hg=>Z5I vc vr (corL ⟨(wy m.ways a).x,(wy m.ways a).y⟩ u ⟨(wy m.ways b).x,(wy m.ways b).y⟩ v) m.rocks w1 h (((hm.2.2).below B).mono B.size) hg hrk
 unfold ccB clrB atW;obtain⟨⟨-,a1,c1,rfl,hcw⟩,⟨-,a2,c2,rfl,-⟩,⟨-,a3,c3,rfl,-⟩⟩:=hm;obtain⟨bw,ow,rfl,hbw,hcw⟩:=hcw.resolve_left (by intro h;rw [h] at ha;simp at ha)
 obtain⟨x1,x2,-⟩:=hcw a ha;obtain⟨x3,x4,-⟩:=hcw b hb;clear hcw V;unfold Zd at *;generalize corL ⟨(wy m.ways a).x,(wy m.ways a).y⟩ u ⟨(wy m.ways b).x,(wy m.ways b).y⟩ v=cl at *;obtain⟨ce,hce⟩:∃ x,corE ⟨(wy m.ways a).x,(wy m.ways a).y⟩ u ⟨(wy m.ways b).x,(wy m.ways b).y⟩ v=x:=⟨_,rfl⟩;simp only [hce] at f1 hgx ⊢;clear hce;obtain⟨px,h1⟩:∃ x,(wy m.ways a).x=x:=⟨_,rfl⟩;obtain⟨py,h2⟩:∃ x,(wy m.ways a).y=x:=⟨_,rfl⟩;obtain⟨qx,h3⟩:∃ x,(wy m.ways b).x=x:=⟨_,rfl⟩;obtain⟨qy,h4⟩:∃ x,(wy m.ways b).y=x:=⟨_,rfl⟩;rw [h1,h2,h3,h4] at f1;rw [h1] at x1;rw [h2] at x2;rw [h3] at x3;rw [h4] at x4;clear h1 h2 h3 h4;generalize firB cl m.rocks=fb at *;generalize idxO (hitTo cl m.rocks m.rocks.length)=ix at *;replace f1:=Lib.hid f1;replace f2:=Lib.hid f2;replace hgx:=Lib.hid hgx;have ha':(a:Int)<m.ways.length:=by omega
 have hb':(b:Int)<m.ways.length:=by omega
 have ha0:(0:Int)≤a:=by omega
 have hb0:(0:Int)≤b:=by omega
 clear hrk;have BW:=Lib.hid (Below.refl w.heap.size w);go_enter Tryz.func87,Tryz.ntmps87;go_upto_region 1 with fail
 generalize hXX0:World.alloc w _=X0;obtain⟨q0,hA,hzX0⟩:=box1 hXX0;clear hXX0;have BW:=Lib.hid hA;clear hA;have RB:=Lib.hid q0;clear q0;replace x1:=(BW.out.cell (p:=⟨bw,ow+a*5,none⟩) hbw).trans x1;replace x2:=(BW.out.cell (p:=⟨bw,ow+a*5+1,none⟩) hbw).trans x2;replace x3:=(BW.out.cell (p:=⟨bw,ow+b*5,none⟩) hbw).trans x3;replace x4:=(BW.out.cell (p:=⟨bw,ow+b*5+1,none⟩) hbw).trans x4;have x0:X0.cell? ⟨w.heap.size,0,none⟩=some (.slice (some ⟨bw,ow,none⟩) m.ways.length (m.ways.length+c1)):=RB.out.cell (i:=0) rfl;refine (wpIn_wide (n:=9)).1 ?_;refine Zj (Zt _) 19 (fun X=>Below X0.heap.size X0 X) (by kernel_rfl) (by kernel_rfl) (by kernel_rfl) fun hH inv0=>?_
 have hD:=Below.drew (Below.refl X0.heap.size X0);generalize hXX1:X0.drew=X1 at *;clear hXX1;replace BW:=zAg BW hD;have B_X0:=Lib.hid hD;clear hD;refine sk hH (i:=0) (v:=.pointer (some ⟨w.heap.size,0,none⟩)) (Ze rfl) inv0 (fun X hX=>?_) fun inv1=>?_
 ·go_simp
 simp only [Act.put,zq5,zr5,zs5];clear inv0;refine sk hH (i:=1) (v:=.slice (some ⟨bw,ow,none⟩) m.ways.length (m.ways.length+c1)) (Ze rfl) inv1 (fun X hX=>?_) fun inv2=>?_
 ·have r0:=(hX.cell (p:=⟨w.heap.size,0,none⟩) (World.block_lt_of_cell? _ _ x0)).trans x0;go_simp
 simp only [Act.put,zq5,zr5,zs5];clear inv1;refine sk hH (i:=2) (v:=.int .i64 (a:Int)) (Ze rfl) inv2 (fun X hX=>?_) fun inv3=>?_
 ·go_simp
 simp only [Act.put,zq5,zr5,zs5];clear inv2;refine sk hH (i:=3) (v:=.pointer (some ⟨bw,ow+a*5,none⟩)) (Ze rfl) inv3 (fun X hX=>?_) fun inv4=>?_
 ·go_simp
 simp only [Act.put,zq5,zr5,zs5];clear inv3;refine sk hH (i:=4) (v:=.pointer (some ⟨bw,ow+a*5,none⟩)) (Ze rfl) inv4 (fun X hX=>?_) fun inv5=>?_
 ·go_simp
 simp only [Act.put,zq5,zr5,zs5];clear inv4;refine sk hH (i:=5) (v:=.agg #[.int .i64 px,.int .i64 py]) (Ze rfl) inv5 (fun X hX=>?_) fun inv6=>?_
 ·have r0:=(hX.cell (p:=⟨bw,ow+a*5,none⟩) (World.block_lt_of_cell? _ _ x1)).trans x1;have r1:=(hX.cell (p:=⟨bw,ow+a*5+1,none⟩) (World.block_lt_of_cell? _ _ x2)).trans x2;go_simp
 simp only [Act.put,zq5,zr5,zs5];clear inv5;refine sk hH (i:=6) (v:=.int .i64 u) (Ze rfl) inv6 (fun X hX=>?_) fun inv7=>?_
 ·go_simp
 simp only [Act.put,zq5,zr5,zs5];clear inv6;refine sk hH (i:=7) (v:=.pointer (some ⟨w.heap.size,0,none⟩)) (Ze rfl) inv7 (fun X hX=>?_) fun inv8=>?_
 ·go_simp
 simp only [Act.put,zq5,zr5,zs5];clear inv7;refine sk hH (i:=8) (v:=.slice (some ⟨bw,ow,none⟩) m.ways.length (m.ways.length+c1)) (Ze rfl) inv8 (fun X hX=>?_) fun inv9=>?_
 ·have r0:=(hX.cell (p:=⟨w.heap.size,0,none⟩) (World.block_lt_of_cell? _ _ x0)).trans x0;go_simp
 simp only [Act.put,zq5,zr5,zs5];clear inv8;refine sk hH (i:=9) (v:=.int .i64 (b:Int)) (Ze rfl) inv9 (fun X hX=>?_) fun inv10=>?_
 ·go_simp
 simp only [Act.put,zq5,zr5,zs5];clear inv9;refine sk hH (i:=10) (v:=.pointer (some ⟨bw,ow+b*5,none⟩)) (Ze rfl) inv10 (fun X hX=>?_) fun inv11=>?_
 ·go_simp
 simp only [Act.put,zq5,zr5,zs5];clear inv10;refine sk hH (i:=11) (v:=.pointer (some ⟨bw,ow+b*5,none⟩)) (Ze rfl) inv11 (fun X hX=>?_) fun inv12=>?_
 ·go_simp
 simp only [Act.put,zq5,zr5,zs5];clear inv11;refine sk hH (i:=12) (v:=.agg #[.int .i64 qx,.int .i64 qy]) (Ze rfl) inv12 (fun X hX=>?_) fun inv13=>?_
 ·have r0:=(hX.cell (p:=⟨bw,ow+b*5,none⟩) (World.block_lt_of_cell? _ _ x3)).trans x3;have r1:=(hX.cell (p:=⟨bw,ow+b*5+1,none⟩) (World.block_lt_of_cell? _ _ x4)).trans x4;go_simp
 simp only [Act.put,zq5,zr5,zs5];clear inv12;refine sk hH (i:=13) (v:=.int .i64 v) (Ze rfl) inv13 (fun X hX=>?_) fun inv14=>?_
 ·go_simp
 simp only [Act.put,zq5,zr5,zs5];clear inv13;have inv15:=HeadInv.put2 inv14 (j:=14) (by kernel_rfl) (by omega)
 clear inv14;refine sa1 (r:=14) B_X0.out ?_;refine ZM (Ze rfl) rfl (f:=37) (args:=#[.agg #[.int .i64 px,.int .i64 py],.int .i64 u,.agg #[.int .i64 qx,.int .i64 qy],.int .i64 v]) (by go_simp) (f1.out X1) ?_
 rintro e w1 ⟨v1,rfl,p1,b1⟩;refine⟨_,rfl,?_⟩;simp only [Act.put,zq5,zr5,zs5];replace BW:=zAg BW b1;replace B_X0:=zAg B_X0 b1;clear b1;have P1:=Lib.hid p1;clear p1;refine sk hH (i:=15) (v:=.tuple #[v1,.int .i64 ce]) (Ze rfl) inv15 (fun X hX=>?_) fun inv16=>?_
 ·go_simp
 simp only [Act.put,zq5,zr5,zs5];clear inv15;refine sk hH (i:=16) (v:=v1) (Ze rfl) inv16 (fun X hX=>?_) fun inv17=>?_
 ·go_simp
 simp only [Act.put,zq5,zr5,zs5];clear inv16;refine sk hH (i:=17) (v:=.int .i64 ce) (Ze rfl) inv17 (fun X hX=>?_) fun inv18=>?_
 ·go_simp
 simp only [Act.put,zq5,zr5,zs5];clear inv17;have inv19:=HeadInv.put2 inv18 (j:=18) (by kernel_rfl) (by omega)
 clear inv18;refine sa1 (r:=18) B_X0.out ?_;refine ZC (Ze rfl) rfl (v:=v1) (w':=w1) (by go_simp) ?_
 simp only [Act.put,zq5,zr5,zs5];clear inv19 hH;refine Zv (by kernel_rfl) B_X0.out ?_
 simp only [List.drop_succ_cons,List.drop_zero];obtain⟨g1,d1,hv1⟩:=P1.out.len;subst hv1;clear x0 x1 x2 x3 x4;have x3:w1.cell? ⟨w.heap.size,3,none⟩=some (.slice a3 m.rocks.length (m.rocks.length+c3)):=(zCw RB B_X0).cell (i:=3) rfl;gi_wp2;by_cases hc:ce=0
 ·have dc:(ce == 0)=true:=by rw [beq_iff_eq];exact hc
  obtain⟨hg,hx⟩:=hgx.out hc;subst hc;go_wp2_with fail;refine (f2.out _ _ BW.out P1.out hg).mono ?_;rintro e w2 ⟨rfl,b2⟩;replace BW:=zAg BW b2;replace B_X0:=zAg B_X0 b2;have B_w1:=Lib.hid b2;clear b2;cases fb
  all_goals
   simp only [Bool.not_true,Bool.not_false] at hx;go_wp2;go_ret;exact⟨by simp,BW.out⟩
 ·have dc:(ce == 0)=false:=by rw [beq_eq_false_iff_ne];exact hc
  have db:decide (ce=0)=false:=by rw [decide_eq_false_iff_not];exact hc
  clear hgx;go_wp2;go_ret;exact⟨by rw [db];rfl,BW.out⟩
theorem Z9o (v:Value) (l:List Pt) (w:World) (hp:Z8 w.heap.size w v l) :
  Calls Tryz.prog 193 #[v] w fun e w'=>e=.returned (.bool (!Zc l))∧Below w.heap.size w w':=by
 have f:=Lib.hid (Zx v l w hp);clear hp;generalize Zc l=b at *;go_enter Tryz.func193,Tryz.ntmps193;go_wp2_with (go_at_call 93;refine (f.out).mono ?_;rintro e w1 ⟨rfl,hb1⟩;have hz1:=hb1.size;try simp at hz1)
 go_ret;exact⟨rfl,zB2⟩
theorem Z4Y (v : Value) (l : List (List Pt)) (w : World) (hr : Z7 w.heap.size w v l) :
  Calls Tryz.prog 169 #[v,.func (.func 193) #[] #[]] w (FindQ (!polysB l) w):=by
 obtain⟨hl,a,cap,rfl,hc⟩:=hr;go_enter Tryz.func169,Tryz.ntmps169;go_wp2
 go_loopw [8] (fun i wr=>∃ k:Nat,k≤l.length∧i=.int .i64 k∧(∀ j,j<k→Zc (rk l j)=true)∧Below w.heap.size w wr) (fun i _=>l.length-(intOf i).toNat)
 case atStart=>exact⟨0,Nat.zero_le _,rfl,fun j h=>by omega,Below.refl _ _⟩
 case round =>
  obtain⟨k,hk,rfl,hall,hB⟩:=hrel;by_cases hlt:k<l.length
  ·rcases hc with rfl | ⟨b,o,rfl,hb,hc⟩
   ·simp at hlt
   obtain⟨u,hu,hpu⟩:=hc k hlt;have c1:=(hB.cell (p:=⟨b,o+k,none⟩) hb).trans hu;have f:=Lib.hid (Z9o u (rk l k) wr ((hpu.below hB).mono hB.size));have hall':=Lib.hid hall;have hc':=Lib.hid hc;clear hall hc hu hpu;have hz:=hB.size;cases hpl:Zc (rk l k)
   ·rw [hpl] at f
    have hr:Hid (polysB l=false):=by
     show polysB l=false
     simp only [polysB,decide_eq_false_iff_not];intro h;have:=h k hlt;rw [hpl] at this;cases this
    go_wp2_with (go_at_call 193;refine (f.out).mono ?_;rintro e w1 ⟨rfl,hb1⟩;have hz1:=hb1.size;try simp at hz1)
    go_ret;exact⟨k,rfl,by omega,by omega,by rw [hr.out];simp,zB2⟩
   ·rw [hpl] at f
    go_wp2_with (go_at_call 193;refine (f.out).mono ?_;rintro e w1 ⟨rfl,hb1⟩;have hz1:=hb1.size;try simp at hz1)
    go_roundw
    case rel =>
     refine⟨k+1,by omega,by go_num,fun j hj=>?_,zB2⟩
     by_cases e:j=k
     ·rw [e];exact hpl
     ·exact hall'.out j (by omega)
    case measure=>simp [intOf];omega
  ·have hr:Hid (polysB l=true):=by
    show polysB l=true
    simp only [polysB,decide_eq_true_eq];intro j hj;exact hall j (by omega)
   clear hall;go_wp2;go_ret;exact⟨-1,rfl,by omega,by omega,by rw [hr.out];simp,hB⟩
theorem Z2P (v:Value) (l:List (List Pt)) (w:World) (hr:Z7 w.heap.size w v l) :
  Calls Tryz.prog 108 #[v,.func (.func 193) #[] #[]] w fun e w'=>e=.returned (.bool (!polysB l))∧Below w.heap.size w w':=by
 go_enter Tryz.func108,Tryz.ntmps108;go_wp2_with (go_at_call 169;refine (Z4Y v l _ hr).mono ?_;rintro e w1 ⟨r,rfl,r1,r2,r3,hb⟩);go_ret;exact⟨by first | rfl | exact Zs r3,hb⟩
theorem Z8c (v:Value) (l:List (List Pt)) (w:World) (hr:Z7 w.heap.size w v l) :
  Calls Tryz.prog 106 #[v] w fun e w'=>e=.returned (.bool (regB l))∧Below w.heap.size w w':=by
 have f:=Lib.hid (Z2P v l w hr);have HR:Hid (regB l=(decide (l.length≤32) && polysB l)):=rfl;generalize polysB l=b at *;obtain⟨hl,a,cap,rfl,hc⟩:=hr;by_cases h:l.length≤32
 ·have d:decide ((l.length:Int)≤32)=true:=by rw [decide_eq_true_eq];omega
  have g:Hid (∀ w1:World,w1=w→Calls Tryz.prog 168 #[.slice a l.length (l.length+cap)] w fun e w'=>e=.returned (.bool (!b))∧Below w.heap.size w w'):=fun w1 e1=>by
   subst e1;go_enter Tryz.func168,Tryz.ntmps168;go_wp2_with fail;refine f.out.mono ?_;rintro e w2 ⟨rfl,b2⟩;go_wp2;go_ret;exact⟨rfl,b2⟩
  have HV:=Lib.hid (show regB l=b by rw [HR.out];simp [h])
  go_enter Tryz.func106,Tryz.ntmps106;go_wp2_with fail;refine (g.out w rfl).mono ?_;rintro e w2 ⟨rfl,b2⟩;go_wp2;go_ret;exact⟨by rw [HV.out];simp,b2⟩
 ·have d:decide ((l.length:Int)≤32)=false:=by rw [decide_eq_false_iff_not];omega
  have HV:=Lib.hid (show regB l=false by rw [HR.out];simp [h])
  clear h;go_enter Tryz.func106,Tryz.ntmps106;go_wp2;go_ret;exact⟨by rw [HV.out];rfl,Below.refl _ _⟩
theorem Z8w (v:Value) (l:List Pt) (vq:Value) (q:List Pt) (b0:Nat) (w:World) (hc0:w.cell? ⟨b0,0,none⟩=some vq) (hq:Z8 w.heap.size w vq q) (hp:Z8 w.heap.size w v l) :
  Calls Tryz.prog 107 #[v,.pointer (some ⟨b0,0,none⟩)] w fun e w'=>e=.returned (.bool (!withinB l q))∧Below w.heap.size w w':=by
 have f:=Lib.hid (Z2k v vq l q w hp hq);clear hp;obtain⟨-,a1,c1,rfl,-⟩:=hq;generalize withinB l q=b at *;generalize bothE l q=e0 at *;go_enter Tryz.func107,Tryz.ntmps107;go_wp2_with fail;refine f.out.mono ?_;rintro e w2 ⟨rfl,b2⟩;go_wp2;go_ret;exact⟨rfl,b2⟩
theorem Z4X (v : Value) (l : List (List Pt)) (vq : Value) (q : List Pt) (b0 : Nat) (w : World) (hr : Z7 w.heap.size w v l) (hb0 : b0 < w.heap.size) (hc0 : w.cell? ⟨b0, 0, none⟩ = some vq) (hq : Z8 w.heap.size w vq q) :
  Calls Tryz.prog 169 #[v,.func (.func 107) #[] #[.pointer (some ⟨b0,0,none⟩)]] w (FindQ (!inAll l q) w):=by
 obtain⟨hl,a,cap,rfl,hc⟩:=hr;go_enter Tryz.func169,Tryz.ntmps169;go_wp2
 go_loopw [8] (fun i wr=>∃ k:Nat,k≤l.length∧i=.int .i64 k∧(∀ j,j<k→withinB (rk l j) q=true)∧Below w.heap.size w wr) (fun i _=>l.length-(intOf i).toNat)
 case atStart=>exact⟨0,Nat.zero_le _,rfl,fun j h=>by omega,Below.refl _ _⟩
 case round =>
  obtain⟨k,hk,rfl,hall,hB⟩:=hrel;by_cases hlt:k<l.length
  ·rcases hc with rfl | ⟨b,o,rfl,hb,hc⟩
   ·simp at hlt
   obtain⟨u,hu,hpu⟩:=hc k hlt;have c1:=(hB.cell (p:=⟨b,o+k,none⟩) hb).trans hu;have hz:=hB.size;have f:=Lib.hid (Z8w u (rk l k) vq q b0 wr ((hB.cell (p:=⟨b0,0,none⟩) hb0).trans hc0) ((hq.below hB).mono hB.size) ((hpu.below hB).mono hB.size));have hall':=Lib.hid hall;have hc':=Lib.hid hc;clear hall hc hu hpu;cases hpl:withinB (rk l k) q
   ·rw [hpl] at f
    have hr:Hid (inAll l q=false):=by
     show inAll l q=false
     simp only [inAll,decide_eq_false_iff_not];intro h;have:=h k hlt;rw [hpl] at this;cases this
    go_wp2_with (go_at_call 107;refine (f.out).mono ?_;rintro e w1 ⟨rfl,hb1⟩;have hz1:=hb1.size;try simp at hz1)
    go_ret;exact⟨k,rfl,by omega,by omega,by rw [hr.out];simp,zB2⟩
   ·rw [hpl] at f
    go_wp2_with (go_at_call 107;refine (f.out).mono ?_;rintro e w1 ⟨rfl,hb1⟩;have hz1:=hb1.size;try simp at hz1)
    go_roundw
    case rel =>
     refine⟨k+1,by omega,by go_num,fun j hj=>?_,zB2⟩
     by_cases e:j=k
     ·rw [e];exact hpl
     ·exact hall'.out j (by omega)
    case measure=>simp [intOf];omega
  ·have hr:Hid (inAll l q=true):=by
    show inAll l q=true
    simp only [inAll,decide_eq_true_eq];intro j hj;exact hall j (by omega)
   clear hall;go_wp2;go_ret;exact⟨-1,rfl,by omega,by omega,by rw [hr.out];simp,hB⟩
theorem Z2O (v:Value) (l:List (List Pt)) (vq:Value) (q:List Pt) (b0:Nat) (w:World) (hr:Z7 w.heap.size w v l) (hb0:b0<w.heap.size) (hc0:w.cell? ⟨b0,0,none⟩=some vq) (hq:Z8 w.heap.size w vq q) :
  Calls Tryz.prog 108 #[v,.func (.func 107) #[] #[.pointer (some ⟨b0,0,none⟩)]] w fun e w'=>e=.returned (.bool (!inAll l q))∧Below w.heap.size w w':=by
 go_enter Tryz.func108,Tryz.ntmps108;go_wp2_with (go_at_call 169;refine (Z4X v l vq q b0 _ hr hb0 hc0 hq).mono ?_;rintro e w1 ⟨r,rfl,r1,r2,r3,hb⟩);go_ret;exact⟨by first | rfl | exact Zs r3,hb⟩
noncomputable def rwB (r:List (List Pt)) (p:List Pt):Bool:=regB r && (Zc p && inAll r p)
noncomputable def rwE (r:List (List Pt)) (p:List Pt):Int:=if regB r && Zc p then 0 else 1
theorem Z6J (vr:Value) (r:List (List Pt)) (vp:Value) (p:List Pt) (w:World) (hr:Z7 w.heap.size w vr r) (hp:Z8 w.heap.size w vp p) :
  Calls Tryz.prog 53 #[vr,vp] w fun e w'=>e=.returned (.tuple #[.bool (rwB r p),.int .i64 (rwE r p)])∧Below w.heap.size w w':=by
 have f1:=fun w1 (B:Below w.heap.size w w1)=>Z8c vr r w1 ((hr.below B).mono B.size)
 have f2:=fun w1 (B:Below w.heap.size w w1)=>Zx vp p w1 ((hp.below B).mono B.size)
 have f3:=fun w1 (B:Below w.heap.size w w1) hb hc=>Z2O vr r vp p w.heap.size w1 ((hr.below B).mono B.size) hb hc ((hp.below B).mono B.size)
 have H1:Hid (rwB r p=(regB r && (Zc p && inAll r p))):=rfl;have H2:Hid (rwE r p=if regB r && Zc p then 0 else 1):=rfl
 generalize rwB r p=x at *;generalize rwE r p=y at *;generalize regB r=b1 at *;generalize Zc p=b2 at *;generalize inAll r p=b3 at *;obtain⟨-,a1,cap1,rfl,-⟩:=hr;obtain⟨-,a2,cap2,rfl,-⟩:=hp;replace f1:=Lib.hid f1;replace f2:=Lib.hid f2;replace f3:=Lib.hid f3;have BW:=Lib.hid (Below.refl w.heap.size w);go_enter Tryz.func53,Tryz.ntmps53;go_wp2_with fail;generalize hXX0:World.alloc w _=X0;obtain⟨q0,hA,hzX0⟩:=box1 hXX0;clear hXX0;have BW:=Lib.hid hA;clear hA;have PB:=Lib.hid q0;clear q0;refine (f1.out _ BW.out).mono ?_;rintro e w1 ⟨rfl,b1⟩;replace BW:=zAg BW b1;have B_X0:=Lib.hid b1;clear b1;have x0:=(zCw PB B_X0).cell (i:=0) rfl;cases b1
 ·go_wp2
  go_ret2;exact⟨by rw [H1.out,H2.out];rfl,BW.out⟩
 go_wp2_with fail;refine (f2.out _ BW.out).mono ?_;rintro e w2 ⟨rfl,b2⟩;replace BW:=zAg BW b2;replace B_X0:=zAg B_X0 b2;clear b2 x0;cases b2
 ·go_wp2
  go_ret2;exact⟨by rw [H1.out,H2.out];rfl,BW.out⟩
 go_wp2_with fail;refine (f3.out _ BW.out (zCw PB B_X0).lt ((zCw PB B_X0).cell (i:=0) rfl)).mono ?_;rintro e w3 ⟨rfl,b3⟩;replace BW:=zAg BW b3;replace B_X0:=zAg B_X0 b3;clear b3;go_wp2;go_ret2;exact⟨by rw [H1.out,H2.out];simp,BW.out⟩
theorem Z7A (v : Value) (l : List Int) (x : Int) (w : World) (hl : Za w.heap.size w v l) :
  Calls Tryz.prog 160 #[v,.int .i64 x] w (FindQ (decide (x ∈ l)) w):=by
 obtain⟨hl,a,cap,rfl,hc⟩:=hl;go_enter Tryz.func160,Tryz.ntmps160;go_wp2
 go_loopw [8] (fun i wr=>∃ k:Nat,k≤l.length∧i=.int .i64 k∧(∀ j,j<k→l.getD j 0≠x)∧wr=w) (fun i _=>l.length-(intOf i).toNat)
 case atStart=>exact⟨0,Nat.zero_le _,rfl,fun j h=>by omega,rfl⟩
 case round =>
  obtain⟨k,hk,rfl,hall,hB⟩:=hrel;subst hB;by_cases hlt:k<l.length
  ·rcases hc with rfl | ⟨b,o,rfl,hb,hc⟩
   ·simp at hlt
   have c1:=hc k hlt;have hall':=Lib.hid hall;have hc':=Lib.hid hc;have hg:l.getD k 0 ∈ l:=by rw [List.getD,List.getElem?_eq_getElem hlt];exact List.getElem_mem hlt
   obtain⟨y,hy0⟩:∃ y,l.getD k 0=y:=⟨_,rfl⟩;rw [hy0] at c1 hg;have HY:=Lib.hid hy0;clear hall hc hy0;by_cases hy:x=y
   ·have dy:(x == y)=true:=by rw [beq_iff_eq];exact hy
    have hr:=Lib.hid (show decide (x ∈ l)=true by rw [decide_eq_true_eq,hy];exact hg)
    clear hg hy;go_wp2;go_ret;exact⟨k,rfl,by omega,by omega,by rw [hr.out];simp,Below.refl _ _⟩
   ·have dy:(x == y)=false:=by rw [beq_eq_false_iff_ne];exact hy
    have hyy:=Lib.hid hy;clear hg hy;go_wp2;go_roundw
    case rel =>
     refine⟨k+1,by omega,by go_num,fun j hj=>?_,by first | rfl | trivial⟩
     by_cases e:j=k
     ·rw [e,HY.out];exact fun h=>hyy.out h.symm
     ·exact hall'.out j (by omega)
    case measure=>simp [intOf];omega
  ·have hr:Hid (decide (x ∈ l)=false):=by
    show decide (x ∈ l)=false
    rw [decide_eq_false_iff_not];intro h;obtain⟨j,hj,rfl⟩:=List.getElem_of_mem h;exact hall j (by omega) (by rw [List.getD,List.getElem?_eq_getElem hj];rfl)
   clear hall;go_wp2;go_ret;exact⟨-1,rfl,by omega,by omega,by rw [hr.out];simp,Below.refl _ _⟩
theorem Z4B (v:Value) (l:List Int) (x:Int) (w:World) (hl:Za w.heap.size w v l) :
  Calls Tryz.prog 95 #[v,.int .i64 x] w fun e w'=>e=.returned (.bool (decide (x ∈ l)))∧Below w.heap.size w w':=by
 go_enter Tryz.func95,Tryz.ntmps95;go_wp2_with (go_at_call 160;refine (Z7A _ _ _ _ hl).mono ?_;rintro e w1 ⟨r,rfl,r1,r2,r3,hb⟩);go_ret;exact⟨by first | rfl | exact Zs r3,hb⟩
theorem Z0A (n most:Int) (w:World):Calls Tryz.prog 94 #[.int .i64 n,.int .i64 most] w fun e w'=>e=.returned (.bool (wthB n most))∧w'=w:=by
 have H:Hid (wthB n most=decide (0≤n∧n≤most)):=rfl;by_cases h:0≤n
 ·have d:decide (0≤n)=true:=by rw [decide_eq_true_eq];exact h
  by_cases h2:n≤most
  ·have d2:decide (n≤most)=true:=by rw [decide_eq_true_eq];exact h2
   have HV:=Lib.hid (show wthB n most=true by rw [H.out,decide_eq_true_eq];exact⟨h,h2⟩)
   clear h h2;go_enter Tryz.func94,Tryz.ntmps94;go_wp2;go_ret;exact⟨by rw [HV.out];rfl,rfl⟩
  ·have d2:decide (n≤most)=false:=by rw [decide_eq_false_iff_not];exact h2
   have HV:=Lib.hid (show wthB n most=false by rw [H.out,decide_eq_false_iff_not];exact fun x=>h2 x.2)
   clear h h2;go_enter Tryz.func94,Tryz.ntmps94;go_wp2;go_ret;exact⟨by rw [HV.out];rfl,rfl⟩
 ·have d:decide (0≤n)=false:=by rw [decide_eq_false_iff_not];exact h
  have HV:=Lib.hid (show wthB n most=false by rw [H.out,decide_eq_false_iff_not];exact fun x=>h x.1)
  clear h;go_enter Tryz.func94,Tryz.ntmps94;go_wp2;go_ret;exact⟨by rw [HV.out];rfl,rfl⟩
theorem Z4I (m:Msn) (l:List Int):rdE m l=if radOkB m l=true then 0 else 1:=by unfold rdE;rfl
theorem Z0o {m:Msn} {l:List Int} (h:radOkB m l=true):validB m=true∧stopsB m l=true:=by unfold radOkB at h;rwa [Bool.and_eq_true] at h
theorem Z8g (m : Msn) (vw vh vr : Value) (c : Crt) (vs vp ve : Value) (w : World) (hm : MsnAt w.heap.size w m vw vh vr) (hc : CrtAt w.heap.size w c vs vp ve) :
  Calls Tryz.prog 41 #[.agg (Zd m vw vh vr),.agg #[vs,vp,ve]] w fun e w'=>e=.returned (.bool (frmB m c))∧Below w.heap.size w w':=by
 have f1:=fun w1 (B:Below w.heap.size w w1)=>Z5w m vw vh vr vs c.stops w1 ((hm.below B).mono B.size) ((hc.1.below B).mono B.size)
 rw [Z4I] at f1;have hv2:=fun h=>Z0o (m:=m) (l:=c.stops) h
 have HF:frmB m c=(radOkB m c.stops && decide (c.psg.length=m.ways.length-1) && decide (c.ret.length=m.ways.length-1) && decide (∀ j,j<c.psg.length→okP c j=true)):=rfl;generalize frmB m c=fb at *;obtain⟨⟨-,a1,cap1,rfl,-⟩,⟨-,a2,cap2,rfl,-⟩,⟨-,a3,cap3,rfl,-⟩⟩:=hm;obtain⟨⟨-,aS,cS,rfl,-⟩,⟨-,ap,cp,rfl,hcp⟩,⟨-,ar,cr,rfl,hcr⟩⟩:=hc;unfold Zd at *;have HCP:=Lib.hid hcp;have HCR:=Lib.hid hcr;replace f1:=Lib.hid f1;replace HF:=Lib.hid HF;clear hcp hcr;have BW:=Lib.hid (Below.refl w.heap.size w);go_enter Tryz.func41,Tryz.ntmps41;go_wp2_with fail;generalize hXX0:World.alloc (World.alloc w _) _=X0;obtain⟨q0,q1,hA,hzX0⟩:=box2 hXX0;clear hXX0;have BW:=Lib.hid hA;clear hA;have MB:=Lib.hid q0;clear q0;have CB:=Lib.hid q1;clear q1 hzX0;obtain⟨c0,c1,c2,c3,c4,c5,c6,c7,c8,c9,c10⟩:=Zi (m:=m) MB.out;have hcb:=CB.out;have e0:=hcb.cell (i:=0) rfl;have e1:=hcb.cell (i:=1) rfl;have e2:=hcb.cell (i:=2) rfl;refine (f1.out _ BW.out).mono ?_;rintro e w1 ⟨u1,u2,rfl,-,-,b1⟩;replace BW:=zAg BW b1;have B_X0:=Lib.hid b1;clear b1 c0 c1 c2 c3 c4 c5 c6 c7 c8 c9 c10 hcb e0 e1 e2;obtain⟨c0,c1,c2,c3,c4,c5,c6,c7,c8,c9,c10⟩:=Zi (m:=m) (zCw MB B_X0);have hcb:=(zCw CB B_X0);have e0:=hcb.cell (i:=0) rfl;have e1:=hcb.cell (i:=1) rfl;have e2:=hcb.cell (i:=2) rfl;cases hok:radOkB m c.stops
 ·have HV:=Lib.hid (show fb=false by rw [HF.out,hok];rfl)
  go_wp2;go_ret;exact⟨by rw [HV.out];rfl,BW.out⟩
 obtain⟨hV,-⟩:=hv2 hok;have V:=(Zp m).1 hV;have n2:=V.n2;have n41:=V.n41;have hfb:=Lib.hid (show fb=(decide (c.psg.length=m.ways.length-1) && decide (c.ret.length=m.ways.length-1) && decide (∀ j,j<c.psg.length→okP c j=true)) by rw [HF.out,hok];rfl)
 clear hok hV V hv2 HF;obtain⟨n,hn⟩:∃ n,m.ways.length-1=n:=⟨_,rfl⟩;have jw:IntKind.i64.wrap ((m.ways.length:Int)-1)=(n:Int):=by rw [show (m.ways.length:Int)-1=(n:Int) by omega];exact zW2
 have hn8:n≤40:=by omega
 replace hfb:=hfb.out;rw [hn] at hfb;replace hfb:=Lib.hid hfb;clear hn;by_cases h1:c.psg.length=n;rotate_left
 ·have d1:((c.psg.length:Int) == (n:Int))=false:=by rw [beq_eq_false_iff_ne];omega
  have d1':((c.psg.length:Int) != (n:Int))=true:=by rw [bne_iff_ne];omega
  have HV:=Lib.hid (show fb=false by rw [hfb.out,decide_eq_false h1];rfl)
  clear h1;go_wp2;go_ret;exact⟨by rw [HV.out];rfl,BW.out⟩
 by_cases h2:c.ret.length=n;rotate_left
 ·have d1:((c.psg.length:Int) != (n:Int))=false:=by rw [bne_eq_false_iff_eq];omega
  have d2:((c.ret.length:Int) == (n:Int))=false:=by rw [beq_eq_false_iff_ne];omega
  have d2':((c.ret.length:Int) != (n:Int))=true:=by rw [bne_iff_ne];omega
  have HV:=Lib.hid (show fb=false by rw [hfb.out,decide_eq_false h2];simp)
  clear h1 h2;go_wp2;go_ret;exact⟨by rw [HV.out];rfl,BW.out⟩
 have d1:((c.psg.length:Int) == (n:Int))=true:=by rw [beq_iff_eq];omega
 have d2:((c.ret.length:Int) == (n:Int))=true:=by rw [beq_iff_eq];omega
 have d3:((n:Int) == (n:Int))=true:=by simp
 replace hfb:=hfb.out;rw [decide_eq_true h1,decide_eq_true h2,Bool.true_and,Bool.true_and,h1] at hfb;have H1:=Lib.hid h1;have H2:=Lib.hid h2;rw [h1] at e1;rw [h2] at e2;clear h1 h2 d1 d2;replace hfb:=Lib.hid hfb;go_wp2;have BC:=Lib.hid (Below.refl w1.heap.size w1);have hCB:=Lib.hid (zCw CB B_X0);clear c0 c1 c2 c3 c4 c5 c6 c7 c8 c9 c10 hcb e0 e1 e2
 go_loopw [42] (fun i wr=>∃ k:Nat,k≤n∧i=.int .i64 k∧(∀ j,j<k→okP c j=true)∧Below w1.heap.size w1 wr) (fun i _=>n-(intOf i).toNat)
 case atStart=>exact⟨0,Nat.zero_le _,rfl,fun j h=>by omega,Below.refl _ _⟩
 case round =>
  obtain⟨k,hk,rfl,hall,hB⟩:=hrel;obtain⟨wo,hwo⟩:∃ x,x=wr:=⟨_,rfl⟩;subst hwo;have HA:=Lib.hid hall;have BB:=Lib.hid (And.intro hB (BW.out.trans (hB.mono BW.out.size)));clear hall hB;by_cases hlt:k<n
  ·obtain⟨b,o,rfl,hb,hc⟩:=HCP.out.resolve_left (by intro h;have:=H1.out;rw [h] at this;simp at this;omega)
   obtain⟨u,x0,hu,x1,x2,x3,x4⟩:=hc k (by rw [H1.out];exact hlt)
   obtain⟨b',o',rfl,hb',hc'⟩:=HCR.out.resolve_left (by intro h;have:=H2.out;rw [h] at this;simp at this;omega)
   have x5:=hc' k (by rw [H2.out];exact hlt)
   have hok:Hid (okP c k=(Zc (pgd c.psg k).cor && (wthB (pgd c.psg k).fr 100000 && (wthB (pgd c.psg k).tw 100000 && (wthB (pgd c.psg k).tm 1000000000 && (wthB (pgd c.psg k).en 1000000000 && wthB (c.ret.getD k 0) 1000000000)))))):=rfl;have hno:=Lib.hid (fun h:okP c k=false=>show fb=false by
    rw [hfb.out,decide_eq_false_iff_not];intro h';rw [h' k hlt] at h;cases h)
   generalize pgd c.psg k=p at *;generalize c.ret.getD k 0=re at *;replace x0:=(BB.out.2.cell (p:=⟨b,o+k*5,none⟩) hb).trans x0;replace x1:=(BB.out.2.cell (p:=⟨b,o+k*5+1,none⟩) hb).trans x1;replace x2:=(BB.out.2.cell (p:=⟨b,o+k*5+2,none⟩) hb).trans x2;replace x3:=(BB.out.2.cell (p:=⟨b,o+k*5+3,none⟩) hb).trans x3;replace x4:=(BB.out.2.cell (p:=⟨b,o+k*5+4,none⟩) hb).trans x4;replace x5:=(BB.out.2.cell (p:=⟨b',o'+k,none⟩) hb').trans x5;have HU:=Lib.hid ((hu.below BB.out.2).mono BB.out.2.size);obtain⟨au,cu,rfl⟩:=HU.out.len;have HX5:=Lib.hid x5;have hbz:=BB.out.2.size;have hbb2:b'<wo.heap.size:=by omega
   have hCX:=Lib.hid (hCB.out.below BB.out.1 hCB.out.lt);have dk:decide ((k:Int)<(n:Int))=true:=by rw [decide_eq_true_eq];omega
   have kl:(k:Int)<(n:Int):=by omega
   have k0:(0:Int)≤(k:Int):=by omega
   have BR:=Lib.hid (Below.refl wo.heap.size wo);clear hc hc' hu x5;go_upto_region 8 with fail
   generalize hXX8:World.alloc wo _=X8;obtain⟨q0,hA,hzX8⟩:=box1 hXX8;clear hXX8;have BR:=Lib.hid hA;clear hA;have PB:=Lib.hid q0;clear q0 x0 x1 x2 x3 x4;have hpb:=PB.out;have y0:=hpb.cell (i:=0) rfl;have y1:=hpb.cell (i:=1) rfl;have y2:=hpb.cell (i:=2) rfl;have y3:=hpb.cell (i:=3) rfl;have y4:=hpb.cell (i:=4) rfl;have hcx:=(zCw hCX BR);have e2:X8.cell? ⟨w.heap.size+1,2,none⟩=some (.slice (some ⟨b',o',none⟩) n (n+cr)):=(hcx.cell (i:=2) rfl).trans (by rw [H2.out];rfl)
   have x5:=(BR.out.cell (p:=⟨b',o'+k,none⟩) hbb2).trans HX5.out;go_wp2_with fail;refine (Zx _ p.cor X8 ((HU.out.below BR.out).mono BR.out.size)).mono ?_;rintro e w2 ⟨rfl,b2⟩;replace BR:=zAg BR b2;have B_X8:=Lib.hid b2;clear b2 hpb y0 y1 y2 y3 y4 hcx e2 x5;have hpb:=(zCw PB B_X8);have y0:=hpb.cell (i:=0) rfl;have y1:=hpb.cell (i:=1) rfl;have y2:=hpb.cell (i:=2) rfl;have y3:=hpb.cell (i:=3) rfl;have y4:=hpb.cell (i:=4) rfl;have hcx:=(zCw hCX BR);have e2:w2.cell? ⟨w.heap.size+1,2,none⟩=some (.slice (some ⟨b',o',none⟩) n (n+cr)):=(hcx.cell (i:=2) rfl).trans (by rw [H2.out];rfl)
   have x5:=(BR.out.cell (p:=⟨b',o'+k,none⟩) hbb2).trans HX5.out;cases hb0:Zc p.cor
   ·skip
    have HV:=Lib.hid (hno.out (by rw [hok.out,hb0];rfl))
    go_wp2;go_ret;exact⟨by rw [HV.out];rfl,BB.out.2.trans (BR.out.mono BB.out.2.size)⟩
   go_wp2_with fail;refine (Z0A _ _ _).mono ?_;rintro e0 w0 ⟨rfl,hw0⟩;rw [hw0];clear hw0 w0;cases hb1:wthB p.fr 100000
   ·skip
    have HV:=Lib.hid (hno.out (by rw [hok.out,hb0,hb1];rfl))
    go_wp2;go_ret;exact⟨by rw [HV.out];rfl,BB.out.2.trans (BR.out.mono BB.out.2.size)⟩
   go_wp2_with fail;refine (Z0A _ _ _).mono ?_;rintro e0 w0 ⟨rfl,hw0⟩;rw [hw0];clear hw0 w0;cases hb2:wthB p.tw 100000
   ·skip
    have HV:=Lib.hid (hno.out (by rw [hok.out,hb0,hb1,hb2];rfl))
    go_wp2;go_ret;exact⟨by rw [HV.out];rfl,BB.out.2.trans (BR.out.mono BB.out.2.size)⟩
   go_wp2_with fail;refine (Z0A _ _ _).mono ?_;rintro e0 w0 ⟨rfl,hw0⟩;rw [hw0];clear hw0 w0;cases hb3:wthB p.tm 1000000000
   ·skip
    have HV:=Lib.hid (hno.out (by rw [hok.out,hb0,hb1,hb2,hb3];rfl))
    go_wp2;go_ret;exact⟨by rw [HV.out];rfl,BB.out.2.trans (BR.out.mono BB.out.2.size)⟩
   go_wp2_with fail;refine (Z0A _ _ _).mono ?_;rintro e0 w0 ⟨rfl,hw0⟩;rw [hw0];clear hw0 w0;cases hb4:wthB p.en 1000000000
   ·skip
    have HV:=Lib.hid (hno.out (by rw [hok.out,hb0,hb1,hb2,hb3,hb4];rfl))
    go_wp2;go_ret;exact⟨by rw [HV.out];rfl,BB.out.2.trans (BR.out.mono BB.out.2.size)⟩
   go_wp2_with fail;refine (Z0A _ _ _).mono ?_;rintro e0 w0 ⟨rfl,hw0⟩;rw [hw0];clear hw0 w0;cases hb5:wthB re 1000000000
   ·skip
    have HV:=Lib.hid (hno.out (by rw [hok.out,hb0,hb1,hb2,hb3,hb4,hb5];rfl))
    go_wp2;go_ret;exact⟨by rw [HV.out];rfl,BB.out.2.trans (BR.out.mono BB.out.2.size)⟩
   have HV:=Lib.hid (show okP c k=true by rw [hok.out,hb0,hb1,hb2,hb3,hb4,hb5];rfl)
   clear hpb y0 y1 y2 y3 y4 hcx e2 x5;go_wp2;go_roundw
   case rel =>
    refine⟨k+1,by omega,by go_num,fun j hj=>?_,BB.out.1.trans (BR.out.mono BB.out.1.size)⟩
    by_cases e:j=k
    ·rw [e];exact HV.out
    ·exact HA.out j (by omega)
   case measure=>simp [intOf];omega
  obtain rfl:k=n:=by omega
  have jj:decide ((k:Int)<(k:Int))=false:=by simp
  have HV:=Lib.hid (show fb=true by rw [hfb.out,decide_eq_true_eq];exact HA.out)
  go_wp2;go_ret;exact⟨by rw [HV.out];rfl,BB.out.2⟩
end
end Go.Proofs.YtpimbaaahcemhaaGreat
