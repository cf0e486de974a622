/- Plans: what the legs of a mission with stops come to. No program here. | package tryst: has, disk. | package plan: trip.clear, trip.back. | package .. -/
import Derived.Test.YtdolkgihppgpcaaGreatBin23
import Derived.Test.YtdolkgihppgpcaaGreatBin26
set_option linter.unusedSimpArgs false
set_option linter.unusedVariables false
set_option maxRecDepth 8000
set_option maxHeartbeats 3200000
namespace Go.Proofs.YtdolkgihppgpcaaGreat
def atW (m:Msn) (k:Nat):Pt:=⟨(wy m.ways k).x,(wy m.ways k).y⟩
noncomputable def clrB (m:Msn) (a:Nat) (u:Int) (b:Nat) (w:Int):Bool:=!firB (corL (atW m a) u (atW m b) w) m.rocks
def bkR (m:Msn) (a:Nat) (r:Int):Nat→Int
 | 0=>r
 | j+1=>bkR m a r j+gLeg m (itB m a j) (itB m a (j+1))
noncomputable def bkC (m:Msn) (a:Nat) (r:Int):Nat→Bool
 | 0=>true
 | j+1=>bkC m a r j && clrB m (itB m a j) (bkR m a r j) (itB m a (j+1)) (bkR m a r (j+1))
noncomputable def lieB (m:Msn) (r:Int):Bool:=decide ((cornersP (mvL (atW m 0) (Z5 r.toNat)) m.home).length=(mvL (atW m 0) (Z5 r.toNat)).length)
noncomputable def kindV (m:Msn) (l:List Int) (k:Nat):Int :=
 if clrB m k (rdA m l k) (k+1) (rdB m l (k+1))=false then 1
 else if bkC m (k+1) (rdB m l (k+1)) (dep m (k+1))=false then 5
 else if lieB m (bkR m (k+1) (rdB m l (k+1)) (dep m (k+1)))=false then 2
 else if usE m l (k+1)+homeE m (k+1) (dep m (k+1))>m.battery then 3
 else if usT m l (k+1)+homeT m (k+1) (dep m (k+1))>m.deadline then 4
 else 0
noncomputable def leadF (m:Msn) (l:List Int):Nat→Nat→Nat
 | 0,k=>k
 | n+1,k=>if kindV m l k=0 then leadF m l n (k+1) else k
noncomputable def leadN (m:Msn) (l:List Int):Nat:=leadF m l (m.ways.length-1) 0
noncomputable def leadV (m:Msn) (l:List Int):Int:=leadN m l
noncomputable def leadK (m:Msn) (l:List Int):Int:=if leadN m l<m.ways.length-1 then kindV m l (leadN m l) else 0
theorem Z3a (m:Msn) (l:List Int):∀ n k,k≤leadF m l n k∧leadF m l n k≤k+n∧(∀ j,k≤j→j<leadF m l n k→kindV m l j=0)∧(leadF m l n k<k+n→kindV m l (leadF m l n k)≠0)
 | 0,k=>⟨Nat.le_refl _,Nat.le_refl _,fun j h1 h2=>by simp only [leadF] at h2;omega,fun h=>by simp only [leadF] at h;omega⟩
 | n + 1, k => by
  simp only [leadF];by_cases h:kindV m l k=0
  ·rw [if_pos h]
   obtain⟨a,b,c,d⟩:=Z3a m l n (k+1);refine⟨by omega,by omega,fun j h1 h2=>?_,fun h2=>d (by omega)⟩
   rcases Nat.lt_or_eq_of_le h1 with e | e
   ·exact c j e h2
   ·rw [← e];exact h
  ·rw [if_neg h]
   exact⟨Nat.le_refl _,by omega,fun j h1 h2=>by omega,fun _=>h⟩
theorem Z1r (m:Msn) (l:List Int):leadN m l≤m.ways.length-1∧(∀ j,j<leadN m l→kindV m l j=0)∧(leadN m l<m.ways.length-1→kindV m l (leadN m l)≠0):=by
 obtain⟨a,b,c,d⟩:=Z3a m l (m.ways.length-1) 0;exact⟨by unfold leadN;omega,fun j h=>c j (Nat.zero_le _) h,fun h=>d (by unfold leadN at h;omega)⟩
theorem Z3F {m:Msn} {l:List Int} {n:Nat} (h:n≤m.ways.length-1) (h1:∀ j,j<n→kindV m l j=0) (h2:n<m.ways.length-1→kindV m l n≠0):leadN m l=n:=by
 obtain⟨a,b,c⟩:=Z1r m l;rcases Nat.lt_trichotomy (leadN m l) n with e | e | e
 ·exact (c (by omega) (h1 _ e)).elim
 ·exact e
 ·exact (h2 (by omega) (b _ e)).elim
theorem Z3G (m:Msn) (l:List Int) (k:Nat):0≤kindV m l k∧kindV m l k≤5:=by
 unfold kindV
 repeat' split
 all_goals omega
theorem Z4g (m:Msn):∀ k,onsTo m k=sumG m k
 | 0=>rfl
 | k+1=>by rw [onsTo,sumG,Z4g m k]
theorem Z6f (m:Msn) (a:Nat) (r:Int):∀ j,bkR m a r j=r+homeP m a j
 | 0=>by simp [bkR,homeP]
 | j+1=>by simp only [bkR,homeP,Z6f m a r j];omega
theorem Z1L {m:Msn} (V:VMsn m) {a:Nat} (ha:a<m.ways.length) (i:Nat):∀ j,i≤j→j≤dep m a→homeP m a i≤homeP m a j
 | 0,h,_=>by rw [Nat.le_zero.1 h];exact Int.le_refl _
 | j + 1, h, hj => by
  rcases Nat.lt_or_eq_of_le h with e | e
  ·have ih:=Z1L V ha i j (by omega) (by omega)
   have g:=Z01 V.leg V.ways (Z0m V.ways ha (j:=j) (by omega)) (Z0m V.ways ha (j:=j+1) hj)
   simp only [homeP];omega
  ·rw [e];exact Int.le_refl _
theorem bk_bd {m:Msn} (V:VMsn m) (l:List Int) {a:Nat} (ha:a<m.ways.length) {j:Nat} (hj:j≤dep m a):0≤bkR m a (rdB m l a) j∧bkR m a (rdB m l a) j≤100000:=by
 have r:=rd_bd V l a ha;have h:=Z8N V.leg V.ways V.start V.grown ha;have m1:=Z1L V ha 0 j (Nat.zero_le _) hj;have m2:=Z1L V ha j (dep m a) hj (Nat.le_refl _);rw [Z4g] at h;rw [Z6f];have:homeP m a 0=0:=rfl;omega
theorem Z6h {m:Msn} (V:VMsn m) {k:Nat} (hk:k<m.ways.length):-300000≤(atW m k).x∧(atW m k).x≤300000∧-300000≤(atW m k).y∧(atW m k).y≤300000:=Z0f V.ways hk
theorem Z8h {m:Msn} (V:VMsn m) {a b:Nat} (ha:a<m.ways.length) (hb:b<m.ways.length) {u w:Int} (hu:0≤u∧u≤100000) (hw:0≤w∧w≤100000):corE (atW m a) u (atW m b) w=0:=by
 have p:=Z6h V ha;have q:=Z6h V hb;exact Z9m (by omega) (by omega) hu hw
section
attribute [local irreducible] wpQuiet
open Go.RowKit
theorem ZY (m:Msn) (l:List Int):(rdAU m l).length=m.ways.length:=by unfold rdAU;exact Zx _ _
theorem Z1V (m:Msn) (l:List Int):(usedT m l).length=m.ways.length:=by unfold usedT;exact Zx _ _
theorem Z1i (f:Nat→Int) {n j:Nat} (h:j<n):(upto f n).getD j 0=f j:=by simp [upto,List.getD,h]
theorem ZH {n0:Nat} {W:World} {v:Value} {l:List Int} (h:Z9 n0 W v l) (h0:0<l.length):∃ b o cap,v=.slice (some ⟨b,o,none⟩) l.length (l.length+cap)∧b<n0∧∀ j,j<l.length→W.cell? ⟨b,o+j,none⟩=some (.int .i64 (l.getD j 0)):=by
 obtain⟨_,a,cap,e,hc⟩:=h;rcases hc with rfl | ⟨b,o,rfl,hb,hc⟩
 ·simp at h0
 ·exact⟨b,o,cap,e,hb,hc⟩
structure TripAt (n0:Nat) (W:World) (m:Msn) (l:List Int) (vw vh vr vb va vt ve:Value):Prop where
 msn:MsnAt n0 W m vw vh vr
 bef:Z9 n0 W vb (rdBU m l)
 aft:Z9 n0 W va (rdAU m l)
 tim:Z9 n0 W vt (usedT m l)
 ene:Z9 n0 W ve (usedE m l)
theorem TripAt.up {A B:World} {m:Msn} {l:List Int} {vw vh vr vb va vt ve:Value} (h:TripAt A.heap.size A m l vw vh vr vb va vt ve) (k:Below A.heap.size A B):TripAt B.heap.size B m l vw vh vr vb va vt ve :=
 ⟨(h.msn.below k).mono k.size,(h.bef.below k).mono k.size,(h.aft.below k).mono k.size,(h.tim.below k).mono k.size,(h.ene.below k).mono k.size⟩
theorem ZD (m:Msn) (l:List Int):(rdBU m l).length=m.ways.length:=by unfold rdBU;exact Zx _ _
theorem Z10 {m:Msn} {l:List Int} {k:Nat} (h:k<m.ways.length):(rdBU m l).getD k 0=rdB m l k:=by rw [rdBU,Z1i _ h]
theorem Z3C {m:Msn} {l:List Int} {k:Nat} (h:k<m.ways.length):(rdAU m l).getD k 0=rdA m l k:=by rw [rdAU,Z1i _ h]
theorem Z30 (m:Msn) (l:List Int) (vw vh vr vb va vt ve:Value) (w:World) (T:TripAt w.heap.size w m l vw vh vr vb va vt ve) (a b:Nat) (u v:Int) (ha:a<m.ways.length) (hb:b<m.ways.length) (n41:m.ways.length≤41) :
  Calls Tryz.prog 73 #[.agg (tripCells m vw vh vr vb va vt ve),.int .i64 a,.int .i64 u,.int .i64 b,.int .i64 v] w fun e w'=>e=.returned (.bool (clrB m a u b v))∧Below w.heap.size w w':=by
 have f1:=fun w1=>Z0o ⟨(wy m.ways a).x,(wy m.ways a).y⟩ ⟨(wy m.ways b).x,(wy m.ways b).y⟩ u v w1
 have f2:=fun vc w1 (B:Below w.heap.size w w1) h=>Z2F vc vr (corL ⟨(wy m.ways a).x,(wy m.ways a).y⟩ u ⟨(wy m.ways b).x,(wy m.ways b).y⟩ v) m.rocks w1 h (((T.msn.2.2).below B).mono B.size)
 unfold clrB atW;obtain⟨⟨-,a1,c1,rfl,hcw⟩,⟨-,a2,c2,rfl,-⟩,⟨-,a3,c3,rfl,-⟩⟩:=T.msn;obtain⟨-,ab,cb,rfl,-⟩:=T.bef;obtain⟨-,aa,ca,rfl,-⟩:=T.aft;obtain⟨-,at',ct,rfl,-⟩:=T.tim;obtain⟨-,ae,ce,rfl,-⟩:=T.ene;obtain⟨bw,ow,rfl,hbw,hcw⟩:=hcw.resolve_left (by intro h;rw [h] at ha;simp at ha)
 obtain⟨x1,x2,-⟩:=hcw a ha;obtain⟨x3,x4,-⟩:=hcw b hb;clear T hcw;unfold tripCells at *;generalize corL ⟨(wy m.ways a).x,(wy m.ways a).y⟩ u ⟨(wy m.ways b).x,(wy m.ways b).y⟩ v=cl at *;generalize corE ⟨(wy m.ways a).x,(wy m.ways a).y⟩ u ⟨(wy m.ways b).x,(wy m.ways b).y⟩ v=ce at *;simp only at f1;obtain⟨px,h1⟩:∃ x,(wy m.ways a).x=x:=⟨_,rfl⟩;obtain⟨py,h2⟩:∃ x,(wy m.ways a).y=x:=⟨_,rfl⟩;obtain⟨qx,h3⟩:∃ x,(wy m.ways b).x=x:=⟨_,rfl⟩;obtain⟨qy,h4⟩:∃ x,(wy m.ways b).y=x:=⟨_,rfl⟩;rw [h1,h2,h3,h4] at f1;rw [h1] at x1;rw [h2] at x2;rw [h3] at x3;rw [h4] at x4;clear h1 h2 h3 h4;generalize firB cl m.rocks=fb at *;generalize firI cl m.rocks=fi at *;generalize firE cl m.rocks=fe at *;replace f1:=Lib.hid f1;replace f2:=Lib.hid f2;have ha':(a:Int)<m.ways.length:=by omega
 have hb':(b:Int)<m.ways.length:=by omega
 have ha0:(0:Int)≤a:=by omega
 have hb0:(0:Int)≤b:=by omega
 have BW:=Lib.hid (Below.refl w.heap.size w);go_enter Tryz.func73,Tryz.ntmps73;go_upto_region 1 with fail
 generalize hXX0:World.alloc w _=X0;obtain⟨q0,hA,hzX0⟩:=box1 hXX0;clear hXX0;have BW:=Lib.hid hA;clear hA;have RB:=Lib.hid q0;clear q0;replace x1:=(BW.out.cell (p:=⟨bw,ow+a*5,none⟩) hbw).trans x1;replace x2:=(BW.out.cell (p:=⟨bw,ow+a*5+1,none⟩) hbw).trans x2;replace x3:=(BW.out.cell (p:=⟨bw,ow+b*5,none⟩) hbw).trans x3;replace x4:=(BW.out.cell (p:=⟨bw,ow+b*5+1,none⟩) hbw).trans x4;have x0:=RB.out.cell (i:=0) rfl;refine (wpIn_wide (n:=9)).1 ?_;refine Zg (Zj _) 21 (fun X=>Below X0.heap.size X0 X) (by kernel_rfl) (by kernel_rfl) (by kernel_rfl) fun hH inv0=>?_
 have hD:=Below.drew (Below.refl X0.heap.size X0);generalize hXX1:X0.drew=X1 at *;clear hXX1;replace BW:=zAg BW hD;have B_X0:=Lib.hid hD;clear hD;refine sk hH (i:=0) (v:=.pointer (some ⟨w.heap.size,0,none⟩)) (Zd rfl) inv0 (fun X hX=>?_) fun inv1=>?_
 ·go_simp
 simp only [Act.put,zq4,zr4,zs4];clear inv0;refine sk hH (i:=1) (v:=.pointer (some ⟨w.heap.size,0,none⟩)) (Zd rfl) inv1 (fun X hX=>?_) fun inv2=>?_
 ·go_simp
 simp only [Act.put,zq4,zr4,zs4];clear inv1;refine sk hH (i:=2) (v:=.slice (some ⟨bw,ow,none⟩) m.ways.length (m.ways.length+c1)) (Zd rfl) inv2 (fun X hX=>?_) fun inv3=>?_
 ·have r0:=(hX.cell (p:=⟨w.heap.size,0,none⟩) (World.block_lt_of_cell? _ _ x0)).trans x0;go_simp
 simp only [Act.put,zq4,zr4,zs4];clear inv2;refine sk hH (i:=3) (v:=.int .i64 (a:Int)) (Zd rfl) inv3 (fun X hX=>?_) fun inv4=>?_
 ·go_simp
 simp only [Act.put,zq4,zr4,zs4];clear inv3;refine sk hH (i:=4) (v:=.pointer (some ⟨bw,ow+a*5,none⟩)) (Zd rfl) inv4 (fun X hX=>?_) fun inv5=>?_
 ·go_simp
 simp only [Act.put,zq4,zr4,zs4];clear inv4;refine sk hH (i:=5) (v:=.pointer (some ⟨bw,ow+a*5,none⟩)) (Zd rfl) inv5 (fun X hX=>?_) fun inv6=>?_
 ·go_simp
 simp only [Act.put,zq4,zr4,zs4];clear inv5;refine sk hH (i:=6) (v:=.agg #[.int .i64 px,.int .i64 py]) (Zd rfl) inv6 (fun X hX=>?_) fun inv7=>?_
 ·have r0:=(hX.cell (p:=⟨bw,ow+a*5,none⟩) (World.block_lt_of_cell? _ _ x1)).trans x1;have r1:=(hX.cell (p:=⟨bw,ow+a*5+1,none⟩) (World.block_lt_of_cell? _ _ x2)).trans x2;go_simp
 simp only [Act.put,zq4,zr4,zs4];clear inv6;refine sk hH (i:=7) (v:=.int .i64 u) (Zd rfl) inv7 (fun X hX=>?_) fun inv8=>?_
 ·go_simp
 simp only [Act.put,zq4,zr4,zs4];clear inv7;refine sk hH (i:=8) (v:=.pointer (some ⟨w.heap.size,0,none⟩)) (Zd rfl) inv8 (fun X hX=>?_) fun inv9=>?_
 ·go_simp
 simp only [Act.put,zq4,zr4,zs4];clear inv8;refine sk hH (i:=9) (v:=.pointer (some ⟨w.heap.size,0,none⟩)) (Zd rfl) inv9 (fun X hX=>?_) fun inv10=>?_
 ·go_simp
 simp only [Act.put,zq4,zr4,zs4];clear inv9;refine sk hH (i:=10) (v:=.slice (some ⟨bw,ow,none⟩) m.ways.length (m.ways.length+c1)) (Zd rfl) inv10 (fun X hX=>?_) fun inv11=>?_
 ·have r0:=(hX.cell (p:=⟨w.heap.size,0,none⟩) (World.block_lt_of_cell? _ _ x0)).trans x0;go_simp
 simp only [Act.put,zq4,zr4,zs4];clear inv10;refine sk hH (i:=11) (v:=.int .i64 (b:Int)) (Zd rfl) inv11 (fun X hX=>?_) fun inv12=>?_
 ·go_simp
 simp only [Act.put,zq4,zr4,zs4];clear inv11;refine sk hH (i:=12) (v:=.pointer (some ⟨bw,ow+b*5,none⟩)) (Zd rfl) inv12 (fun X hX=>?_) fun inv13=>?_
 ·go_simp
 simp only [Act.put,zq4,zr4,zs4];clear inv12;refine sk hH (i:=13) (v:=.pointer (some ⟨bw,ow+b*5,none⟩)) (Zd rfl) inv13 (fun X hX=>?_) fun inv14=>?_
 ·go_simp
 simp only [Act.put,zq4,zr4,zs4];clear inv13;refine sk hH (i:=14) (v:=.agg #[.int .i64 qx,.int .i64 qy]) (Zd rfl) inv14 (fun X hX=>?_) fun inv15=>?_
 ·have r0:=(hX.cell (p:=⟨bw,ow+b*5,none⟩) (World.block_lt_of_cell? _ _ x3)).trans x3;have r1:=(hX.cell (p:=⟨bw,ow+b*5+1,none⟩) (World.block_lt_of_cell? _ _ x4)).trans x4;go_simp
 simp only [Act.put,zq4,zr4,zs4];clear inv14;refine sk hH (i:=15) (v:=.int .i64 v) (Zd rfl) inv15 (fun X hX=>?_) fun inv16=>?_
 ·go_simp
 simp only [Act.put,zq4,zr4,zs4];clear inv15;have inv17:=HeadInv.put2 inv16 (j:=16) (by kernel_rfl) (by omega)
 clear inv16;refine sa1 (r:=16) B_X0.out ?_;refine Zp (Zd rfl) rfl (f:=18) (args:=#[.agg #[.int .i64 px,.int .i64 py],.int .i64 u,.agg #[.int .i64 qx,.int .i64 qy],.int .i64 v]) (by go_simp) (f1.out X1) ?_
 rintro e w1 ⟨v1,rfl,p1,b1⟩;refine⟨_,rfl,?_⟩;simp only [Act.put,zq4,zr4,zs4];replace BW:=zAg BW b1;replace B_X0:=zAg B_X0 b1;clear b1;have P1:=Lib.hid p1;clear p1;refine sk hH (i:=17) (v:=.tuple #[v1,.int .i64 ce]) (Zd rfl) inv17 (fun X hX=>?_) fun inv18=>?_
 ·go_simp
 simp only [Act.put,zq4,zr4,zs4];clear inv17;refine sk hH (i:=18) (v:=v1) (Zd rfl) inv18 (fun X hX=>?_) fun inv19=>?_
 ·go_simp
 simp only [Act.put,zq4,zr4,zs4];clear inv18;refine sk hH (i:=19) (v:=.int .i64 ce) (Zd rfl) inv19 (fun X hX=>?_) fun inv20=>?_
 ·go_simp
 simp only [Act.put,zq4,zr4,zs4];clear inv19;refine sk hH (i:=20) (v:=v1) (Zd rfl) inv20 (fun X hX=>?_) fun inv21=>?_
 ·go_simp
 simp only [Act.put,zq4,zr4,zs4];clear inv20 inv21 hH;refine Zm (by kernel_rfl) B_X0.out ?_
 simp only [List.drop_succ_cons,List.drop_zero];obtain⟨g1,d1,hv1⟩:=P1.out.len;subst hv1;clear x0 x1 x2 x3 x4;have x3:=(zCn RB B_X0).cell (i:=3) rfl;gi_wp2;go_wp2_with fail;refine (f2.out _ _ BW.out P1.out).mono ?_;rintro e w2 ⟨rfl,b2⟩;replace BW:=zAg BW b2;replace B_X0:=zAg B_X0 b2;have B_w1:=Lib.hid b2;clear b2;cases fb
 all_goals
  go_wp2;go_ret;exact⟨rfl,BW.out⟩
theorem Z78 (m : Msn) (l : List Int) (vw vh vr vb va vt ve : Value) (w : World) (T : TripAt w.heap.size w m l vw vh vr vb va vt ve) (V : VMsn m) (k : Nat) (hk : k < m.ways.length) :
  Calls Tryz.prog 68 #[.agg (tripCells m vw vh vr vb va vt ve),.int .i64 k] w fun e w'=>e=.returned (.tuple #[.bool (bkC m k (rdB m l k) (dep m k)),.int .i64 (bkR m k (rdB m l k) (dep m k))])∧Below w.heap.size w w':=by
 have hV:=(Zs m).2 V;have n41:=V.n41;have fr:=fun w1 (B:Below w.heap.size w w1)=>Z49 m vw vh vr k w1 ((T.msn.below B).mono B.size)
 rw [(Z1n hV hk).1,(Z1n hV hk).2] at fr;have fl:=fun w1 (B:Below w.heap.size w w1) (i j:Nat) hi hj=>Z3D (m:=m) (a:=i) (b:=j) hV hi hj ▸ Z3E m vw vh vr i j w1 ((T.msn.below B).mono B.size)
 have fc:=fun w1 (B:Below w.heap.size w w1) (i j:Nat) u v hi hj=>Z30 m l vw vh vr vb va vt ve w1 (T.up B) i j u v hi hj n41
 have rb:=fun j (hj:j≤dep m k)=>bk_bd V l hk hj
 have hlt:=fun j (hj:j≤dep m k)=>Z0m V.ways hk hj
 have hgb:=fun i j hi hj=>Z01 V.leg V.ways (i:=i) (j:=j) hi hj
 have hd:=Z2I V.ways hk;obtain⟨bb,ob,cb,rfl,hbb,hcb⟩:=ZH T.bef (by rw [ZD];omega)
 simp only [ZD] at hcb fc ⊢;have xb:=(hcb k hk).trans (by rw [Z10 hk])
 obtain⟨⟨-,a1,c1,rfl,-⟩,⟨-,a2,c2,rfl,-⟩,⟨-,a3,c3,rfl,-⟩⟩:=T.msn;obtain⟨-,aa,ca,rfl,-⟩:=T.aft;obtain⟨-,at',ct,rfl,-⟩:=T.tim;obtain⟨-,ae,ce,rfl,-⟩:=T.ene;have hlen:(intL (upto (itB m k) (dep m k+1))).length=dep m k+1:=by simp [intL,upto]
 obtain⟨n,hn⟩:∃ n,dep m k=n:=⟨_,rfl⟩;simp only [hn] at fr rb hlt hd hlen ⊢;clear T hcb hV V hn;unfold tripCells Zc at *;replace fr:=Lib.hid fr;replace fl:=Lib.hid fl;replace fc:=Lib.hid fc;replace rb:=Lib.hid rb;replace hlt:=Lib.hid hlt;replace hgb:=Lib.hid hgb;have hlen':=Lib.hid hlen;clear hlen;have hk':(k:Int)<m.ways.length:=by omega
 have hk0:(0:Int)≤k:=by omega
 have hr0:Hid (bkR m k (rdB m l k) 0=rdB m l k):=rfl;generalize hrr:rdB m l k=r0 at *;clear hrr;have BW:=Lib.hid (Below.refl w.heap.size w);go_enter Tryz.func68,Tryz.ntmps68;go_wp2_with fail;generalize hXX0:World.alloc w _=X0;obtain⟨q0,hA,hzX0⟩:=box1 hXX0;clear hXX0;have BW:=Lib.hid hA;clear hA;have RB:=Lib.hid q0;clear q0;refine (fr.out _ BW.out).mono ?_;rintro e w1 ⟨v1,rfl,p1,b1⟩;replace BW:=zAg BW b1;have B_X0:=Lib.hid b1;clear b1;obtain⟨b2,o2,cap4,hv1,hb2,hc2⟩:=Z12 p1 hlen'.out;subst hv1;clear p1;replace xb:=(BW.out.cell (p:=⟨bb,ob+k,none⟩) hbb).trans xb;have RX:=Lib.hid (zCn RB B_X0);have x11:=RX.out.cell (i:=11) rfl;have BX:=Lib.hid BW.out;have hc2':=Lib.hid hc2;clear hc2;have hz1:=RX.out.lt;go_wp2;clear x11 xb
 go_loopw [8,9,10] (fun r c i wr=>∃ j:Nat,j≤n∧r=.int .i64 (bkR m k r0 j)∧c=.bool (bkC m k r0 j)∧i=.int .i64 ((j:Int)+1)∧Below w1.heap.size w1 wr) (fun _ _ i _=>n+1-(intOf i).toNat)
 case atStart=>exact⟨0,Nat.zero_le _,rfl,rfl,rfl,Below.refl _ _⟩
 case round =>
  obtain⟨j,hj,rfl,rfl,rfl,hB⟩:=hrel;obtain⟨wo,hwo⟩:∃ x,x=wr:=⟨_,rfl⟩;subst hwo;have BO:=BX.out.trans (hB.mono BX.out.size);have BB:=Lib.hid (And.intro hB BO);clear hB BO;by_cases hjn:j<n
  ·have h1:=hlt.out j (by omega)
   have h2:=hlt.out (j+1) (by omega)
   have r1:=rb.out j (by omega)
   have r2:=rb.out (j+1) (by omega)
   have y1:=hc2'.out j (by omega)
   have y2:=hc2'.out (j+1) (by omega)
   rw [Z0I (by omega)] at y1 y2
   replace y1:=(BB.out.1.cell (p:=⟨b2,o2+j,none⟩) hb2).trans y1;replace y2:=(BB.out.1.cell (p:=⟨b2,o2+(j+1),none⟩) hb2).trans y2;have RR:=RX.out.below BB.out.1 RX.out.lt;have gl:=Lib.hid (fun w2 (B:Low wo w2)=>fl.out w2 (BB.out.2.trans (B.out.mono BB.out.2.size)) _ _ h1 h2)
   have gc:=Lib.hid (fun w2 (B:Low wo w2)=>fc.out w2 (BB.out.2.trans (B.out.mono BB.out.2.size)) _ _ (bkR m k r0 j) (bkR m k r0 (j+1)) h1 h2)
   have s1:Hid (bkR m k r0 (j+1)=bkR m k r0 j+gLeg m (itB m k j) (itB m k (j+1))):=rfl;have s2:Hid (bkC m k r0 (j+1)=(bkC m k r0 j && clrB m (itB m k j) (bkR m k r0 j) (itB m k (j+1)) (bkR m k r0 (j+1)))):=rfl;have gb:=hgb.out _ _ h1 h2;have jl:(j:Int)+1<(n:Int)+1:=by omega
   have jl1:(j:Int)<(n:Int)+1:=by omega
   have jl0:(0:Int)≤(j:Int)+1:=by omega
   have jw:IntKind.i64.wrap (j:Int)=(j:Int):=zW2;obtain⟨ra,hra⟩:∃ x,bkR m k r0 j=x:=⟨_,rfl⟩;obtain⟨rc,hrc⟩:∃ x,bkR m k r0 (j+1)=x:=⟨_,rfl⟩;obtain⟨ca,hca⟩:∃ x,bkC m k r0 j=x:=⟨_,rfl⟩;simp only [hra,hrc,hca] at r1 r2 gc s1 s2 ⊢;generalize itB m k j=p1 at *;generalize itB m k (j+1)=p2 at *;generalize gLeg m p1 p2=gg at *;generalize dLeg m p1 p2=dd at *;generalize tLeg m p1 p2=tt at *;generalize clrB m p1 ra p2 rc=cc at *;have rw1:IntKind.i64.wrap (ra+gg)=rc:=by rw [← s1.out];exact zW2
   have z1:=Low.fact y1;have z2:=Low.fact y2;have hs12:=Lib.hid (And.intro s1.out s2.out);clear s1 s2 y1 y2 h1 h2 r1 r2 gb;go_wp2;have q0:=Low.fact (RR.cell (i:=0) rfl);have q1:=Low.fact (RR.cell (i:=1) rfl);have q2:=Low.fact (RR.cell (i:=2) rfl);have q3:=Low.fact (RR.cell (i:=3) rfl);have q4:=Low.fact (RR.cell (i:=4) rfl);have q5:=Low.fact (RR.cell (i:=5) rfl);have q6:=Low.fact (RR.cell (i:=6) rfl);have q7:=Low.fact (RR.cell (i:=7) rfl);have q8:=Low.fact (RR.cell (i:=8) rfl);have q9:=Low.fact (RR.cell (i:=9) rfl);have q10:=Low.fact (RR.cell (i:=10) rfl);have q11:=Low.fact (RR.cell (i:=11) rfl);have q12:=Low.fact (RR.cell (i:=12) rfl);have q13:=Low.fact (RR.cell (i:=13) rfl);have q14:=Low.fact (RR.cell (i:=14) rfl)
   (refine Zh (by kernel_rfl) (by kernel_rfl) ?_;(iterate 21 (apply Zf;(case hw=>rfl);(case hval=>(intro w1 hw1;have hcx:=Low.cells hw1;simp only [Oper.quietAt];go_simp;first | done | (first | (go_at_call 20;exact Low.calls hw1 (gl.out _ hw1))) | rfl | exact⟨rfl,rfl⟩));simp only [Act.put,zq4,zr4,zs4]));refine wpQuiet_nil ?_;intro w2 hw2)
   clear gl;obtain⟨wa,hwa⟩:∃ x,x=w2:=⟨_,rfl⟩;subst hwa;have hw:=Lib.hid hw2;clear hw2;cases ca
   ·have BB2:=Lib.hid (And.intro (BB.out.1.trans (hw.out.out.mono BB.out.1.size)) (BB.out.2.trans (hw.out.out.mono BB.out.2.size)))
    clear gc;go_wp2
    (refine Zh (by kernel_rfl) (by kernel_rfl) ?_;(iterate 2 (apply Zf;(case hw=>rfl);(case hval=>(intro w1 hw1;have hcx:=Low.cells hw1;simp only [Oper.quietAt];go_simp;first | done | rfl | exact⟨rfl,rfl⟩));simp only [Act.put,zq4,zr4,zs4]));(iterate 15 (apply Zy;(case hw=>rfl);simp only [Act.put,zq4,zr4,zs4]));(iterate 2 (apply Zf;(case hw=>rfl);(case hval=>(intro w1 hw1;have hcx:=Low.cells hw1;simp only [Oper.quietAt];go_simp;first | done | rfl | exact⟨rfl,rfl⟩));simp only [Act.put,zq4,zr4,zs4]));refine wpQuiet_nil ?_;intro w2 hw2)
    have BB3:=Lib.hid (And.intro (BB2.out.1.trans (hw2.out.mono BB2.out.1.size)) (BB2.out.2.trans (hw2.out.mono BB2.out.2.size)));go_wp2;go_roundw
    case rel=>exact⟨j+1,by omega,by rw [hrc],by rw [hs12.out.2];rfl,by go_num,BB3.out.1⟩
    case measure=>simp [intOf];omega
   ·have gc2:=Lib.hid (fun w3 (B:Low wa w3)=>gc.out w3 (hw.out.out.trans (B.out.mono hw.out.out.size)))
    have BB2:=Lib.hid (And.intro (BB.out.1.trans (hw.out.out.mono BB.out.1.size)) (BB.out.2.trans (hw.out.out.mono BB.out.2.size)));replace z1:=Low.fact (z1 _ hw.out);replace z2:=Low.fact (z2 _ hw.out);replace q0:=Low.fact (q0 _ hw.out);replace q1:=Low.fact (q1 _ hw.out);replace q2:=Low.fact (q2 _ hw.out);replace q3:=Low.fact (q3 _ hw.out);replace q4:=Low.fact (q4 _ hw.out);replace q5:=Low.fact (q5 _ hw.out);replace q6:=Low.fact (q6 _ hw.out);replace q7:=Low.fact (q7 _ hw.out);replace q8:=Low.fact (q8 _ hw.out);replace q9:=Low.fact (q9 _ hw.out);replace q10:=Low.fact (q10 _ hw.out);replace q11:=Low.fact (q11 _ hw.out);replace q12:=Low.fact (q12 _ hw.out);replace q13:=Low.fact (q13 _ hw.out);replace q14:=Low.fact (q14 _ hw.out);clear gc;go_wp2
    (refine Zh (by kernel_rfl) (by kernel_rfl) ?_;(iterate 19 (apply Zf;(case hw=>rfl);(case hval=>(intro w1 hw1;have hcx:=Low.cells hw1;simp only [Oper.quietAt];go_simp;first | done | (first | (go_at_call 73;exact Low.calls hw1 (gc2.out _ hw1))) | rfl | exact⟨rfl,rfl⟩));simp only [Act.put,zq4,zr4,zs4]));refine wpQuiet_nil ?_;intro w2 hw2)
    have BB3:=Lib.hid (And.intro (BB2.out.1.trans (hw2.out.mono BB2.out.1.size)) (BB2.out.2.trans (hw2.out.mono BB2.out.2.size)));go_wp2;go_roundw
    case rel=>exact⟨j+1,by omega,by rw [hrc],by rw [hs12.out.2];rfl,by go_num,BB3.out.1⟩
    case measure=>simp [intOf];omega
  ·obtain rfl:j=n:=by omega
   go_wp2;go_ret2;exact⟨rfl,BB.out.2⟩
theorem Z1W (m:Msn) (l:List Int):(usedE m l).length=m.ways.length:=by unfold usedE;exact Zx _ _
theorem Z7w {m:Msn} (V:VMsn m) {r:Int} (h:0≤r∧r≤100000):dskE r=0∧shE (dskL r) (atW m 0)=0∧withinB (shL (dskL r) (atW m 0)) m.home=lieB m r:=by
 have hr:radOk r=true:=by simp [radOk,h]
 have hd:dskL r=Z5 r.toNat:=by simp [dskL,hr]
 have c:=Z8h V (a:=0) (b:=0) (by have:=V.n2;omega) (by have:=V.n2;omega) h h
 obtain⟨⟨hp,-⟩,ha,-⟩:=Z2K c;have G:=Z1N (n:=r.toNat) (by omega)
 have hv:Zb (Z5 r.toNat)=true:=by simpa [Zb] using G
 have e2:shE (dskL r) (atW m 0)=0:=by rw [hd];simp [shE,hv,hp,ha]
 refine⟨by simp [dskE,hr],e2,?_⟩
 have e3:shL (dskL r) (atW m 0)=mvL (atW m 0) (Z5 r.toNat):=by simp only [shL,e2,if_true];rw [hd]
 rw [e3];have hv2:Zb (mvL (atW m 0) (Z5 r.toNat))=true:=by rw [Z1M _ G];exact ha
 simp [withinB,lieB,hv2,V.home]
theorem Z9Z (m:Msn) (l:List Int) (vw vh vr vb va vt ve:Value) (w:World) (T:TripAt w.heap.size w m l vw vh vr vb va vt ve) (V:VMsn m) (r:Int) (hr:0≤r∧r≤100000) (Br Bt:Nat) (HR:Has w Br #[.int .i64 r] 3) (HT:Has w Bt (tripCells m vw vh vr vb va vt ve) 79) :
  Calls Tryz.prog 70 #[.pointer (some ⟨Br,0,none⟩),.pointer (some ⟨Bt,0,none⟩)] w fun e w'=>e=.returned (.bool (lieB m r))∧Below w.heap.size w w':=by
 obtain⟨e1,e2,e3⟩:=Z7w V hr;have f1:=fun w1=>Z2x r w1
 have f2:=fun v w1 h=>Z0s v (dskL r) ⟨(wy m.ways 0).x,(wy m.ways 0).y⟩ w1 h
 have f3:=fun v w1 (B:Below w.heap.size w w1) h=>Z6i v vh (shL (dskL r) ⟨(wy m.ways 0).x,(wy m.ways 0).y⟩) m.home w1 h ((T.msn.2.1.below B).mono B.size)
 unfold atW at e2 e3;rw [e1] at f1;rw [e2] at f2;rw [e3] at f3;generalize shL (dskL r) ⟨(wy m.ways 0).x,(wy m.ways 0).y⟩=sl at *;generalize bothE sl m.home=be at *;generalize dskL r=dl at *;have h0:0<m.ways.length:=by have:=V.n2;omega
 obtain⟨⟨-,a1,c1,rfl,hcw⟩,⟨-,a2,c2,rfl,-⟩,⟨-,a3,c3,rfl,-⟩⟩:=T.msn;obtain⟨-,ab,cb,rfl,-⟩:=T.bef;obtain⟨-,aa,ca,rfl,-⟩:=T.aft;obtain⟨-,at',ct,rfl,-⟩:=T.tim;obtain⟨-,ae,ce,rfl,-⟩:=T.ene;obtain⟨bw,ow,rfl,hbw,hcw⟩:=hcw.resolve_left (by intro h;rw [h] at h0;simp at h0)
 obtain⟨x1,x2,-⟩:=hcw 0 h0;rw [Nat.zero_mul,Nat.add_zero] at x1 x2;clear T hcw e1 e2 e3 V;unfold tripCells at *;simp only at f2;generalize (wy m.ways 0).x=px at *;generalize (wy m.ways 0).y=py at *;generalize lieB m r=fb at *;replace f1:=Lib.hid f1;replace f2:=Lib.hid f2;replace f3:=Lib.hid f3;have h0':(0:Int)<m.ways.length:=by omega
 have BW:=Lib.hid (Below.refl w.heap.size w);replace HR:=Lib.hid HR;replace HT:=Lib.hid HT;have y0:=HR.out.cell (i:=0) rfl;go_enter Tryz.func70,Tryz.ntmps70;go_wp2_with fail;refine (f1.out w).mono ?_;rintro e w1 ⟨v1,rfl,p1,b1⟩;have BW:=Lib.hid b1;clear b1;have P1:=Lib.hid p1;clear p1;obtain⟨g1,k1,hv1⟩:=P1.out.len;subst hv1;clear y0;have y0:=(zCn HT BW).cell (i:=0) rfl;have y1:=(zCn HT BW).cell (i:=1) rfl;have z1:=(BW.out.cell (p:=⟨bw,ow,none⟩) hbw).trans x1;have z2:=(BW.out.cell (p:=⟨bw,ow+1,none⟩) hbw).trans x2;go_wp2_with fail;refine (f2.out _ w1 P1.out).mono ?_;rintro e w2 ⟨v2,rfl,p2,b2⟩;replace BW:=zAg BW b2;have B_w1:=Lib.hid b2;clear b2;have P2:=Lib.hid p2;clear p2;obtain⟨g2,k2,hv2⟩:=P2.out.len;subst hv2;clear y0 y1 z1 z2;have y1:=(zCn HT BW).cell (i:=1) rfl;go_wp2_with fail;refine (f3.out _ _ BW.out P2.out).mono ?_;rintro e w3 ⟨rfl,b3⟩;replace BW:=zAg BW b3;replace B_w1:=zAg B_w1 b3;have B_w2:=Lib.hid b3;clear b3;go_wp2;go_ret;exact⟨rfl,BW.out⟩
theorem Za0 (m:Msn) (l:List Int) (vw vh vr vb va vt ve:Value) (w:World) (T:TripAt w.heap.size w m l vw vh vr vb va vt ve) (k:Nat) (hk:k+1<m.ways.length) (n41:m.ways.length≤41) (Bt Bl Be:Nat) (HT:Has w Bt (tripCells m vw vh vr vb va vt ve) 79) (HL:Has w Bl #[.int .i64 k] 3) (HE:Has w Be #[.int .i64 ((k+1:Nat):Int)] 3) :
  Calls Tryz.prog 72 #[.pointer (some ⟨Bt,0,none⟩),.pointer (some ⟨Bl,0,none⟩),.pointer (some ⟨Be,0,none⟩)] w fun e w'=>e=.returned (.bool (clrB m k (rdA m l k) (k+1) (rdB m l (k+1))))∧Below w.heap.size w w':=by
 have fc:=fun w1 (B:Low w w1)=>Z30 m l vw vh vr vb va vt ve w1 (T.up B.out) k (k+1) (rdA m l k) (rdB m l (k+1)) (by omega) hk n41
 obtain⟨⟨-,a1,c1,rfl,-⟩,⟨-,a2,c2,rfl,-⟩,⟨-,a3,c3,rfl,-⟩⟩:=T.msn;obtain⟨bb,ob,cb,rfl,hbb,hcb⟩:=ZH T.bef (by rw [ZD];omega)
 obtain⟨ba,oa,ca,rfl,hba,hca⟩:=ZH T.aft (by rw [ZY];omega)
 obtain⟨-,at',ct,rfl,-⟩:=T.tim;obtain⟨-,ae,ce,rfl,-⟩:=T.ene;simp only [ZD,ZY] at hcb hca fc HT ⊢;have z1:=Low.fact ((hca k (by omega)).trans (by rw [Z3C (by omega)]))
 have z2:=Low.fact ((hcb (k+1) hk).trans (by rw [Z10 hk]))
 clear T hcb hca;unfold tripCells at *;generalize rdA m l k=ra at *;generalize rdB m l (k+1)=rb at *;generalize clrB m k ra (k+1) rb=fb at *;obtain⟨K,hK⟩:∃ K,k+1=K:=⟨_,rfl⟩;rw [hK] at HE z2 hk;simp only [hK] at fc;have hk':(k:Int)<m.ways.length:=by omega
 have hK':(K:Int)<m.ways.length:=by omega
 have hk0:(0:Int)≤k:=by omega
 have hK0:(0:Int)≤K:=by omega
 replace fc:=Lib.hid fc;clear hK;have q0:=Low.fact (HT.cell (i:=0) rfl);have q1:=Low.fact (HT.cell (i:=1) rfl);have q2:=Low.fact (HT.cell (i:=2) rfl);have q3:=Low.fact (HT.cell (i:=3) rfl);have q4:=Low.fact (HT.cell (i:=4) rfl);have q5:=Low.fact (HT.cell (i:=5) rfl);have q6:=Low.fact (HT.cell (i:=6) rfl);have q7:=Low.fact (HT.cell (i:=7) rfl);have q8:=Low.fact (HT.cell (i:=8) rfl);have q9:=Low.fact (HT.cell (i:=9) rfl);have q10:=Low.fact (HT.cell (i:=10) rfl);have q11:=Low.fact (HT.cell (i:=11) rfl);have q12:=Low.fact (HT.cell (i:=12) rfl);have q13:=Low.fact (HT.cell (i:=13) rfl);have q14:=Low.fact (HT.cell (i:=14) rfl);have q15:=Low.fact (HL.cell (i:=0) rfl);have q16:=Low.fact (HE.cell (i:=0) rfl);clear HT HL HE;go_enter Tryz.func72,Tryz.ntmps72;go_wp2
 (refine Zh (by kernel_rfl) (by kernel_rfl) ?_;(iterate 15 (apply Zf;(case hw=>rfl);(case hval=>(intro w1 hw1;have hcx:=Low.cells hw1;simp only [Oper.quietAt];go_simp;first | done | (first | (go_at_call 73;exact Low.calls hw1 (fc.out _ hw1))) | rfl | exact⟨rfl,rfl⟩));simp only [Act.put,zq4,zr4,zs4]));refine wpQuiet_nil ?_;intro w2 hw2)
 go_wp2;go_ret;exact⟨rfl,hw2⟩
theorem Za1 (w:World) (c:Bool) (Bc:Nat) (HC:Has w Bc #[.bool c] 4) :
  Calls Tryz.prog 74 #[.pointer (some ⟨Bc,0,none⟩)] w fun e w'=>e=.returned (.bool c)∧Below w.heap.size w w':=by
 have y:=HC.cell (i:=0) rfl;have B:=Below.refl w.heap.size w;go_enter Tryz.func74,Tryz.ntmps74;go_wp2;go_ret;exact⟨rfl,B⟩
theorem Za2 (m:Msn) (l:List Int) (vw vh vr vb va vt ve:Value) (w:World) (T:TripAt w.heap.size w m l vw vh vr vb va vt ve) (V:VMsn m) (k:Nat) (hk:k<m.ways.length) (x:Int) (hx:0≤x∧x≤100000000000000) (Bt Be Bx:Nat) (HT:Has w Bt (tripCells m vw vh vr vb va vt ve) 79) (HE:Has w Be #[.int .i64 k] 3) (HX:Has w Bx #[.int .i64 x] 3) :
  Calls Tryz.prog 75 #[.pointer (some ⟨Bt,0,none⟩),.pointer (some ⟨Be,0,none⟩),.pointer (some ⟨Bx,0,none⟩)] w fun e w'=>e=.returned (.bool (decide (usE m l k+x≤m.battery)))∧Below w.heap.size w w':=by
 have ub:=Z2j V l k hk;have n41:=V.n41;obtain⟨⟨-,a1,c1,rfl,-⟩,⟨-,a2,c2,rfl,-⟩,⟨-,a3,c3,rfl,-⟩⟩:=T.msn;obtain⟨-,ab,cb,rfl,-⟩:=T.bef;obtain⟨-,aa,ca,rfl,-⟩:=T.aft;obtain⟨-,at',ct,rfl,-⟩:=T.tim;obtain⟨bq,oq,cq,rfl,hbq,hcq⟩:=ZH T.ene (by rw [Z1W];omega)
 simp only [Z1W] at hcq HT ⊢;have z1:=Low.fact ((hcq k hk).trans (by rw [usedE,Z1i _ hk]))
 clear T hcq;unfold tripCells at *;obtain⟨u,hu⟩:∃ u,usE m l k=u:=⟨_,rfl⟩;simp only [hu] at z1 ub ⊢;have hk':(k:Int)<m.ways.length:=by omega
 have hk0:(0:Int)≤k:=by omega
 have hw:IntKind.i64.wrap (u+x)=u+x:=zW2;clear hu ub V;have q0:=Low.fact (HT.cell (i:=9) rfl);have q1:=Low.fact (HT.cell (i:=14) rfl);have q2:=Low.fact (HE.cell (i:=0) rfl);have q3:=Low.fact (HX.cell (i:=0) rfl);clear HT HE HX;go_enter Tryz.func75,Tryz.ntmps75;go_wp2
 (refine Zh (by kernel_rfl) (by kernel_rfl) ?_;(iterate 12 (apply Zf;(case hw=>rfl);(case hval=>(intro w1 hw1;have hcx:=Low.cells hw1;simp only [Oper.quietAt];go_simp;first | done | rfl | exact⟨rfl,rfl⟩));simp only [Act.put,zq4,zr4,zs4]));refine wpQuiet_nil ?_;intro w2 hw2)
 go_wp2;go_ret;exact⟨rfl,hw2⟩
theorem Z9Y (m:Msn) (l:List Int) (vw vh vr vb va vt ve:Value) (w:World) (T:TripAt w.heap.size w m l vw vh vr vb va vt ve) (V:VMsn m) (k:Nat) (hk:k<m.ways.length) (x:Int) (hx:0≤x∧x≤100000000000000) (Bt Be Bx:Nat) (HT:Has w Bt (tripCells m vw vh vr vb va vt ve) 79) (HE:Has w Be #[.int .i64 k] 3) (HX:Has w Bx #[.int .i64 x] 3) :
  Calls Tryz.prog 76 #[.pointer (some ⟨Bt,0,none⟩),.pointer (some ⟨Be,0,none⟩),.pointer (some ⟨Bx,0,none⟩)] w fun e w'=>e=.returned (.bool (decide (usT m l k+x≤m.deadline)))∧Below w.heap.size w w':=by
 have ub:=Z2j V l k hk;have n41:=V.n41;obtain⟨⟨-,a1,c1,rfl,-⟩,⟨-,a2,c2,rfl,-⟩,⟨-,a3,c3,rfl,-⟩⟩:=T.msn;obtain⟨-,ab,cb,rfl,-⟩:=T.bef;obtain⟨-,aa,ca,rfl,-⟩:=T.aft;obtain⟨bq,oq,cq,rfl,hbq,hcq⟩:=ZH T.tim (by rw [Z1V];omega)
 obtain⟨-,ae,ce,rfl,-⟩:=T.ene;simp only [Z1V] at hcq HT ⊢;have z1:=Low.fact ((hcq k hk).trans (by rw [usedT,Z1i _ hk]))
 clear T hcq;unfold tripCells at *;obtain⟨u,hu⟩:∃ u,usT m l k=u:=⟨_,rfl⟩;simp only [hu] at z1 ub ⊢;have hk':(k:Int)<m.ways.length:=by omega
 have hk0:(0:Int)≤k:=by omega
 have hw:IntKind.i64.wrap (u+x)=u+x:=zW2;clear hu ub V;have q0:=Low.fact (HT.cell (i:=10) rfl);have q1:=Low.fact (HT.cell (i:=13) rfl);have q2:=Low.fact (HE.cell (i:=0) rfl);have q3:=Low.fact (HX.cell (i:=0) rfl);clear HT HE HX;go_enter Tryz.func76,Tryz.ntmps76;go_wp2
 (refine Zh (by kernel_rfl) (by kernel_rfl) ?_;(iterate 12 (apply Zf;(case hw=>rfl);(case hval=>(intro w1 hw1;have hcx:=Low.cells hw1;simp only [Oper.quietAt];go_simp;first | done | rfl | exact⟨rfl,rfl⟩));simp only [Act.put,zq4,zr4,zs4]));refine wpQuiet_nil ?_;intro w2 hw2)
 go_wp2;go_ret;exact⟨rfl,hw2⟩
end
end Go.Proofs.YtdolkgihppgpcaaGreat
