/- landfallref35: Clear, Within, Home. | landfallref35: Kind, Leads, Keeps. -/
import Derived.Test.YtcfkhkgldboddaaGreatBin37
import Derived.Test.YtcfkhkgldboddaaGreatBin39
set_option linter.unusedSimpArgs false
set_option linter.unusedVariables false
set_option maxRecDepth 8000
set_option maxHeartbeats 6400000
namespace Go.Proofs.YtcfkhkgldboddaaGreat
section
attribute [local irreducible] wpQuiet
open Go.RowKit
theorem idxn35 (x:Option Nat):decide (idxO x<0)=!x.isSome:=by
 cases x with
 | none=>rfl
 | some k =>
  show decide (((k:Nat):Int)<0)=false
  exact decide_eq_false (by omega)
theorem Z2t (m:Msn) (vw vh vr:Value) (w:World) (hm:MsnAt w.heap.size w m vw vh vr) (V:VMsn m) (a b:Nat) (u v:Int) (ha:a<m.ways.length) (hb:b<m.ways.length) (hu:0≤u∧u≤100000) (hv:0≤v∧v≤100000) :
  Calls Tryz.prog 73 #[.agg (Zc m vw vh vr),.int .i64 a,.int .i64 u,.int .i64 b,.int .i64 v] w fun e w'=>e=.returned (.bool (clrB m a u b v))∧Below w.heap.size w w':=by
 have n41:=V.n41;have hrk:∀ j,j<m.rocks.length→Zb (rk m.rocks j)=true:=of_decide_eq_true V.rocks;have hce:corE (atW m a) u (atW m b) v=0:=Z9I V ha hb hu hv;have hg:Zb (corL (atW m a) u (atW m b) v)=true:=by
  unfold corL;rw [if_pos hce];exact Z0s (Z9H hce)
 have hx:decide (idxO (hitTo (corL (atW m a) u (atW m b) v) m.rocks m.rocks.length)<0)=!firB (corL (atW m a) u (atW m b) v) m.rocks:=by
  have ok:okRocks (corL (atW m a) u (atW m b) v) m.rocks=true:=by unfold okRocks;rw [hg,Bool.true_and];exact V.rocks
  unfold firB;rw [if_pos ⟨V.nr,ok⟩];exact idxn35 _
 unfold clrB;unfold atW at hx hg hce ⊢;have f1:=fun w1=>Z4v ⟨(wy m.ways a).x,(wy m.ways a).y⟩ ⟨(wy m.ways b).x,(wy m.ways b).y⟩ u v w1
 have f2:=fun vc w1 (B:Below w.heap.size w w1) h=>Z98 vc vr (corL ⟨(wy m.ways a).x,(wy m.ways a).y⟩ u ⟨(wy m.ways b).x,(wy m.ways b).y⟩ v) m.rocks w1 h (((hm.2.2).below B).mono B.size) hg hrk
 rw [hce] at f1;obtain⟨⟨-,a1,c1,rfl,hcw⟩,⟨-,a2,c2,rfl,-⟩,⟨-,a3,c3,rfl,-⟩⟩:=hm;obtain⟨bw,ow,rfl,hbw,hcw⟩:=hcw.resolve_left (by intro h;rw [h] at ha;simp at ha)
 obtain⟨x1,x2,-⟩:=hcw a ha;obtain⟨x3,x4,-⟩:=hcw b hb;clear hcw V hce hg hu hv;unfold Zc at *;generalize corL ⟨(wy m.ways a).x,(wy m.ways a).y⟩ u ⟨(wy m.ways b).x,(wy m.ways b).y⟩ v=cl at *;obtain⟨px,h1⟩:∃ x,(wy m.ways a).x=x:=⟨_,rfl⟩;obtain⟨py,h2⟩:∃ x,(wy m.ways a).y=x:=⟨_,rfl⟩;obtain⟨qx,h3⟩:∃ x,(wy m.ways b).x=x:=⟨_,rfl⟩;obtain⟨qy,h4⟩:∃ x,(wy m.ways b).y=x:=⟨_,rfl⟩;rw [h1,h2,h3,h4] at f1;rw [h1] at x1;rw [h2] at x2;rw [h3] at x3;rw [h4] at x4;clear h1 h2 h3 h4;generalize firB cl m.rocks=fb at *;generalize idxO (hitTo cl m.rocks m.rocks.length)=ix at *;replace f1:=Lib.hid f1;replace f2:=Lib.hid f2;have ha':(a:Int)<m.ways.length:=by omega
 have hb':(b:Int)<m.ways.length:=by omega
 have ha0:(0:Int)≤a:=by omega
 have hb0:(0:Int)≤b:=by omega
 clear hrk;have BW:=Lib.hid (Below.refl w.heap.size w);go_enter Tryz.func73,Tryz.ntmps73;go_upto_region 1 with fail
 generalize hXX0:World.alloc w _=X0;obtain⟨q0,hA,hzX0⟩:=box1 hXX0;clear hXX0;have BW:=Lib.hid hA;clear hA;have RB:=Lib.hid q0;clear q0;replace x1:=(BW.out.cell (p:=⟨bw,ow+a*5,none⟩) hbw).trans x1;replace x2:=(BW.out.cell (p:=⟨bw,ow+a*5+1,none⟩) hbw).trans x2;replace x3:=(BW.out.cell (p:=⟨bw,ow+b*5,none⟩) hbw).trans x3;replace x4:=(BW.out.cell (p:=⟨bw,ow+b*5+1,none⟩) hbw).trans x4;have x0:X0.cell? ⟨w.heap.size,0,none⟩=some (.slice (some ⟨bw,ow,none⟩) m.ways.length (m.ways.length+c1)):=RB.out.cell (i:=0) rfl;refine (wpIn_wide (n:=9)).1 ?_;refine Zm (Zt _) 19 (fun X=>Below X0.heap.size X0 X) (by kernel_rfl) (by kernel_rfl) (by kernel_rfl) fun hH inv0=>?_
 have hD:=Below.drew (Below.refl X0.heap.size X0);generalize hXX1:X0.drew=X1 at *;clear hXX1;replace BW:=zAi BW hD;have B_X0:=Lib.hid hD;clear hD;refine sk hH (i:=0) (v:=.pointer (some ⟨w.heap.size,0,none⟩)) (Zg rfl) inv0 (fun X hX=>?_) fun inv1=>?_
 ·go_simp
 simp only [Act.put,zq4,zr4,zs4];clear inv0;refine sk hH (i:=1) (v:=.slice (some ⟨bw,ow,none⟩) m.ways.length (m.ways.length+c1)) (Zg rfl) inv1 (fun X hX=>?_) fun inv2=>?_
 ·have r0:=(hX.cell (p:=⟨w.heap.size,0,none⟩) (World.block_lt_of_cell? _ _ x0)).trans x0;go_simp
 simp only [Act.put,zq4,zr4,zs4];clear inv1;refine sk hH (i:=2) (v:=.int .i64 (a:Int)) (Zg rfl) inv2 (fun X hX=>?_) fun inv3=>?_
 ·go_simp
 simp only [Act.put,zq4,zr4,zs4];clear inv2;refine sk hH (i:=3) (v:=.pointer (some ⟨bw,ow+a*5,none⟩)) (Zg rfl) inv3 (fun X hX=>?_) fun inv4=>?_
 ·go_simp
 simp only [Act.put,zq4,zr4,zs4];clear inv3;refine sk hH (i:=4) (v:=.pointer (some ⟨bw,ow+a*5,none⟩)) (Zg rfl) inv4 (fun X hX=>?_) fun inv5=>?_
 ·go_simp
 simp only [Act.put,zq4,zr4,zs4];clear inv4;refine sk hH (i:=5) (v:=.agg #[.int .i64 px,.int .i64 py]) (Zg rfl) inv5 (fun X hX=>?_) fun inv6=>?_
 ·have r0:=(hX.cell (p:=⟨bw,ow+a*5,none⟩) (World.block_lt_of_cell? _ _ x1)).trans x1;have r1:=(hX.cell (p:=⟨bw,ow+a*5+1,none⟩) (World.block_lt_of_cell? _ _ x2)).trans x2;go_simp
 simp only [Act.put,zq4,zr4,zs4];clear inv5;refine sk hH (i:=6) (v:=.int .i64 u) (Zg rfl) inv6 (fun X hX=>?_) fun inv7=>?_
 ·go_simp
 simp only [Act.put,zq4,zr4,zs4];clear inv6;refine sk hH (i:=7) (v:=.pointer (some ⟨w.heap.size,0,none⟩)) (Zg rfl) inv7 (fun X hX=>?_) fun inv8=>?_
 ·go_simp
 simp only [Act.put,zq4,zr4,zs4];clear inv7;refine sk hH (i:=8) (v:=.slice (some ⟨bw,ow,none⟩) m.ways.length (m.ways.length+c1)) (Zg rfl) inv8 (fun X hX=>?_) fun inv9=>?_
 ·have r0:=(hX.cell (p:=⟨w.heap.size,0,none⟩) (World.block_lt_of_cell? _ _ x0)).trans x0;go_simp
 simp only [Act.put,zq4,zr4,zs4];clear inv8;refine sk hH (i:=9) (v:=.int .i64 (b:Int)) (Zg rfl) inv9 (fun X hX=>?_) fun inv10=>?_
 ·go_simp
 simp only [Act.put,zq4,zr4,zs4];clear inv9;refine sk hH (i:=10) (v:=.pointer (some ⟨bw,ow+b*5,none⟩)) (Zg rfl) inv10 (fun X hX=>?_) fun inv11=>?_
 ·go_simp
 simp only [Act.put,zq4,zr4,zs4];clear inv10;refine sk hH (i:=11) (v:=.pointer (some ⟨bw,ow+b*5,none⟩)) (Zg rfl) inv11 (fun X hX=>?_) fun inv12=>?_
 ·go_simp
 simp only [Act.put,zq4,zr4,zs4];clear inv11;refine sk hH (i:=12) (v:=.agg #[.int .i64 qx,.int .i64 qy]) (Zg rfl) inv12 (fun X hX=>?_) fun inv13=>?_
 ·have r0:=(hX.cell (p:=⟨bw,ow+b*5,none⟩) (World.block_lt_of_cell? _ _ x3)).trans x3;have r1:=(hX.cell (p:=⟨bw,ow+b*5+1,none⟩) (World.block_lt_of_cell? _ _ x4)).trans x4;go_simp
 simp only [Act.put,zq4,zr4,zs4];clear inv12;refine sk hH (i:=13) (v:=.int .i64 v) (Zg rfl) inv13 (fun X hX=>?_) fun inv14=>?_
 ·go_simp
 simp only [Act.put,zq4,zr4,zs4];clear inv13;have inv15:=HeadInv.put2 inv14 (j:=14) (by kernel_rfl) (by omega)
 clear inv14;refine sa1 (r:=14) B_X0.out ?_;refine Z0x (Zg rfl) rfl (f:=123) (args:=#[.agg #[.int .i64 px,.int .i64 py],.int .i64 u,.agg #[.int .i64 qx,.int .i64 qy],.int .i64 v]) (by go_simp) (f1.out X1) ?_
 rintro e w1 ⟨v1,rfl,p1,b1⟩;refine⟨_,rfl,?_⟩;simp only [Act.put,zq4,zr4,zs4];replace BW:=zAi BW b1;replace B_X0:=zAi B_X0 b1;clear b1;have P1:=Lib.hid p1;clear p1;refine sk hH (i:=15) (v:=.tuple #[v1,.int .i64 0]) (Zg rfl) inv15 (fun X hX=>?_) fun inv16=>?_
 ·go_simp
 simp only [Act.put,zq4,zr4,zs4];clear inv15;refine sk hH (i:=16) (v:=v1) (Zg rfl) inv16 (fun X hX=>?_) fun inv17=>?_
 ·go_simp
 simp only [Act.put,zq4,zr4,zs4];clear inv16;refine sk hH (i:=17) (v:=.int .i64 0) (Zg rfl) inv17 (fun X hX=>?_) fun inv18=>?_
 ·go_simp
 simp only [Act.put,zq4,zr4,zs4];clear inv17;have inv19:=HeadInv.put2 inv18 (j:=18) (by kernel_rfl) (by omega)
 clear inv18;refine sa1 (r:=18) B_X0.out ?_;refine ZI (Zg rfl) rfl (v:=v1) (w':=w1) (by go_simp) ?_
 simp only [Act.put,zq4,zr4,zs4];clear inv19 hH;refine Zw (by kernel_rfl) B_X0.out ?_
 simp only [List.drop_succ_cons,List.drop_zero];obtain⟨g1,d1,hv1⟩:=P1.out.len;subst hv1;clear x0 x1 x2 x3 x4;have x3:w1.cell? ⟨w.heap.size,3,none⟩=some (.slice a3 m.rocks.length (m.rocks.length+c3)):=(zCq RB B_X0).cell (i:=3) rfl;gi_wp2;go_wp2_with fail;refine (f2.out _ _ BW.out P1.out).mono ?_;rintro e w2 ⟨rfl,b2⟩;replace BW:=zAi BW b2;replace B_X0:=zAi B_X0 b2;have B_w1:=Lib.hid b2;clear b2;cases fb
 all_goals
  simp only [Bool.not_true,Bool.not_false] at hx;go_wp2;go_ret;exact⟨by simp,BW.out⟩
theorem Z4o (m:Msn) (vw vh vr:Value) (w:World) (hm:MsnAt w.heap.size w m vw vh vr) (V:VMsn m) (r:Int) (hr:0≤r∧r≤100000) :
  Calls Tryz.prog 75 #[.agg (Zc m vw vh vr),.int .i64 r] w fun e w'=>e=.returned (.bool (lieB m r))∧Below w.heap.size w w':=by
 obtain⟨n,rfl⟩:∃ n:Nat,r=(n:Int):=⟨r.toNat,by omega⟩
 have hn:n≤100000:=by omega
 have n2:=V.n2;have hp:Z4 (atW m 0)=true:=by
  have:=Z4N V (k:=0) (by omega)
  unfold Z4 placeB;rw [decide_eq_true_eq];omega
 have hgd:Zb (mvL (atW m 0) (Z5 n))=true:=by
  have c:=Z9I V (a:=0) (b:=0) (by omega) (by omega) (u:=n) (w:=n) (by omega) (by omega)
  obtain⟨-,h1,-⟩:=Z3r c;rw [Int.toNat_natCast] at h1;rw [Z2g _ (Z0N hn)];exact h1
 have HE:Hid (lieB m n=liesB (mvL (atW m 0) (Z5 n)) m.home):=rfl;have f1:=Lib.hid (fun w1=>Z5p n w1 hn)
 have G:=Z0N hn;have f2:=fun v1 w1 h=>Z56 v1 (Z5 n) (atW m 0) w1 h G.2.1 (fun k hk=>(G.2.2.1 k hk).1) hp
 have hln:=ZQ (atW m 0) (Z5 n);have hl8:=Z0k n;have f3:=fun vp w1 (B:Below w.heap.size w w1) hp=>Zap vp vh (mvL (atW m 0) (Z5 n)) m.home w1 hp ((hm.2.1.below B).mono B.size) hgd V.home
 unfold atW at HE f2 f3 hln;obtain⟨⟨-,a1,c1,rfl,hcw⟩,⟨-,a2,c2,rfl,-⟩,⟨-,a3,c3,rfl,-⟩⟩:=hm;obtain⟨bw,ow,rfl,hbw,hcw⟩:=hcw.resolve_left (by intro h;rw [h] at n2;simp at n2)
 obtain⟨x1,x2,-⟩:=hcw 0 (by omega)
 rw [Nat.zero_mul,Nat.add_zero] at x1 x2;obtain⟨px,h1⟩:∃ x,(wy m.ways 0).x=x:=⟨_,rfl⟩;obtain⟨py,h2⟩:∃ x,(wy m.ways 0).y=x:=⟨_,rfl⟩;simp only [h1,h2] at HE f2 f3 hln x1 x2;obtain⟨lb,hlb⟩:∃ x,lieB m (n:Int)=x:=⟨_,rfl⟩;rw [hlb] at HE ⊢;rw [← HE.out] at f3;have HL:=Lib.hid (And.intro hln hl8);generalize mvL ⟨px,py⟩ (Z5 n)=dl at *;generalize Z5 n=dn at *;replace f2:=Lib.hid f2;replace f3:=Lib.hid f3;have hl0:(0:Int)<m.ways.length:=by omega
 have hne:¬ m.ways=[]:=by intro h;rw [h] at n2;simp at n2
 clear hcw V h1 h2 hlb HE G hp hgd hln hl8;unfold Zc at *;have BW:=Lib.hid (Below.refl w.heap.size w);go_enter Tryz.func75,Tryz.ntmps75;go_upto_region 1 with fail
 generalize hXX0:World.alloc w _=X0;obtain⟨q0,hA,hzX0⟩:=box1 hXX0;clear hXX0;have BW:=Lib.hid hA;clear hA;have RB:=Lib.hid q0;clear q0 hzX0;replace x1:=(BW.out.cell (p:=⟨bw,ow,none⟩) hbw).trans x1;replace x2:=(BW.out.cell (p:=⟨bw,ow+1,none⟩) hbw).trans x2;have x0:X0.cell? ⟨w.heap.size,0,none⟩=some (.slice (some ⟨bw,ow,none⟩) m.ways.length (m.ways.length+c1)):=RB.out.cell (i:=0) rfl;refine (wpIn_wide (n:=9)).1 ?_;refine Zm (Zt _) 8 (fun X=>Below X0.heap.size X0 X) (by kernel_rfl) (by kernel_rfl) (by kernel_rfl) fun hH inv0=>?_
 have hD:=Below.drew (Below.refl X0.heap.size X0);generalize hXX1:X0.drew=X1 at *;clear hXX1;replace BW:=zAi BW hD;have B_X0:=Lib.hid hD;clear hD;refine sk hH (i:=0) (v:=.int .i64 (n:Int)) (Zg rfl) inv0 (fun X hX=>?_) fun inv1=>?_
 ·go_simp
 simp only [Act.put,zq4,zr4,zs4];clear inv0;refine sk hH (i:=2) (v:=.pointer (some ⟨w.heap.size,0,none⟩)) (Zg rfl) inv1 (fun X hX=>?_) fun inv2=>?_
 ·go_simp
 simp only [Act.put,zq4,zr4,zs4];clear inv1;refine sk hH (i:=3) (v:=.slice (some ⟨bw,ow,none⟩) m.ways.length (m.ways.length+c1)) (Zg rfl) inv2 (fun X hX=>?_) fun inv3=>?_
 ·have r0:=(hX.cell (p:=⟨w.heap.size,0,none⟩) (World.block_lt_of_cell? _ _ x0)).trans x0;go_simp
 simp only [Act.put,zq4,zr4,zs4];clear inv2;refine sk hH (i:=4) (v:=.pointer (some ⟨bw,ow,none⟩)) (Zg rfl) inv3 (fun X hX=>?_) fun inv4=>?_
 ·go_simp
 simp only [Act.put,zq4,zr4,zs4];clear inv3;refine sk hH (i:=5) (v:=.pointer (some ⟨bw,ow,none⟩)) (Zg rfl) inv4 (fun X hX=>?_) fun inv5=>?_
 ·go_simp
 simp only [Act.put,zq4,zr4,zs4];clear inv4;refine sk hH (i:=6) (v:=.agg #[.int .i64 px,.int .i64 py]) (Zg rfl) inv5 (fun X hX=>?_) fun inv6=>?_
 ·have r0:=(hX.cell (p:=⟨bw,ow,none⟩) (World.block_lt_of_cell? _ _ x1)).trans x1;have r1:=(hX.cell (p:=⟨bw,ow+1,none⟩) (World.block_lt_of_cell? _ _ x2)).trans x2;go_simp
 simp only [Act.put,zq4,zr4,zs4];clear inv5;have inv7:=HeadInv.put2 inv6 (j:=1) (by kernel_rfl) (by omega)
 clear inv6;refine sa1 (r:=1) B_X0.out ?_;refine Z0x (Zg rfl) rfl (f:=126) (args:=#[.int .i64 (n:Int)]) (by go_simp) (f1.out X1) ?_
 rintro e w1 ⟨v1,rfl,p1,b1⟩;refine⟨v1,rfl,?_⟩;simp only [Act.put,zq4,zr4,zs4];replace BW:=zAi BW b1;replace B_X0:=zAi B_X0 b1;clear b1;have P1:=Lib.hid p1;clear p1;have inv8:=HeadInv.put2 inv7 (j:=7) (by kernel_rfl) (by omega)
 clear inv7;refine sa1 (r:=7) B_X0.out ?_;refine Z0x (Zg rfl) rfl (f:=125) (args:=#[v1,.agg #[.int .i64 px,.int .i64 py]]) (by go_simp) (f2.out _ _ P1.out) ?_
 rintro e w2 ⟨v2,rfl,p2,b2⟩;refine⟨v2,rfl,?_⟩;simp only [Act.put,zq4,zr4,zs4];replace BW:=zAi BW b2;replace B_X0:=zAi B_X0 b2;have B_w1:=Lib.hid b2;clear b2;have P2:=Lib.hid (Z8.own p2 (by have:=HL.out;omega))
 clear p2 inv8 hH;refine Zw (by kernel_rfl) B_X0.out ?_
 simp only [List.drop_succ_cons,List.drop_zero];obtain⟨g2,d2,hv2⟩:=P2.out.len;subst hv2;clear x0 x1 x2;have xh:w2.cell? ⟨w.heap.size,1,none⟩=some (.slice a2 m.home.length (m.home.length+c2)):=(zCq RB B_X0).cell (i:=1) rfl;gi_wp2;go_wp2_with fail;refine (f3.out _ _ BW.out P2.out).mono ?_;rintro e w3 ⟨rfl,b3⟩;replace BW:=zAi BW b3;replace B_X0:=zAi B_X0 b3;replace B_w1:=zAi B_w1 b3;have B_w2:=Lib.hid b3;clear b3;go_wp2;go_ret;exact⟨rfl,BW.out⟩
theorem Z5S (m : Msn) (vw vh vr : Value) (w : World) (hm : MsnAt w.heap.size w m vw vh vr) (hV : validB m = true) (a : Nat) (ha : a < m.ways.length) (r0 : Int) (hrb : ∀ j, j ≤ dep m a → 0 ≤ bkR m a r0 j ∧ bkR m a r0 j ≤ 100000) :
  Calls Tryz.prog 74 #[.agg (Zc m vw vh vr),.int .i64 a,.int .i64 r0] w fun e w'=>e=.returned (.tuple #[.bool (bkC m a r0 (dep m a)),.int .i64 (bkR m a r0 (dep m a))])∧Below w.heap.size w w':=by
 have V:=(Zn m).1 hV;have hd:=Z3o V.ways ha;have n41:=V.n41;have fc:=fun w1 (B:Below w.heap.size w w1) (i j:Nat) u v hi hj hu hv=>Z2t m vw vh vr w1 ((hm.below B).mono B.size) V i j u v hi hj hu hv
 obtain⟨n,hn⟩:∃ n,dep m a=n:=⟨_,rfl⟩;rw [hn] at hd hrb ⊢;obtain⟨b,o,cap,rfl,hb,hc2⟩:=hm.1.cells (by omega)
 have HC:=Lib.hid hc2;have HV:=Lib.hid (And.intro hV (And.intro V hn));have HRB:=Lib.hid hrb;replace fc:=Lib.hid fc;have H0:=Has.new w (Zc m (.slice (some ⟨b,o,none⟩) m.ways.length (m.ways.length+cap)) vh vr) 26;have H0':=Lib.hid H0;clear hV V hn H0 hm hc2 hrb;unfold Zc at *;go_enter Tryz.func74,Tryz.ntmps74;go_wp2
 go_loopw [1,2,8] (fun i r c wr=>∃ j:Nat,j≤n∧i=.int .i64 (itB m a j)∧r=.int .i64 (bkR m a r0 j)∧c=.bool (bkC m a r0 j)∧Has wr w.heap.size (Zc m (.slice (some ⟨b,o,none⟩) m.ways.length (m.ways.length+cap)) vh vr) 26∧Below w.heap.size w wr) (fun i _ _ _=>(intOf i).toNat)
 case atStart=>exact⟨0,by omega,rfl,rfl,rfl,H0'.out,(Below.refl _ _).alloc (Nat.le_refl _) _⟩
 case round =>
  obtain⟨j,hj,rfl,rfl,rfl,H,hB⟩:=hrel;obtain⟨hV,V,hn⟩:=HV.out;have hzr:=hB.size;have hlt1:=H.lt;have x1:=Z0L V.ways ha (j:=j) (by omega)
  by_cases hz:itB m a j=0
  ·have hjd:=Z1H V.ways ha (by omega) hz
   have hjn:j=n:=by omega
   have HR:=Lib.hid (And.intro (congrArg (bkC m a r0) hjn) (congrArg (bkR m a r0) hjn));generalize bkC m a r0 j=t0 at *;generalize bkR m a r0 j=e0 at *;rw [hz];clear hV V hn hjd hjn hz x1 H HC;go_wp2;go_ret2;exact⟨by rw [← HR.out.1,← HR.out.2];rfl,hB⟩
  ·have hpos:0<itB m a j:=by omega
   have hjd:j<n:=by
    rcases Nat.lt_or_ge j n with h | h
    ·exact h
    ·exfalso
     have:j=dep m a:=by omega
     rw [this] at hz;exact hz (Z6k V.ways ha)
   have hdec:=Z68 V.ways ha (j:=j) (by omega)
   have hbk:=Z0i V.ways x1;have x2:=Z0L V.ways ha (j:=j+1) (by omega)
   obtain⟨q,hq⟩:∃ q:Nat,(wy m.ways (itB m a j)).back=q:=⟨_,(Int.toNat_of_nonneg hbk.1).symm⟩;have hq2:itB m a (j+1)=q:=by show (wy m.ways (itB m a j)).back.toNat=q;rw [hq];rfl
   have hs:bkR m a r0 (j+1)=bkR m a r0 j+gLeg m (itB m a j) (itB m a (j+1))∧bkC m a r0 (j+1)=(bkC m a r0 j && clrB m (itB m a j) (bkR m a r0 j) (itB m a (j+1)) (bkR m a r0 (j+1))):=⟨rfl,rfl⟩;have rb1:=HRB.out j (by omega)
   have rb2:=HRB.out (j+1) (by omega)
   rw [hq2] at hs hdec x2;have lg:=V.leg;unfold legOk at lg;have db:=Z0V V.ways x1 x2;have nr1:=ZG V.ways x1;have nr2:=ZG V.ways x2;unfold nearP at nr1 nr2;have hg:gLeg m (itB m a j) q=growthV m.speed m.part m.flow (distV (wy m.ways (itB m a j)).x (wy m.ways (itB m a j)).y (wy m.ways q).x (wy m.ways q).y):=rfl;unfold dLeg at db;obtain⟨p0,p1,_,_,p4⟩:=HC.out _ x1;obtain⟨s0,s1,_,_,_⟩:=HC.out _ x2;rw [hq] at p4;have y4:=(hB.cell (p:=⟨b,o+itB m a j*5+4,none⟩) hb).trans p4;replace p0:=Low.fact ((hB.cell (p:=⟨b,o+itB m a j*5,none⟩) hb).trans p0);replace p1:=Low.fact ((hB.cell (p:=⟨b,o+itB m a j*5+1,none⟩) hb).trans p1);replace s0:=Low.fact ((hB.cell (p:=⟨b,o+q*5,none⟩) hb).trans s0);replace s1:=Low.fact ((hB.cell (p:=⟨b,o+q*5+1,none⟩) hb).trans s1);have fcc:=fun w1 B=>fc.out w1 B (itB m a j) q (bkR m a r0 j) (bkR m a r0 (j+1)) x1 x2 rb1 rb2
   have HS:=Lib.hid (And.intro hs hq2);obtain⟨ra,hra⟩:∃ x,bkR m a r0 j=x:=⟨_,rfl⟩;obtain⟨rc,hrc⟩:∃ x,bkR m a r0 (j+1)=x:=⟨_,rfl⟩;obtain⟨cb,hcb⟩:∃ x,bkC m a r0 j=x:=⟨_,rfl⟩;simp only [hra,hrc,hcb] at HS rb1 rb2 fcc ⊢;have HRC:=Lib.hid hrc;clear hra hrc hcb;generalize hp:itB m a j=pp at *;generalize (wy m.ways pp).x=px at *;generalize (wy m.ways pp).y=py at *;generalize (wy m.ways q).x=qx at *;generalize (wy m.ways q).y=qy at *;obtain⟨cc,hcc⟩:∃ x,clrB m pp ra q rc=x:=⟨_,rfl⟩;simp only [hcc] at HS fcc;rw [hg] at HS;have f1:=Lib.hid (fun w1=>Z0K px py qx qy w1 nr1.1 nr1.2.1 nr1.2.2.1 nr1.2.2.2 nr2.1 nr2.2.1 nr2.2.2.1 nr2.2.2.2)
   generalize distV px py qx qy=dd at *;have f2:=fun w1=>Z0P m (.slice (some ⟨b,o,none⟩) m.ways.length (m.ways.length+cap)) vh vr dd w1 db.1 db.2 lg.1 lg.2.1 lg.2.2.1 lg.2.2.2.1 lg.2.2.2.2.1 lg.2.2.2.2.2
   unfold Zc at f2;have hgr:IntKind.i64.wrap (ra+growthV m.speed m.part m.flow dd)=rc:=by rw [← HS.out.1.1];exact zW2
   generalize growthV m.speed m.part m.flow dd=gg at *;replace f2:=Lib.hid f2;replace fcc:=Lib.hid fcc;obtain⟨c0,c1,c2,c3,c4,c5,c6,c7,c8,c9,c10⟩:=Z0T (m:=m) H;have y0:wr.cell? ⟨w.heap.size,0,none⟩=some (.slice (some ⟨b,o,none⟩) m.ways.length (m.ways.length+cap)):=H.cell (i:=0) rfl;have HH:=Lib.hid H;have hil:(pp:Int)<m.ways.length:=by omega
   have hiq:(q:Int)<m.ways.length:=by omega
   have hi0:(0:Int)≤pp:=by omega
   have hq0:(0:Int)≤q:=by omega
   have hgt:decide ((pp:Int)>0)=true:=by rw [decide_eq_true_eq];omega
   clear hV V hn hz hbk hq hq2 hs H hp lg db nr1 nr2 hg hcc fc HC rb1 rb2 x1 x2;go_upto_region 4 with fail
   clear y0 y4
   (refine Ze (by kernel_rfl) (by kernel_rfl) ?_;(iterate 18 (apply Zd;(case hw=>rfl);(case hval=>(intro w1 hw1;have hcx:=Low.cells hw1;simp only [Oper.quietAt];go_simp;first | done | (first | (go_at_call 70;exact Low.calls hw1 (f1.out _)) | (go_at_call 69;exact Low.calls hw1 (f2.out _))) | rfl | exact⟨rfl,rfl⟩));simp only [Act.put,zq4,zr4,zs4]));refine wpQuiet_nil ?_;intro w2 hw2)
   have H2:=Lib.hid (HH.out.below hw2.out hlt1);have B2:=Lib.hid (hB.trans (hw2.out.mono hB.size));clear c0 c1 c2 c3 c4 c5 c6 c7 c8 c9 c10 p0 p1 s0 s1 hw2;obtain⟨c0,c1,c2,c3,c4,c5,c6,c7,c8,c9,c10⟩:=Zh (m:=m) H2.out;go_wp2_with fail;refine (fcc.out _ B2.out).mono ?_;rintro e w3 ⟨rfl,b3⟩;have H3:=Lib.hid (H2.out.below b3 H2.out.lt);have B3:=zAi B2 b3;clear b3 c0 c1 c2 c3 c4 c5 c6 c7 c8 c9 c10 H2 B2 hgr;cases cb
   all_goals
    go_wp2;go_roundw
    case rel=>exact⟨j+1,by omega,by rw [HS.out.2],by rw [HRC.out],by rw [HS.out.1.2];rfl,H3.out,B3.out⟩
    case measure=>simp [intOf];omega
theorem Z5Q (m:Msn) (vw vh vr vl:Value) (l:List Int) (w:World) (hm:MsnAt w.heap.size w m vw vh vr) (hl:Z9 w.heap.size w vl l) (hok:radOkB m l=true) (k:Nat) (hk:k+1<m.ways.length) :
  Calls Tryz.prog 41 #[.agg (Zc m vw vh vr),vl,.int .i64 k] w fun e w'=>e=.returned (.int .i64 (kindV m l k))∧Below w.heap.size w w':=by
 have hvs:validB m=true∧stopsB m l=true:=by simpa [radOkB] using hok
 have hV:=hvs.1;have V:=(Zn m).1 hV;have n41:=V.n41;have r1:=rd_le V l (k:=k) (by omega)
 have r2:=rd_le V l (k:=k+1) hk;have hrb:=bk_bd V l hk (Nat.le_refl _);have f1:=fun w1 (B:Below w.heap.size w w1)=>Z7l m vw vh vr vl l w1 ((hm.below B).mono B.size) ((hl.below B).mono B.size)
 have q1:rdBL m l=rdBU m l:=by unfold rdBL rdBU;rw [if_pos hok]
 have q2:rdAL m l=rdAU m l:=by unfold rdAL rdAU;rw [if_pos hok]
 have q3:rdE m l=0:=by unfold rdE;rw [if_pos hok]
 rw [q1,q2,q3] at f1;clear q1 q2 q3;have f2:=fun w1 (B:Below w.heap.size w w1)=>Z7i m vw vh vr vl l w1 ((hm.below B).mono B.size) ((hl.below B).mono B.size) hV
 have f3:=fun w1 (B:Below w.heap.size w w1)=>Z2t m vw vh vr w1 ((hm.below B).mono B.size) V k (k+1) (rdA m l k) (rdB m l (k+1)) (by omega) hk ⟨r1.2.2.1,r1.2.2.2⟩ ⟨r2.1,r2.2.1⟩
 have f4:=fun w1 (B:Below w.heap.size w w1)=>Z5S m vw vh vr w1 ((hm.below B).mono B.size) hV (k+1) hk (rdB m l (k+1)) (fun j hj=>bk_bd V l hk hj)
 have f5:=fun w1 (B:Below w.heap.size w w1)=>Z4o m vw vh vr w1 ((hm.below B).mono B.size) V _ hrb
 have f6:=fun w1 (B:Below w.heap.size w w1)=>Z8v m vw vh vr (k+1) w1 ((hm.below B).mono B.size) hV hk
 have ub:=Z1A V l (k+1) hk;have hte:=Z1c V hk _ (Nat.le_refl _);have hdp:=Z3o V.ways hk;have lb1:=Z0w m l;have la1:=Z1C m l;have lt1:=Z14 m l;have le1:=Z15 m l;have gb:=Z4t (m:=m) (l:=l) hk;have ga:=Z6z (m:=m) (l:=l) (k:=k) (by omega)
 have gt:(usedT m l).getD (k+1) 0=usT m l (k+1):=by rw [usedT,Z0I _ hk]
 have ge:(usedE m l).getD (k+1) 0=usE m l (k+1):=by rw [usedE,Z0I _ hk]
 rw [Z6M];obtain⟨K,hK⟩:∃ K,k+1=K:=⟨_,rfl⟩;have jw:IntKind.i64.wrap ((k:Int)+1)=(K:Int):=by rw [← hK];exact zW2
 simp only [hK] at f3 f4 f5 f6 ub hte hdp gb gt ge hk ⊢;have hwE:IntKind.i64.wrap (usE m l K+homeE m K (dep m K))=usE m l K+homeE m K (dep m K):=zW2;have hwT:IntKind.i64.wrap (usT m l K+homeT m K (dep m K))=usT m l K+homeT m K (dep m K):=zW2;have dE:decide (usE m l K+homeE m K (dep m K)>m.battery)=!decide (usE m l K+homeE m K (dep m K)≤m.battery):=by
  rw [← decide_not];exact decide_eq_decide.2 ⟨fun h=>by omega,fun h=>by omega⟩
 have dT:decide (usT m l K+homeT m K (dep m K)>m.deadline)=!decide (usT m l K+homeT m K (dep m K)≤m.deadline):=by
  rw [← decide_not];exact decide_eq_decide.2 ⟨fun h=>by omega,fun h=>by omega⟩
 generalize decide (usE m l K+homeE m K (dep m K)≤m.battery)=bd at *;generalize decide (usT m l K+homeT m K (dep m K)≤m.deadline)=be at *;generalize homeT m K (dep m K)=hT' at *;generalize homeE m K (dep m K)=hE' at *;generalize usE m l K=uE at *;generalize usT m l K=uT at *;generalize lieB m (bkR m K (rdB m l K) (dep m K))=bc at *;generalize bkR m K (rdB m l K) (dep m K)=rr at *;generalize bkC m K (rdB m l K) (dep m K)=bb at *;generalize clrB m k (rdA m l k) K (rdB m l K)=ba at *;generalize rdA m l k=ra at *;generalize rdB m l K=rb at *;generalize rdBU m l=lB at *;generalize rdAU m l=lA at *;generalize usedT m l=lT at *;generalize usedE m l=lE at *;obtain⟨⟨-,a1,c1,rfl,-⟩,⟨-,a2,c2,rfl,-⟩,⟨-,a3,c3,rfl,-⟩⟩:=hm;obtain⟨-,al,cl,rfl,-⟩:=hl;unfold Zc UsedQ at *;replace f1:=Lib.hid f1;replace f2:=Lib.hid f2;replace f3:=Lib.hid f3;replace f4:=Lib.hid f4;replace f5:=Lib.hid f5;replace f6:=Lib.hid f6;have HL:=Lib.hid (And.intro lb1 (And.intro la1 (And.intro lt1 le1)));have HG:=Lib.hid (And.intro gb (And.intro ga (And.intro gt ge)));have hk':(k:Int)<m.ways.length:=by omega
 have hK':(K:Int)<m.ways.length:=by omega
 have hk0:(0:Int)≤k:=by omega
 have hK0:(0:Int)≤K:=by omega
 have hkn:k<m.ways.length:=by omega
 have HD:=Lib.hid (And.intro dE dT);clear hok hvs hV V r1 r2 hrb ub hte hdp lb1 la1 lt1 le1 gb ga gt ge hK dE dT;have BW:=Lib.hid (Below.refl w.heap.size w);go_enter Tryz.func41,Tryz.ntmps41;go_wp2_with fail;generalize hXX0:World.alloc w _=X0;obtain⟨q0,hA,hzX0⟩:=box1 hXX0;clear hXX0;have BW:=Lib.hid hA;clear hA;have MB:=Lib.hid q0;clear q0 hzX0;obtain⟨c0,c1,c2,c3,c4,c5,c6,c7,c8,c9,c10⟩:=Zh (m:=m) MB.out;refine (f1.out _ BW.out).mono ?_;rintro e w11 ⟨v1,v2,rfl,p1,p2,b11⟩;replace BW:=zAi BW b11;have B_X0:=Lib.hid b11;clear b11 c0 c1 c2 c3 c4 c5 c6 c7 c8 c9 c10;obtain⟨b1,o1,e1,hv1,hb1,hc1⟩:=ZN p1 (by have:=HL.out;omega)
 subst hv1;rw [HL.out.1];have RB:=Lib.hid (And.intro hb1 ((hc1 K (by have:=HL.out;omega)).trans (by rw [HG.out.1])))
 clear hc1 hb1 p1;obtain⟨b2,o2,e2,hv2,hb2,hc2⟩:=ZN p2 (by have:=HL.out;omega)
 subst hv2;rw [HL.out.2.1];have RA:=Lib.hid (And.intro hb2 ((hc2 k (by have:=HL.out;omega)).trans (by rw [HG.out.2.1])))
 clear hc2 hb2 p2;obtain⟨c0,c1,c2,c3,c4,c5,c6,c7,c8,c9,c10⟩:=Zh (m:=m) (zCq MB B_X0);go_wp2_with fail;refine (f2.out _ BW.out).mono ?_;rintro e w12 ⟨v3,v4,rfl,p3,p4,b12⟩;replace BW:=zAi BW b12;replace B_X0:=zAi B_X0 b12;have B_w11:=Lib.hid b12;clear b12 c0 c1 c2 c3 c4 c5 c6 c7 c8 c9 c10;obtain⟨b3,o3,e3,hv3,hb3,hc3⟩:=ZN p3 (by have:=HL.out;omega)
 subst hv3;rw [HL.out.2.2.1];have RT:=Lib.hid (And.intro hb3 ((hc3 K (by have:=HL.out;omega)).trans (by rw [HG.out.2.2.1])))
 clear hc3 hb3 p3;obtain⟨b4,o4,e4,hv4,hb4,hc4⟩:=ZN p4 (by have:=HL.out;omega)
 subst hv4;rw [HL.out.2.2.2];have RE:=Lib.hid (And.intro hb4 ((hc4 K (by have:=HL.out;omega)).trans (by rw [HG.out.2.2.2])))
 clear hc4 hb4 p4;obtain⟨c0,c1,c2,c3,c4,c5,c6,c7,c8,c9,c10⟩:=Zh (m:=m) (zCq MB B_X0);go_upto_region 4 with fail
 clear c0 c1 c2 c3 c4 c5 c6 c7 c8 c9 c10;have q0:=Low.fact ((zCq MB B_X0).cell (i:=0) rfl);have q1:=Low.fact ((zCq MB B_X0).cell (i:=1) rfl);have q2:=Low.fact ((zCq MB B_X0).cell (i:=2) rfl);have q3:=Low.fact ((zCq MB B_X0).cell (i:=3) rfl);have q4:=Low.fact ((zCq MB B_X0).cell (i:=4) rfl);have q5:=Low.fact ((zCq MB B_X0).cell (i:=5) rfl);have q6:=Low.fact ((zCq MB B_X0).cell (i:=6) rfl);have q7:=Low.fact ((zCq MB B_X0).cell (i:=7) rfl);have q8:=Low.fact ((zCq MB B_X0).cell (i:=8) rfl);have q9:=Low.fact ((zCq MB B_X0).cell (i:=9) rfl);have q10:=Low.fact ((zCq MB B_X0).cell (i:=10) rfl);have z0:=Low.fact ((B_w11.out.cell (p:=⟨b2,o2+k,none⟩) RA.out.1).trans RA.out.2);have z1:=Low.fact ((B_w11.out.cell (p:=⟨b1,o1+K,none⟩) RB.out.1).trans RB.out.2)
 (refine Ze (by kernel_rfl) (by kernel_rfl) ?_;(iterate 13 (apply Zd;(case hw=>rfl);(case hval=>(intro w1 hw1;have hcx:=Low.cells hw1;simp only [Oper.quietAt];go_simp;first | done | (first | (go_at_call 73;exact Low.calls hw1 (f3.out _ (BW.out.trans (hw1.out.mono BW.out.size))))) | rfl | exact⟨rfl,rfl⟩));simp only [Act.put,zq4,zr4,zs4]));refine wpQuiet_nil ?_;intro w2 hw2)
 obtain⟨wl4,hwL⟩:∃ x,x=w2:=⟨_,rfl⟩;subst hwL;have bL:=hw2.out;clear hw2 q0 q1 q2 q3 q4 q5 q6 q7 q8 q9 q10 z0 z1;replace BW:=zAi BW bL;replace B_X0:=zAi B_X0 bL;replace B_w11:=zAi B_w11 bL;have B_w12:=Lib.hid bL;clear bL;obtain⟨c0,c1,c2,c3,c4,c5,c6,c7,c8,c9,c10⟩:=Zh (m:=m) (zCq MB B_X0);go_upto_region 5 with fail
 clear c0 c1 c2 c3 c4 c5 c6 c7 c8 c9 c10;have q0:=Low.fact ((zCq MB B_X0).cell (i:=0) rfl);have q1:=Low.fact ((zCq MB B_X0).cell (i:=1) rfl);have q2:=Low.fact ((zCq MB B_X0).cell (i:=2) rfl);have q3:=Low.fact ((zCq MB B_X0).cell (i:=3) rfl);have q4:=Low.fact ((zCq MB B_X0).cell (i:=4) rfl);have q5:=Low.fact ((zCq MB B_X0).cell (i:=5) rfl);have q6:=Low.fact ((zCq MB B_X0).cell (i:=6) rfl);have q7:=Low.fact ((zCq MB B_X0).cell (i:=7) rfl);have q8:=Low.fact ((zCq MB B_X0).cell (i:=8) rfl);have q9:=Low.fact ((zCq MB B_X0).cell (i:=9) rfl);have q10:=Low.fact ((zCq MB B_X0).cell (i:=10) rfl);have z0:=Low.fact ((B_w11.out.cell (p:=⟨b1,o1+K,none⟩) RB.out.1).trans RB.out.2)
 (refine Ze (by kernel_rfl) (by kernel_rfl) ?_;(iterate 12 (apply Zd;(case hw=>rfl);(case hval=>(intro w1 hw1;have hcx:=Low.cells hw1;simp only [Oper.quietAt];go_simp;first | done | (first | (go_at_call 74;exact Low.calls hw1 (f4.out _ (BW.out.trans (hw1.out.mono BW.out.size))))) | rfl | exact⟨rfl,rfl⟩));simp only [Act.put,zq4,zr4,zs4]));refine wpQuiet_nil ?_;intro w2 hw2)
 obtain⟨wl5,hwL⟩:∃ x,x=w2:=⟨_,rfl⟩;subst hwL;have bL:=hw2.out;clear hw2 q0 q1 q2 q3 q4 q5 q6 q7 q8 q9 q10 z0;replace BW:=zAi BW bL;replace B_X0:=zAi B_X0 bL;replace B_w11:=zAi B_w11 bL;replace B_w12:=zAi B_w12 bL;clear bL;obtain⟨c0,c1,c2,c3,c4,c5,c6,c7,c8,c9,c10⟩:=Zh (m:=m) (zCq MB B_X0);go_wp2_with fail;refine (f5.out _ BW.out).mono ?_;rintro e w13 ⟨rfl,b13⟩;replace BW:=zAi BW b13;replace B_X0:=zAi B_X0 b13;replace B_w11:=zAi B_w11 b13;replace B_w12:=zAi B_w12 b13;clear b13 c0 c1 c2 c3 c4 c5 c6 c7 c8 c9 c10;obtain⟨c0,c1,c2,c3,c4,c5,c6,c7,c8,c9,c10⟩:=Zh (m:=m) (zCq MB B_X0);go_wp2_with fail;refine (f6.out _ BW.out).mono ?_;rintro e w14 ⟨rfl,b14⟩;replace BW:=zAi BW b14;replace B_X0:=zAi B_X0 b14;replace B_w11:=zAi B_w11 b14;replace B_w12:=zAi B_w12 b14;clear b14 c0 c1 c2 c3 c4 c5 c6 c7 c8 c9 c10;cases ba
 ·go_wp2
  go_ret;exact⟨by simp,BW.out⟩
 cases bb
 ·go_wp2
  go_ret;exact⟨by simp,BW.out⟩
 cases bc
 ·go_wp2
  go_ret;exact⟨by simp,BW.out⟩
 have dd:=HD.out.1;obtain⟨c0,c1,c2,c3,c4,c5,c6,c7,c8,c9,c10⟩:=Zh (m:=m) (zCq MB B_X0);go_upto_region 14 with fail
 clear c0 c1 c2 c3 c4 c5 c6 c7 c8 c9 c10;have q0:=Low.fact ((zCq MB B_X0).cell (i:=0) rfl);have q1:=Low.fact ((zCq MB B_X0).cell (i:=1) rfl);have q2:=Low.fact ((zCq MB B_X0).cell (i:=2) rfl);have q3:=Low.fact ((zCq MB B_X0).cell (i:=3) rfl);have q4:=Low.fact ((zCq MB B_X0).cell (i:=4) rfl);have q5:=Low.fact ((zCq MB B_X0).cell (i:=5) rfl);have q6:=Low.fact ((zCq MB B_X0).cell (i:=6) rfl);have q7:=Low.fact ((zCq MB B_X0).cell (i:=7) rfl);have q8:=Low.fact ((zCq MB B_X0).cell (i:=8) rfl);have q9:=Low.fact ((zCq MB B_X0).cell (i:=9) rfl);have q10:=Low.fact ((zCq MB B_X0).cell (i:=10) rfl);have z0:=Low.fact ((B_w12.out.cell (p:=⟨b4,o4+K,none⟩) RE.out.1).trans RE.out.2)
 (refine Ze (by kernel_rfl) (by kernel_rfl) ?_;(iterate 9 (apply Zd;(case hw=>rfl);(case hval=>(intro w1 hw1;have hcx:=Low.cells hw1;simp only [Oper.quietAt];go_simp;first | done | rfl | exact⟨rfl,rfl⟩));simp only [Act.put,zq4,zr4,zs4]));refine wpQuiet_nil ?_;intro w2 hw2)
 obtain⟨wl14,hwL⟩:∃ x,x=w2:=⟨_,rfl⟩;subst hwL;have bL:=hw2.out;clear hw2 q0 q1 q2 q3 q4 q5 q6 q7 q8 q9 q10 z0;replace BW:=zAi BW bL;replace B_X0:=zAi B_X0 bL;replace B_w11:=zAi B_w11 bL;replace B_w12:=zAi B_w12 bL;clear bL;cases bd
 ·simp only [Bool.not_false] at dd
  go_wp2;go_ret;exact⟨by simp,BW.out⟩
 simp only [Bool.not_true] at dd;have dd:=HD.out.2;obtain⟨c0,c1,c2,c3,c4,c5,c6,c7,c8,c9,c10⟩:=Zh (m:=m) (zCq MB B_X0);go_upto_region 16 with fail
 clear c0 c1 c2 c3 c4 c5 c6 c7 c8 c9 c10;have q0:=Low.fact ((zCq MB B_X0).cell (i:=0) rfl);have q1:=Low.fact ((zCq MB B_X0).cell (i:=1) rfl);have q2:=Low.fact ((zCq MB B_X0).cell (i:=2) rfl);have q3:=Low.fact ((zCq MB B_X0).cell (i:=3) rfl);have q4:=Low.fact ((zCq MB B_X0).cell (i:=4) rfl);have q5:=Low.fact ((zCq MB B_X0).cell (i:=5) rfl);have q6:=Low.fact ((zCq MB B_X0).cell (i:=6) rfl);have q7:=Low.fact ((zCq MB B_X0).cell (i:=7) rfl);have q8:=Low.fact ((zCq MB B_X0).cell (i:=8) rfl);have q9:=Low.fact ((zCq MB B_X0).cell (i:=9) rfl);have q10:=Low.fact ((zCq MB B_X0).cell (i:=10) rfl);have z0:=Low.fact ((B_w12.out.cell (p:=⟨b3,o3+K,none⟩) RT.out.1).trans RT.out.2)
 (refine Ze (by kernel_rfl) (by kernel_rfl) ?_;(iterate 9 (apply Zd;(case hw=>rfl);(case hval=>(intro w1 hw1;have hcx:=Low.cells hw1;simp only [Oper.quietAt];go_simp;first | done | rfl | exact⟨rfl,rfl⟩));simp only [Act.put,zq4,zr4,zs4]));refine wpQuiet_nil ?_;intro w2 hw2)
 obtain⟨wl16,hwL⟩:∃ x,x=w2:=⟨_,rfl⟩;subst hwL;have bL:=hw2.out;clear hw2 q0 q1 q2 q3 q4 q5 q6 q7 q8 q9 q10 z0;replace BW:=zAi BW bL;replace B_X0:=zAi B_X0 bL;replace B_w11:=zAi B_w11 bL;replace B_w12:=zAi B_w12 bL;clear bL;cases be
 ·simp only [Bool.not_false] at dd
  go_wp2;go_ret;exact⟨by simp,BW.out⟩
 simp only [Bool.not_true] at dd;go_wp2;go_ret;exact⟨by simp,BW.out⟩
theorem Z2s (m : Msn) (vw vh vr vl : Value) (l : List Int) (w : World) (hm : MsnAt w.heap.size w m vw vh vr) (hl : Z9 w.heap.size w vl l) (hok : radOkB m l = true) :
  Calls Tryz.prog 20 #[.agg (Zc m vw vh vr),vl] w fun e w'=>e=.returned (.tuple #[.int .i64 (leadV m l),.int .i64 (leadK m l)])∧Below w.heap.size w w':=by
 have hvs:validB m=true∧stopsB m l=true:=by simpa [radOkB] using hok
 have V:=(Zn m).1 hvs.1;have n41:=V.n41;have n2:=V.n2;have f2:=fun w1 (B:Below w.heap.size w w1) k hk=>Z5Q m vw vh vr vl l w1 ((hm.below B).mono B.size) ((hl.below B).mono B.size) hok k hk
 obtain⟨⟨-,a1,c1,rfl,-⟩,⟨-,a2,c2,rfl,-⟩,⟨-,a3,c3,rfl,-⟩⟩:=hm;obtain⟨-,al,cl,rfl,-⟩:=hl;have hfin:=fun n h1 h2 h3=>Z1p (m:=m) (l:=l) (n:=n) h1 h2 h3
 have hkb:=fun k=>(Z8Z m l k).1
 unfold Zc at *;replace f2:=Lib.hid f2;replace hfin:=Lib.hid hfin;replace hkb:=Lib.hid hkb;clear hok hvs V;have BW:=Lib.hid (Below.refl w.heap.size w);go_enter Tryz.func20,Tryz.ntmps20;go_wp2;generalize hXX0:World.alloc w _=X0;obtain⟨q0,hA,hzX0⟩:=box1 hXX0;clear hXX0;have BW:=Lib.hid hA;clear hA;have MB:=Lib.hid q0;clear q0 hzX0;have jw:IntKind.i64.wrap ((m.ways.length:Int)-1)=((m.ways.length-1:Nat):Int):=by rw [show ((m.ways.length:Int)-1)=((m.ways.length-1:Nat):Int) by omega];exact zW2
 obtain⟨N,hN⟩:∃ N,m.ways.length-1=N:=⟨_,rfl⟩;rw [hN] at jw
 go_loopw [6] (fun i wr=>∃ j:Nat,j≤N∧i=.int .i64 j∧(∀ j',j'<j→kindV m l j'=0)∧Below X0.heap.size X0 wr) (fun i _=>N-(intOf i).toNat)
 case atStart=>exact⟨0,Nat.zero_le _,rfl,fun j h=>by omega,Below.refl _ _⟩
 case round =>
  obtain⟨j,hj,rfl,hall,hB⟩:=hrel;obtain⟨wo,hwo⟩:∃ x,x=wr:=⟨_,rfl⟩;subst hwo;have BO:=Lib.hid (And.intro hB (BW.out.trans (hB.mono BW.out.size)));have HA:=Lib.hid hall;clear hall;have MBO:=MB.out.below hB MB.out.lt;obtain⟨x0,x1,x2,x3,x4,x5,x6,x7,x8,x9,x10⟩:=Zh (m:=m) MBO;clear hB MBO;by_cases hjn:j<N
  ·have g2:=Lib.hid (f2.out wo BO.out.2 j (by omega))
   have hjl:(j:Int)<(N:Int):=by omega
   have kb:=hkb.out j;obtain⟨kv,hkv⟩:∃ x,kindV m l j=x:=⟨_,rfl⟩;rw [hkv] at kb;simp only [hkv] at g2;have HK:=Lib.hid hkv;clear hkv;go_wp2_with fail;refine g2.out.mono ?_;rintro e w4 ⟨rfl,b4⟩;have B4:=Lib.hid (And.intro (BO.out.1.trans (b4.mono BO.out.1.size)) (BO.out.2.trans (b4.mono BO.out.2.size)));clear b4 x0 x1 x2 x3 x4 x5 x6 x7 x8 x9 x10;by_cases hz:kv=0
   ·subst hz
    go_wp2;go_roundw
    case rel=>exact⟨j+1,by omega,by go_num,fun j' hj'=>by
     rcases Nat.lt_succ_iff_lt_or_eq.1 hj' with h | h
     ·exact HA.out j' h
     ·rw [h];exact HK.out,B4.out.1⟩
    case measure=>simp [intOf];omega
   ·have d1:decide (kv>0)=true:=by rw [decide_eq_true_eq];omega
    have hle:=Lib.hid (hfin.out j (by omega) HA.out (fun _=>by rw [HK.out];exact hz))
    clear hz;go_wp2;go_ret2;refine⟨?_,B4.out.2⟩;have e1:=hle.out;rw [show leadV m l=(j:Int) by rw [leadV,e1],show leadK m l=kv by rw [leadK,e1,if_pos (by omega),HK.out]]
    rfl
  ·obtain rfl:j=N:=by omega
   have hle:=Lib.hid (hfin.out j (by omega) HA.out (fun h=>by omega))
   go_wp2;go_ret2;refine⟨?_,BO.out.2⟩;have e1:=hle.out;rw [show leadV m l=(j:Int) by rw [leadV,e1],show leadK m l=0 by rw [leadK,e1,if_neg (by omega)]]
   rfl
theorem Z4W (m:Msn) (vw vh vr vl:Value) (l:List Int) (w:World) (hm:MsnAt w.heap.size w m vw vh vr) (hl:Z9 w.heap.size w vl l) :
  Calls Tryz.prog 7 #[.agg (Zc m vw vh vr),vl] w fun e w'=>e=.returned (.tuple #[.int .i64 (kpL m l),.int .i64 (kpK m l),.int .i64 (kpE m l)])∧Below w.heap.size w w':=by
 have f1:=fun w1 (B:Below w.heap.size w w1)=>Z0D m vw vh vr w1 ((hm.below B).mono B.size)
 have f2:=fun (h:validB m=true) w1 (B:Below w.heap.size w w1)=>Z17 m vw vh vr vl l w1 (fun k hk=>(ZL (Z0h ((Zn m).1 h).ways hk)).2.2.2.2.1) ((hm.1.below B).mono B.size) ((hl.below B).mono B.size)
 have f3:=fun (h:radOkB m l=true) w1 (B:Below w.heap.size w w1)=>Z2s m vw vh vr vl l w1 ((hm.below B).mono B.size) ((hl.below B).mono B.size) h
 obtain⟨⟨-,a1,c1,rfl,-⟩,⟨-,a2,c2,rfl,-⟩,⟨-,a3,c3,rfl,-⟩⟩:=hm;obtain⟨-,al,cl,rfl,-⟩:=hl;have hok:radOkB m l=(validB m && stopsB m l):=rfl;unfold kpL kpK kpE;rw [hok] at f3 ⊢;clear hok;unfold Zc at *;generalize leadV m l=lv at *;generalize leadK m l=lk at *;generalize stopsB m l=sb at *;cases hv:validB m
 all_goals
  simp only [hv,Bool.false_and,Bool.true_and,Bool.false_eq_true,if_false] at f1 f2 f3 ⊢
 ·clear f2 f3 hv
  replace f1:=Lib.hid f1;have BW:=Lib.hid (Below.refl w.heap.size w);go_enter Tryz.func7,Tryz.ntmps7;go_wp2_with fail;generalize hXX0:World.alloc w _=X0;obtain⟨q0,hA,hzX0⟩:=box1 hXX0;clear hXX0;have BW:=Lib.hid hA;clear hA;have MB:=Lib.hid q0;clear q0;refine (f1.out _ BW.out).mono ?_;rintro e w1 ⟨rfl,b1⟩;replace BW:=zAi BW b1;have B_X0:=Lib.hid b1;clear b1;go_wp2;go_ret3;exact⟨rfl,BW.out⟩
 ·replace f1:=Lib.hid f1
  replace f2:=Lib.hid (f2 trivial);clear hv;have BW:=Lib.hid (Below.refl w.heap.size w);cases sb
  all_goals simp only [if_true,Bool.false_eq_true,if_false] at f3 ⊢
  ·clear f3
   go_enter Tryz.func7,Tryz.ntmps7;go_wp2_with fail;generalize hXX0:World.alloc w _=X0;obtain⟨q0,hA,hzX0⟩:=box1 hXX0;clear hXX0;have BW:=Lib.hid hA;clear hA;have MB:=Lib.hid q0;clear q0 hzX0;obtain⟨c0,c1,c2,c3,c4,c5,c6,c7,c8,c9,c10⟩:=Zh (m:=m) MB.out;refine (f1.out _ BW.out).mono ?_;rintro e w1 ⟨rfl,b1⟩;replace BW:=zAi BW b1;have B_X0:=Lib.hid b1;clear b1 c0 c1 c2 c3 c4 c5 c6 c7 c8 c9 c10;obtain⟨c0,c1,c2,c3,c4,c5,c6,c7,c8,c9,c10⟩:=Zh (m:=m) (zCq MB B_X0);go_wp2_with fail;refine (f2.out _ BW.out).mono ?_;rintro e w2 ⟨rfl,b2⟩;replace BW:=zAi BW b2;replace B_X0:=zAi B_X0 b2;clear b2 c0 c1 c2 c3 c4 c5 c6 c7 c8 c9 c10;obtain⟨c0,c1,c2,c3,c4,c5,c6,c7,c8,c9,c10⟩:=Zh (m:=m) (zCq MB B_X0);clear c0 c1 c2 c3 c4 c5 c6 c7 c8 c9 c10;go_wp2;go_ret3;exact⟨rfl,BW.out⟩
  ·replace f3:=Lib.hid (f3 trivial)
   go_enter Tryz.func7,Tryz.ntmps7;go_wp2_with fail;generalize hXX0:World.alloc w _=X0;obtain⟨q0,hA,hzX0⟩:=box1 hXX0;clear hXX0;have BW:=Lib.hid hA;clear hA;have MB:=Lib.hid q0;clear q0 hzX0;obtain⟨c0,c1,c2,c3,c4,c5,c6,c7,c8,c9,c10⟩:=Zh (m:=m) MB.out;refine (f1.out _ BW.out).mono ?_;rintro e w1 ⟨rfl,b1⟩;replace BW:=zAi BW b1;have B_X0:=Lib.hid b1;clear b1 c0 c1 c2 c3 c4 c5 c6 c7 c8 c9 c10;obtain⟨c0,c1,c2,c3,c4,c5,c6,c7,c8,c9,c10⟩:=Zh (m:=m) (zCq MB B_X0);go_wp2_with fail;refine (f2.out _ BW.out).mono ?_;rintro e w2 ⟨rfl,b2⟩;replace BW:=zAi BW b2;replace B_X0:=zAi B_X0 b2;clear b2 c0 c1 c2 c3 c4 c5 c6 c7 c8 c9 c10;obtain⟨c0,c1,c2,c3,c4,c5,c6,c7,c8,c9,c10⟩:=Zh (m:=m) (zCq MB B_X0);go_wp2_with fail;refine (f3.out _ BW.out).mono ?_;rintro e w3 ⟨rfl,b3⟩;replace BW:=zAi BW b3;replace B_X0:=zAi B_X0 b3;clear b3 c0 c1 c2 c3 c4 c5 c6 c7 c8 c9 c10;obtain⟨c0,c1,c2,c3,c4,c5,c6,c7,c8,c9,c10⟩:=Zh (m:=m) (zCq MB B_X0);clear c0 c1 c2 c3 c4 c5 c6 c7 c8 c9 c10;go_wp2;go_ret3;exact⟨rfl,BW.out⟩
end
end Go.Proofs.YtcfkhkgldboddaaGreat
