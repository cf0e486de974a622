/- the example of layer 36, reckoned. No program here. | The error of Make and the kind that Keeps returns. No program here. | landfallref36: Homeward .. -/
import Derived.Test.YtpimbaaahcemhaaGreatBin38
set_option linter.unusedSimpArgs false
set_option linter.unusedVariables false
set_option maxRecDepth 8000
set_option maxHeartbeats 6400000
namespace Go.Proofs.YtpimbaaahcemhaaGreat
def hm5:List Pt:=[⟨-50,-50⟩,⟨50,-50⟩,⟨50,50⟩,⟨-50,50⟩]
def exC (b:Int):Msn:=⟨[⟨0,0,0,0,0⟩,⟨1000,0,0,0,0⟩],hm5,10,[],10000,0,0,1,0,b,100⟩
theorem Z1x (b:Int):(gLeg (exC b) 0 1=0∧gLeg (exC b) 1 0=0)∧(tLeg (exC b) 0 1=10∧tLeg (exC b) 1 0=10)∧(eLeg (exC b) 0 1=10∧eLeg (exC b) 1 0=10):=by
 have d1:dLeg (exC b) 0 1=1000:=show distV 0 0 1000 0=1000 from Z75 (by decide) (by decide) (by decide)
 have d2:dLeg (exC b) 1 0=1000:=show distV 1000 0 0 0=1000 from Z75 (by decide) (by decide) (by decide)
 have t1:tLeg (exC b) 0 1=10:=by unfold tLeg;rw [d1];exact (show lastsV 10000 1000=10 by decide)
 have t2:tLeg (exC b) 1 0=10:=by unfold tLeg;rw [d2];exact (show lastsV 10000 1000=10 by decide)
 refine⟨⟨?_,?_⟩,⟨t1,t2⟩,?_,?_⟩
 ·unfold gLeg;rw [d1];exact (show growthV 10000 0 0 1000=0 by decide)
 ·unfold gLeg;rw [d2];exact (show growthV 10000 0 0 1000=0 by decide)
 ·unfold eLeg;rw [t1,d1];rfl
 ·unfold eLeg;rw [t2,d2];rfl
theorem Z5M:Zc hm5=true:=by rw [Z0N];decide +kernel
theorem Z9M (b:Int):grownV (exC b)=10:=by
 obtain⟨⟨g1,g2⟩,-⟩:=Z1x b
 show (10:Int)+(gLeg (exC b) 0 1+gLeg (exC b) 1 0)=10
 rw [g1,g2]
 rfl
theorem Z5S {b:Int} (hb:0≤b∧b≤1000000000):validB (exC b)=true:=by
 rw [Zp];refine⟨by show 2≤2;decide,by show 2≤41;decide,by show 0≤100;decide,by show waysB [⟨0,0,0,0,0⟩,⟨1000,0,0,0,0⟩]=true;decide,Z5M,?_,by show (0:Int)≤10∧(10:Int)≤100000;decide,by show (1:Int)≤10000∧(10000:Int)≤20000∧(0:Int)≤0∧(0:Int)≤500∧(0:Int)≤0∧(0:Int)≤5000;decide,by show (0:Int)≤1∧(1:Int)≤1000;decide,by show (0:Int)≤0∧(0:Int)≤1000;decide,hb,by show (0:Int)≤100∧(100:Int)≤1000000000;decide,by rw [Z9M];decide⟩
 exact decide_eq_true fun j hj=>absurd hj (by simp [exC])
theorem Z7r (c:List Pt):firB c []=false:=by
 unfold firB
 split <;> rfl
theorem Zb8 {b:Int} (hb:0≤b∧b≤1000000000) {i j:Nat} (hi:i<2) (hj:j<2) {u v:Int} (hu:0≤u∧u≤100000) (hv:0≤v∧v≤100000):ccB (exC b) i u j v=true:=by
 rw [ccB_of ((Zp _).1 (Z5S hb)) hi hj hu hv];unfold clrB;rw [show (exC b).rocks=[] from rfl,Z7r]
 rfl
theorem ZbD (b:Int):lieB (exC b) 10=true:=by
 unfold lieB;rw [show (10:Int).toNat=10 from rfl,Z6S,show atW (exC b) 0=⟨0,0⟩ from rfl]
 unfold cornersP;rw [show (exC b).home=hm5 from rfl,Z1J Z5M]
 decide +kernel
theorem Z58 (b:Int):dep (exC b) 1=1:=rfl
theorem Z57 (b:Int):homeE (exC b) 1 1=10∧homeT (exC b) 1 1=10:=by
 obtain⟨-,⟨-,t2⟩,-,e2⟩:=Z1x b;simp only [homeE,homeT];exact⟨by show 0+eLeg (exC b) 1 0=10;rw [e2];rfl,by show 0+tLeg (exC b) 1 0=10;rw [t2];rfl⟩
theorem exC_hw {b:Int} (hb:0≤b∧b≤1000000000):hwE (exC b) 1 10=0:=by
 obtain⟨⟨-,g2⟩,-⟩:=Z1x b;have r1:bkR (exC b) 1 10 1=10:=by show 10+gLeg (exC b) 1 0=10;rw [g2];rfl
 have c1:ccC (exC b) 1 10 1=true:=by
  show (true && ccB (exC b) 1 10 0 (bkR (exC b) 1 10 1))=true
  rw [r1,Zb8 hb (by decide) (by decide) (by decide) (by decide)]
  rfl
 unfold hwE;rw [Z58,c1,r1,ZbD]
 rfl
theorem Z9L {b:Int} (hb:0≤b∧b≤1000000000):kpsE (exC b) 0 10 10 10 10=if 20>b then 51 else 0:=by
 obtain⟨h1,h2⟩:=Z57 b;unfold kpsE;rw [show 0+1=1 from rfl,Zb8 hb (by decide) (by decide) (by decide) (by decide),exC_hw hb,Z58,h1,h2,if_neg (by decide),if_neg (by decide),if_neg (by decide)]
 show (if (20:Int)>b then 51 else if (20:Int)>100 then 6 else 0)=_
 rw [if_neg (by decide:¬ (20:Int)>100)]
theorem Z9J (b:Int):rdA (exC b) [] 0=10∧rdB (exC b) [] 1=10:=by
 obtain⟨⟨g1,-⟩,-⟩:=Z1x b;exact⟨rfl,by rw [Zak,show rdA (exC b) [] 0=10 from rfl,g1];rfl⟩
theorem Zb5 (b:Int):usT (exC b) [] 1=10∧usE (exC b) [] 1=10:=by
 obtain⟨-,⟨t1,-⟩,e1,-⟩:=Z1x b;have w0:waitT (exC b) [] 0=0:=rfl;exact⟨by show 0+waitT (exC b) [] 0+tLeg (exC b) 0 1=10;rw [w0,t1];rfl,by show 0+1*waitT (exC b) [] 0+eLeg (exC b) 0 1=10;rw [w0,e1];rfl⟩
theorem Zb6 {b:Int} (hb:0≤b∧b≤1000000000):radOkB (exC b) []=true:=by
 unfold radOkB;rw [Z5S hb,Bool.true_and];unfold stopsB;exact decide_eq_true fun k hk=>absurd hk (by simp)
theorem exC_no {b:Int}:radOkB (exC b) [1]=false:=by
 have h:stopsB (exC b) [1]=false:=by show stopsB (exC 0) [1]=false;decide
 unfold radOkB;rw [h,Bool.and_false]
def c36L:List Pt:=[⟨-10,-5⟩,⟨-5,-10⟩,⟨1005,-10⟩,⟨1010,-5⟩,⟨1010,5⟩,⟨1005,10⟩,⟨-5,10⟩,⟨-10,5⟩]
theorem Z0P:Zc c36L=true:=by rw [Z0N];decide +kernel
theorem Z3L:corE ⟨0,0⟩ 10 ⟨1000,0⟩ 10=0∧corL ⟨0,0⟩ 10 ⟨1000,0⟩ 10=c36L:=by
 have e:corE ⟨0,0⟩ 10 ⟨1000,0⟩ 10=0:=by
  unfold corE;rw [show (10:Int).toNat=10 from rfl,Z6S]
  decide +kernel
 refine⟨e,?_⟩;unfold corL;rw [if_pos e];unfold corH;rw [show (10:Int).toNat=10 from rfl,Z6S]
 exact Z7o (by decide +kernel)
theorem Z6Q {b:Int} (hb:0≤b∧b≤1000000000):mkE (exC b) []=if 20>b then 51 else 0:=by
 obtain⟨r1,r2⟩:=Z9J b;obtain⟨u1,u2⟩:=Zb5 b;unfold mkE;rw [Zb6 hb,if_pos rfl];have q:mkQ (exC b) [] 0=if 20>b then 51 else 0:=by unfold mkQ;rw [show 0+1=1 from rfl,r1,r2,u1,u2,Z9L hb]
 show (if mkQ (exC b) [] 0=0 then 0 else mkQ (exC b) [] 0)=_
 rw [q]
 split <;> simp_all
def ce36:Crt:=⟨[],[⟨c36L,10,10,10,10⟩],[10]⟩
theorem ZbC {b:Int} (hb:20≤b∧b≤1000000000):mkC (exC b) []=ce36:=by
 obtain⟨r1,r2⟩:=Z9J b;obtain⟨u1,u2⟩:=Zb5 b;obtain⟨h1,h2⟩:=Z57 b;have e:mkE (exC b) []=0:=(Z6Q ⟨by omega,hb.2⟩).trans (if_neg (by omega))
 unfold mkC;rw [e,if_pos rfl]
 show (⟨[],[mkP (exC b) [] 0],[mkR (exC b) 0]⟩:Crt)=ce36
 unfold mkP mkR;rw [show 0+1=1 from rfl,r1,r2,u1,u2,Z58,h1,show atW (exC b) 0=⟨0,0⟩ from rfl,show atW (exC b) 1=⟨1000,0⟩ from rfl,Z3L.2]
 rfl
theorem Z7s {b:Int} (hb:0≤b∧b≤1000000000):frmB (exC b) ce36=true:=by
 unfold frmB;rw [show ce36.stops=[] from rfl,Zb6 hb]
 have h:∀ j,j<ce36.psg.length→okP ce36 j=true:=fun j hj=>by
  obtain rfl:j=0:=by simp [ce36] at hj;omega
  unfold okP;rw [show (pgd ce36.psg 0).cor=c36L from rfl,Z0P]
  decide
 rw [decide_eq_true h]
 rfl
theorem Z64 {p:List Pt} (h:Zc p=true):withinB p p=true:=by
 have k:∀ k,k≤p.length→(cornersTo p p k).length=k:=fun k=>by
  induction k with
  | zero=>intro _;rfl
  | succ k ih =>
   intro hk;simp only [cornersTo,Z6H h (show k<p.length by omega),if_true]
   rw [List.length_append,ih (by omega)]
   rfl
 unfold withinB cornersP;rw [h,k _ (Nat.le_refl _)];simp
theorem Z2e {b:Int} (hb:0≤b∧b≤1000000000):chkB (exC b) ce36=decide (20≤b)∧chkE (exC b) ce36=0:=by
 obtain⟨⟨g1,-⟩,⟨t1,-⟩,e1,-⟩:=Z1x b;obtain⟨h1,h2⟩:=Z57 b;refine⟨?_,by unfold chkE;rw [Z7s hb];rfl⟩
 have q:lgB (exC b) ce36 0=decide (20≤b):=by
  have l1:lg1 (exC b) ce36 0=true:=by
   unfold lg1;rw [show 0+1=1 from rfl,g1]
   rfl
  have l2:lg2 (exC b) ce36 0=true:=by
   unfold lg2;rw [show 0+1=1 from rfl,t1,e1,Z58,h1]
   rfl
  have l3:lg3 (exC b) ce36 0=decide (20≤b):=by
   unfold lg3;rw [show (pgd ce36.psg 0).fr=10 from rfl,show (pgd ce36.psg 0).tw=10 from rfl,show (pgd ce36.psg 0).tm=10 from rfl,show (pgd ce36.psg 0).en=10 from rfl,Z9L hb]
   show (decide ((20:Int)≤b) && decide ((if (20:Int)>b then (51:Int) else 0)=0))=_
   by_cases h:(20:Int)≤b
   ·rw [if_neg (by omega)];simp
   ·rw [decide_eq_false h];rfl
  have l4:lg4 (exC b) ce36 0=true:=by
   unfold lg4;rw [show (pgd ce36.psg 0).fr=10 from rfl,show (pgd ce36.psg 0).tw=10 from rfl,show (pgd ce36.psg 0).cor=c36L from rfl,show atW (exC b) 0=⟨0,0⟩ from rfl,show atW (exC b) (0+1)=⟨1000,0⟩ from rfl,Z3L.1,Z3L.2,Z64 Z0P,show (exC b).rocks=[] from rfl,Z7r]
   rfl
  unfold lgB;rw [l1,l2,l3,l4];simp
 unfold chkB;rw [Z7s hb,Bool.true_and];rw [← q];rw [Bool.eq_iff_iff,decide_eq_true_eq];exact⟨fun h=>h 0 (by decide),fun h i hi=>by obtain rfl:i=0:=(by simp [ce36] at hi;omega);exact h⟩
theorem Z9Y (p:Pt) (hv:Zc [p]=true) (b:Bool) (h:decide ((cornersC [p] c36L 1).length=1)=b):withinB [p] c36L=b:=by
 unfold withinB cornersP;rw [hv,Z0P,Z1J Z0P,Bool.true_and,Bool.true_and];exact h
theorem v36_a:Zc [⟨500,10⟩]=true:=by rw [Z0N];decide +kernel
theorem v36_b:Zc [⟨0,0⟩]=true:=by rw [Z0N];decide +kernel
theorem v36_c:Zc [⟨500,11⟩]=true:=by rw [Z0N];decide +kernel
theorem Zb7:cvB ce36 0 [[⟨500,10⟩],[⟨0,0⟩]]=true∧cvE ce36 0 [[⟨500,10⟩],[⟨0,0⟩]]=0:=by
 have hr:regB [[⟨500,10⟩],[⟨0,0⟩]]=true:=by
  unfold regB polysB;rw [decide_eq_true (show ∀ j,j<[[(⟨500,10⟩:Pt)],[⟨0,0⟩]].length→Zc (rk [[⟨500,10⟩],[⟨0,0⟩]] j)=true from fun j hj=>by
   rcases (show j=0∨j=1 by simp at hj;omega) with rfl | rfl
   ·exact v36_a
   ·exact v36_b)]
  rfl
 have hi:inAll [[⟨500,10⟩],[⟨0,0⟩]] c36L=true:=decide_eq_true fun j hj=>by
  rcases (show j=0∨j=1 by simp at hj;omega) with rfl | rfl
  ·exact Z9Y _ v36_a true (by decide +kernel)
  ·exact Z9Y _ v36_b true (by decide +kernel)
 have hc:(0:Int)≤0∧(0:Int)<ce36.psg.length:=by decide
 unfold cvB cvE;rw [if_pos hc,if_pos hc,show (pgd ce36.psg (0:Int).toNat).cor=c36L from rfl]
 unfold rwB rwE;rw [hr,Z0P,hi];exact⟨rfl,rfl⟩
theorem Z9K:cvB ce36 0 [[⟨500,11⟩]]=false∧cvE ce36 0 [[⟨500,11⟩]]=0:=by
 have hr:regB [[⟨500,11⟩]]=true:=by
  unfold regB polysB;rw [decide_eq_true (show ∀ j,j<[[(⟨500,11⟩:Pt)]].length→Zc (rk [[⟨500,11⟩]] j)=true from fun j hj=>by
   obtain rfl:j=0:=by simp at hj;omega
   exact v36_c)]
  rfl
 have hi:inAll [[⟨500,11⟩]] c36L=false:=decide_eq_false fun h=>by
  have:=h 0 (by decide)
  rw [show rk [[(⟨500,11⟩:Pt)]] 0=[⟨500,11⟩] from rfl,Z9Y _ v36_c false (by decide +kernel)] at this
  cases this
 have hc:(0:Int)≤0∧(0:Int)<ce36.psg.length:=by decide
 unfold cvB cvE;rw [if_pos hc,if_pos hc,show (pgd ce36.psg (0:Int).toNat).cor=c36L from rfl]
 unfold rwB rwE;rw [hr,Z0P,hi];exact⟨rfl,rfl⟩
def refK (k:Int):Int:=if k=1∨k=5 then 50 else if k=2 then 52 else if k=3 then 51 else if k=4 then 6 else 0
section
attribute [local irreducible] wpQuiet
open Go.RowKit
noncomputable def hkV (m:Msn) (a:Nat) (r:Int):Int:=if ccC m a r (dep m a)=false then 5 else if lieB m (bkR m a r (dep m a))=false then 2 else 0
noncomputable def brV (m:Msn) (i:Nat) (u v t e:Int):Int :=
 if ccB m i u (i+1) v=false then 1
 else if hkV m (i+1) v=5 then 5
 else if hkV m (i+1) v=2 then 2
 else if e+homeE m (i+1) (dep m (i+1))>m.battery then 3
 else if t+homeT m (i+1) (dep m (i+1))>m.deadline then 4
 else 0
theorem hkV_or (m:Msn) (a:Nat) (r:Int):hkV m a r=5∨hkV m a r=2∨hkV m a r=0:=by
 unfold hkV
 repeat' split
 all_goals simp
theorem ZbJ (m:Msn) (i:Nat) (u v t e:Int):kpsE m i u v t e=refK (brV m i u v t e):=by
 unfold kpsE brV hwE hkV;cases ccB m i u (i+1) v <;> cases ccC m (i+1) v (dep m (i+1)) <;> cases lieB m (bkR m (i+1) v (dep m (i+1))) <;> by_cases h1:e+homeE m (i+1) (dep m (i+1))>m.battery <;> by_cases h2:t+homeT m (i+1) (dep m (i+1))>m.deadline <;> simp only [h1,h2,if_true,if_false] <;> decide
theorem brV_in (m:Msn) (i:Nat) (u v t e:Int):brV m i u v t e=0∨brV m i u v t e=1∨brV m i u v t e=2∨brV m i u v t e=3∨brV m i u v t e=4∨brV m i u v t e=5:=by
 unfold brV
 repeat' split
 all_goals simp
theorem Z1V (m : Msn) (vw vh vr : Value) (w : World) (hm : MsnAt w.heap.size w m vw vh vr) (hV : validB m = true) (a : Nat) (ha : a < m.ways.length) (r0 : Int) (hr0 : 0 ≤ r0 ∧ r0 ≤ 100000) :
  Calls Tryz.prog 88 #[.agg (Zd m vw vh vr),.int .i64 a,.int .i64 r0] w fun e w'=>e=.returned (.int .i64 (hkV m a r0))∧Below w.heap.size w w':=by
 have V:=(Zp m).1 hV;have n41:=V.n41;have fr:=fun w1 (B:Below w.heap.size w w1)=>Z8Q m vw vh vr a w1 ((hm.below B).mono B.size) V.ways ha V.n41
 have fl:=fun w1 (B:Below w.heap.size w w1) (i j:Nat) hi hj=>Z3q (m:=m) (a:=i) (b:=j) hV hi hj ▸ Z74 m vw vh vr i j w1 ((hm.below B).mono B.size)
 have fc:=fun w1 (B:Below w.heap.size w w1) (i j:Nat) u v hi hj=>Z2C m vw vh vr w1 ((hm.below B).mono B.size) V i j u v hi hj
 have fw:=fun vp p w1 (B:Below w.heap.size w w1) hp hg=>Z4T vp vh p m.home w1 hp ((hm.2.1.below B).mono B.size) hg V.home
 have hp0:Z4 (atW m 0)=true:=by
  have:=Z5g V (k:=0) (by omega)
  unfold Z4 placeB;rw [decide_eq_true_eq];omega
 have hgd:∀ n,n≤100000→Zc (mvL (atW m 0) (Z5 n))=true:=fun n hn=>by
  have c:=Z2J V (a:=0) (b:=0) (by omega) (by omega) (u:=n) (w:=n) (by omega) (by omega)
  obtain⟨-,h1,-⟩:=Z1l c;rw [Int.toNat_natCast] at h1;rw [Z1w _ (Z0x hn)];exact h1
 have hlt:=fun j (hj:j≤dep m a)=>Z1f V.ways ha hj
 have hgb:=fun i j hi hj=>Z02 V.leg V.ways (i:=i) (j:=j) hi hj
 have hd:=Z2f V.ways ha;have rb:=fun j h=>Zba (m:=m) (a:=a) hr0 j h
 have HH:hkV m a r0=if ccC m a r0 (dep m a)=false then 5 else if lieB m (bkR m a r0 (dep m a))=false then 2 else 0:=rfl
 have hlen:(intL (upto (itB m a) (dep m a+1))).length=dep m a+1:=by simp [intL,upto]
 have hdown:=fun j (hj:j≤dep m a) (h:ccC m a r0 j=false)=>show ccC m a r0 (dep m a)=false by
  cases h2:ccC m a r0 (dep m a)
  ·rfl
  ·rw [Z5f _ j hj h2] at h;cases h
 have h0:0<m.ways.length:=by omega
 obtain⟨⟨-,a1,cap1,rfl,hcw⟩,⟨-,a2,cap2,rfl,-⟩,⟨-,a3,cap3,rfl,-⟩⟩:=hm;obtain⟨bw,ow,rfl,hbw,hcw⟩:=hcw.resolve_left (by intro h;rw [h] at ha;simp at ha)
 have HCW:=Lib.hid (hcw 0 h0);clear hcw;obtain⟨n,hn⟩:∃ n,dep m a=n:=⟨_,rfl⟩;simp only [hn] at hlt hd HH hlen hdown fr;unfold Zd at *;replace fr:=Lib.hid fr;replace fl:=Lib.hid fl;replace fc:=Lib.hid fc;replace fw:=Lib.hid fw;replace hlt:=Lib.hid hlt;replace hgb:=Lib.hid hgb;replace rb:=Lib.hid rb;replace HH:=Lib.hid HH;replace hlen:=Lib.hid hlen;replace hdown:=Lib.hid hdown;replace hgd:=Lib.hid hgd;clear V hV hn;have BW:=Lib.hid (Below.refl w.heap.size w);go_enter Tryz.func88,Tryz.ntmps88;go_wp2_with fail;generalize hXX0:World.alloc w _=X0;obtain⟨q0,hA,hzX0⟩:=box1 hXX0;clear hXX0;have BW:=Lib.hid hA;clear hA;have MB:=Lib.hid q0;clear q0 hzX0;obtain⟨c0,c1,c2,c3,c4,c5,c6,c7,c8,c9,c10⟩:=Zi (m:=m) MB.out;refine (fr.out _ BW.out).mono ?_;rintro e w1 ⟨v1,rfl,p1,b1⟩;replace BW:=zAg BW b1;have B_X0:=Lib.hid b1;clear b1;obtain⟨b3,o3,e3,hv1,hb3,hc3⟩:=Z2s p1 hlen.out;subst hv1;have RO:=Lib.hid hc3;have LRO:=Lib.hid hb3;clear hc3 hb3 p1 c0 c1 c2 c3 c4 c5 c6 c7 c8 c9 c10;obtain⟨c0,c1,c2,c3,c4,c5,c6,c7,c8,c9,c10⟩:=Zi (m:=m) (zCw MB B_X0);have hRX:=Lib.hid (Below.refl w1.heap.size w1);clear c0 c1 c2 c3 c4 c5 c6 c7 c8 c9 c10;have HMB:=Lib.hid (zCw MB B_X0);have ltM:=HMB.out.lt;go_wp2
 go_loopw [2,8] (fun r i wr=>∃ j:Nat,j≤n∧r=.int .i64 (bkR m a r0 j)∧i=.int .i64 ((j+1:Nat):Int)∧ccC m a r0 j=true∧Below w1.heap.size w1 wr) (fun _ i _=>n+1-(intOf i).toNat)
 case atStart=>exact⟨0,Nat.zero_le _,rfl,rfl,rfl,Below.refl _ _⟩
 case round =>
  obtain⟨j,hj,rfl,rfl,hcj,hB⟩:=hrel;obtain⟨wo,hwo⟩:∃ x,x=wr:=⟨_,rfl⟩;subst hwo;have BB:=Lib.hid (And.intro hB (BW.out.trans (hB.mono BW.out.size)));have RR:=HMB.out.below hB ltM;have HCJ:=Lib.hid hcj;clear hB hcj;by_cases hjn:j<n
  ·have h1:=hlt.out j (by omega)
   have h2:=hlt.out (j+1) (by omega)
   have r1:=rb.out j HCJ.out;have y1':=RO.out j (by omega)
   have y2':=RO.out (j+1) (by omega)
   rw [Z3a (by omega)] at y1' y2'
   replace y1':=(BB.out.1.cell (p:=⟨b3,o3+j,none⟩) LRO.out).trans y1';replace y2':=(BB.out.1.cell (p:=⟨b3,o3+(j+1),none⟩) LRO.out).trans y2';have gl:=Lib.hid (fun w2 (B:Low wo w2)=>fl.out w2 (BB.out.2.trans (B.out.mono BB.out.2.size)) _ _ h1 h2)
   have gc:=Lib.hid (fun w2 (B:Low wo w2)=>fc.out w2 (BB.out.2.trans (B.out.mono BB.out.2.size)) _ _ (bkR m a r0 j) (bkR m a r0 (j+1)) h1 h2)
   have s1:Hid (bkR m a r0 (j+1)=bkR m a r0 j+gLeg m (itB m a j) (itB m a (j+1))):=rfl;have s2:Hid (ccC m a r0 (j+1)=(ccC m a r0 j && ccB m (itB m a j) (bkR m a r0 j) (itB m a (j+1)) (bkR m a r0 (j+1)))):=rfl;have gb:=hgb.out _ _ h1 h2;have jl1:(j:Int)<(n:Int)+1:=by omega
   have jl2:(j:Int)+1<(n:Int)+1:=by omega
   have jl3:decide (((j+1:Nat):Int)<(((n+1:Nat):Nat):Int))=true:=zTy;have jl4:decide ((j:Int)+1<(n:Int)+1)=true:=zTy;have jl0:(0:Int)≤(j:Int):=by omega
   have jl5:(0:Int)≤(j:Int)+1:=by omega
   have jl6:((j+1:Nat):Int)<((n+1:Nat):Int):=by omega
   have jw:IntKind.i64.wrap (((j+1:Nat):Int)-1)=(j:Int):=by rw [show ((j+1:Nat):Int)-1=(j:Int) by omega];exact zW2
   have jw2:IntKind.i64.wrap ((j:Int)+1-1)=(j:Int):=by rw [show (j:Int)+1-1=(j:Int) by omega];exact zW2
   have jw3:IntKind.i64.wrap (j:Int)=(j:Int):=zW2;have jl7:(j:Int)<((n+1:Nat):Int):=by omega
   obtain⟨ra,hra⟩:∃ x,bkR m a r0 j=x:=⟨_,rfl⟩;obtain⟨rc,hrc⟩:∃ x,bkR m a r0 (j+1)=x:=⟨_,rfl⟩;simp only [hra,hrc] at r1 gc s1 s2 ⊢;generalize itB m a j=p1 at *;generalize itB m a (j+1)=p2 at *;generalize gLeg m p1 p2=gg at *;generalize dLeg m p1 p2=dd at *;generalize tLeg m p1 p2=tt at *;obtain⟨cc,hcc⟩:∃ x,ccB m p1 ra p2 rc=x:=⟨_,rfl⟩;simp only [hcc] at s2 gc;clear hcc hra;have rw1:IntKind.i64.wrap (ra+gg)=rc:=by have e:=s1.out;rw [e];exact zW2
   have HRC:=Lib.hid hrc;clear s1 h1 h2 r1 gb hrc;go_upto_region 5 with fail
   have z1:=Low.fact y1';have z2:=Low.fact y2';clear y1' y2';have q0:=Low.fact (RR.cell (i:=0) rfl);have q1:=Low.fact (RR.cell (i:=1) rfl);have q2:=Low.fact (RR.cell (i:=2) rfl);have q3:=Low.fact (RR.cell (i:=3) rfl);have q4:=Low.fact (RR.cell (i:=4) rfl);have q5:=Low.fact (RR.cell (i:=5) rfl);have q6:=Low.fact (RR.cell (i:=6) rfl);have q7:=Low.fact (RR.cell (i:=7) rfl);have q8:=Low.fact (RR.cell (i:=8) rfl);have q9:=Low.fact (RR.cell (i:=9) rfl);have q10:=Low.fact (RR.cell (i:=10) rfl)
   (refine Zg (by kernel_rfl) (by kernel_rfl) ?_;(iterate 20 (apply Zf;(case hw=>rfl);(case hval=>(intro w1 hw1;have hcx:=Low.cells hw1;simp only [Oper.quietAt];go_simp;first | done | (first | (go_at_call 103;exact Low.calls hw1 (gl.out _ hw1))) | rfl | exact⟨rfl,rfl⟩));simp only [Act.put,zq5,zr5,zs5]));refine wpQuiet_nil ?_;intro w2 hw2)
   clear gl;obtain⟨wa,hwa⟩:∃ x,x=w2:=⟨_,rfl⟩;subst hwa;have hw:=Lib.hid hw2;clear hw2;have gc2:=Lib.hid (fun w3 (B:Low wa w3)=>gc.out w3 (hw.out.out.trans (B.out.mono hw.out.out.size)))
   have BB2:=Lib.hid (And.intro (BB.out.1.trans (hw.out.out.mono BB.out.1.size)) (BB.out.2.trans (hw.out.out.mono BB.out.2.size)));replace z1:=Low.fact (z1 _ hw.out);replace z2:=Low.fact (z2 _ hw.out);replace q0:=Low.fact (q0 _ hw.out);replace q1:=Low.fact (q1 _ hw.out);replace q2:=Low.fact (q2 _ hw.out);replace q3:=Low.fact (q3 _ hw.out);replace q4:=Low.fact (q4 _ hw.out);replace q5:=Low.fact (q5 _ hw.out);replace q6:=Low.fact (q6 _ hw.out);replace q7:=Low.fact (q7 _ hw.out);replace q8:=Low.fact (q8 _ hw.out);replace q9:=Low.fact (q9 _ hw.out);replace q10:=Low.fact (q10 _ hw.out);clear gc;go_upto_region 6 with fail
   (refine Zg (by kernel_rfl) (by kernel_rfl) ?_;(iterate 16 (apply Zf;(case hw=>rfl);(case hval=>(intro w1 hw1;have hcx:=Low.cells hw1;simp only [Oper.quietAt];go_simp;first | done | (first | (go_at_call 87;exact Low.calls hw1 (gc2.out _ hw1))) | rfl | exact⟨rfl,rfl⟩));simp only [Act.put,zq5,zr5,zs5]));refine wpQuiet_nil ?_;intro w2 hw2)
   have BB3:=Lib.hid (And.intro (BB2.out.1.trans (hw2.out.mono BB2.out.1.size)) (BB2.out.2.trans (hw2.out.mono BB2.out.2.size)));clear hw2 q0 q1 q2 q3 q4 q5 q6 q7 q8 q9 q10 z1 z2;cases cc
   ·have HV:=Lib.hid (show hkV m a r0=5 by rw [HH.out,hdown.out (j+1) (by omega) (by rw [s2.out,HCJ.out];rfl)];rfl)
    go_wp2;go_ret;exact⟨by rw [HV.out];rfl,BB3.out.2⟩
   ·go_wp2
    go_roundw
    case rel=>exact⟨j+1,by omega,by rw [HRC.out],by go_num,by rw [s2.out,HCJ.out];rfl,BB3.out.1⟩
    case measure=>simp [intOf];omega
  obtain rfl:j=n:=by omega
  have jj:decide (((j+1:Nat):Int)<(((j+1:Nat):Nat):Int))=false:=by simp
  have jj2:decide ((j:Int)+1<(j:Int)+1)=false:=by simp
  have hrr:=rb.out j HCJ.out;obtain⟨k,hk⟩:∃ k:Nat,bkR m a r0 j=(k:Int):=⟨(bkR m a r0 j).toNat,by omega⟩
  have HE:Hid (lieB m (bkR m a r0 j)=liesB (mvL (atW m 0) (Z5 (bkR m a r0 j).toNat)) m.home):=rfl;have HH2:=HH.out;rw [HCJ.out,if_neg (by decide)] at HH2
  replace HH:=Lib.hid HH2;clear HH2;rw [hk] at hrr;simp only [hk,Int.toNat_natCast] at HE HH ⊢;clear hk;have hk1:k≤100000:=by omega
  have hgk:=hgd.out k hk1;unfold atW at HE hgk hp0;obtain⟨x1,x2,-⟩:=HCW.out;rw [show ow+0*5=ow by omega] at x1 x2
  obtain⟨px,h1⟩:∃ x,(wy m.ways 0).x=x:=⟨_,rfl⟩;obtain⟨py,h2⟩:∃ x,(wy m.ways 0).y=x:=⟨_,rfl⟩;rw [h1] at x1;rw [h2] at x2;simp only [h1,h2] at HE hgk hp0;clear h1 h2;have fd:=Lib.hid (fun w1=>Z6l px py k w1 hk1 hp0)
  obtain⟨lb,hlb⟩:∃ x,lieB m (k:Int)=x:=⟨_,rfl⟩;rw [hlb] at HH HE;clear hlb;generalize mvL ⟨px,py⟩ (Z5 k)=dl at *;have fw2:=fun vp w1 B hp=>fw.out vp dl w1 B hp hgk
  rw [← HE.out] at fw2;replace fw2:=Lib.hid fw2;replace x1:=(BB.out.2.cell (p:=⟨bw,ow,none⟩) hbw).trans x1;replace x2:=(BB.out.2.cell (p:=⟨bw,ow+1,none⟩) hbw).trans x2;have x0:wo.cell? ⟨w.heap.size,0,none⟩=some (.slice (some ⟨bw,ow,none⟩) m.ways.length (m.ways.length+cap1)):=RR.cell (i:=0) rfl;have xh:wo.cell? ⟨w.heap.size,1,none⟩=some (.slice a2 m.home.length (m.home.length+cap2)):=RR.cell (i:=1) rfl;have hl0:(0:Int)<m.ways.length:=by omega
  replace BW:=Lib.hid BB.out.2;clear fw hgk hp0 hgd fl fc hlt hgb rb hdown HE RR BB;go_upto_region 9 with fail
  refine (wpIn_wide (n:=9)).1 ?_;refine Zj (Zt _) 10 (fun X=>Below wo.heap.size wo X) (by kernel_rfl) (by kernel_rfl) (by kernel_rfl) fun hH inv0=>?_
  have hD:=Below.drew (Below.refl wo.heap.size wo);generalize hXX9:wo.drew=X9 at *;clear hXX9;replace BW:=zAg BW hD;have B_wo:=Lib.hid hD;clear hD;refine sk hH (i:=0) (v:=.pointer (some ⟨w.heap.size,0,none⟩)) (Ze rfl) inv0 (fun X hX=>?_) fun inv1=>?_
  ·go_simp
  simp only [Act.put,zq5,zr5,zs5];clear inv0;refine sk hH (i:=1) (v:=.slice (some ⟨bw,ow,none⟩) m.ways.length (m.ways.length+cap1)) (Ze rfl) inv1 (fun X hX=>?_) fun inv2=>?_
  ·have r0:=(hX.cell (p:=⟨w.heap.size,0,none⟩) (World.block_lt_of_cell? _ _ x0)).trans x0;go_simp
  simp only [Act.put,zq5,zr5,zs5];clear inv1;refine sk hH (i:=2) (v:=.pointer (some ⟨bw,ow,none⟩)) (Ze rfl) inv2 (fun X hX=>?_) fun inv3=>?_
  ·go_simp
  simp only [Act.put,zq5,zr5,zs5];clear inv2;refine sk hH (i:=3) (v:=.pointer (some ⟨bw,ow,none⟩)) (Ze rfl) inv3 (fun X hX=>?_) fun inv4=>?_
  ·go_simp
  simp only [Act.put,zq5,zr5,zs5];clear inv3;refine sk hH (i:=4) (v:=.agg #[.int .i64 px,.int .i64 py]) (Ze rfl) inv4 (fun X hX=>?_) fun inv5=>?_
  ·have r0:=(hX.cell (p:=⟨bw,ow,none⟩) (World.block_lt_of_cell? _ _ x1)).trans x1;have r1:=(hX.cell (p:=⟨bw,ow+1,none⟩) (World.block_lt_of_cell? _ _ x2)).trans x2;go_simp
  simp only [Act.put,zq5,zr5,zs5];clear inv4;refine sk hH (i:=5) (v:=.int .i64 (k:Int)) (Ze rfl) inv5 (fun X hX=>?_) fun inv6=>?_
  ·go_simp
  simp only [Act.put,zq5,zr5,zs5];clear inv5;refine sk hH (i:=7) (v:=.pointer (some ⟨w.heap.size,1,none⟩)) (Ze rfl) inv6 (fun X hX=>?_) fun inv7=>?_
  ·go_simp
  simp only [Act.put,zq5,zr5,zs5];clear inv6;refine sk hH (i:=8) (v:=.slice a2 m.home.length (m.home.length+cap2)) (Ze rfl) inv7 (fun X hX=>?_) fun inv8=>?_
  ·have r0:=(hX.cell (p:=⟨w.heap.size,1,none⟩) (World.block_lt_of_cell? _ _ xh)).trans xh;go_simp
  simp only [Act.put,zq5,zr5,zs5];clear inv7;have inv9:=HeadInv.put2 inv8 (j:=6) (by kernel_rfl) (by omega)
  clear inv8;refine sa1 (r:=6) B_wo.out ?_;refine ZM (Ze rfl) rfl (f:=151) (args:=#[.agg #[.int .i64 px,.int .i64 py],.int .i64 (k:Int)]) (by go_simp) (fd.out X9) ?_
  rintro e w2 ⟨v5,rfl,p5,b2⟩;refine⟨v5,rfl,?_⟩;simp only [Act.put,zq5,zr5,zs5];replace BW:=zAg BW b2;replace B_wo:=zAg B_wo b2;clear b2;have P5:=Lib.hid p5;clear p5;have inv10:=HeadInv.put2 inv9 (j:=9) (by kernel_rfl) (by omega)
  clear inv9;refine sa1 (r:=9) B_wo.out ?_;refine ZM (Ze rfl) rfl (f:=104) (args:=#[v5,.slice a2 m.home.length (m.home.length+cap2)]) (by go_simp) (fw2.out _ _ BW.out P5.out) ?_
  rintro e w3 ⟨rfl,b3⟩;refine⟨_,rfl,?_⟩;simp only [Act.put,zq5,zr5,zs5];replace BW:=zAg BW b3;replace B_wo:=zAg B_wo b3;have B_w2:=Lib.hid b3;clear b3 inv10 hH;refine Zv (by kernel_rfl) B_wo.out ?_
  simp only [List.drop_succ_cons,List.drop_zero];clear B_wo;gi_wp2;cases lb
  all_goals
   go_wp2;go_ret;exact⟨by rw [HH.out];rfl,BW.out⟩
theorem Z3P (k:Int) (w:World) (hk:k=1∨k=2∨k=3∨k=4∨k=5) :
  Calls Tryz.prog 36 #[.int .i64 k] w fun e w'=>e=.returned (.int .i64 (refK k))∧w=w':=by
 rcases hk with rfl | rfl | rfl | rfl | rfl
 all_goals
  go_enter Tryz.func36,Tryz.ntmps36;go_wp2;go_ret;exact⟨rfl,rfl⟩
theorem Z6m (m:Msn) (vw vh vr:Value) (w:World) (hm:MsnAt w.heap.size w m vw vh vr) (hV:validB m=true) (i:Nat) (hi:i+1<m.ways.length) (u v t e:Int) (hv:0≤v∧v≤100000) (ht:0≤t∧t≤100000000000000) (he:0≤e∧e≤100000000000000) :
  Calls Tryz.prog 35 #[.agg (Zd m vw vh vr),.int .i64 i,.int .i64 u,.int .i64 v,.int .i64 t,.int .i64 e] w fun e' w'=>e'=.returned (.int .i64 (brV m i u v t e))∧Below w.heap.size w w':=by
 have V:=(Zp m).1 hV;have n41:=V.n41;have hte:=Z0z V (a:=i+1) hi (dep m (i+1)) (Nat.le_refl _);have hdl:=Z2f V.ways hi;have hb:=V.battery;have hdd:=V.deadline;have f1:=fun w1 (B:Below w.heap.size w w1)=>Z2C m vw vh vr w1 ((hm.below B).mono B.size) V i (i+1) u v (by omega) hi
 have f2:=fun w1 (B:Below w.heap.size w w1)=>Z1V m vw vh vr w1 ((hm.below B).mono B.size) hV (i+1) hi v hv
 have f3:=fun w1 (B:Below w.heap.size w w1)=>Z3e m vw vh vr (i+1) w1 ((hm.below B).mono B.size) hV hi
 have HB:brV m i u v t e=if ccB m i u (i+1) v=false then 1 else if hkV m (i+1) v=5 then 5 else if hkV m (i+1) v=2 then 2 else if e+homeE m (i+1) (dep m (i+1))>m.battery then 3 else if t+homeT m (i+1) (dep m (i+1))>m.deadline then 4 else 0:=rfl
 have ho:=hkV_or m (i+1) v;obtain⟨⟨-,a1,cap1,rfl,-⟩,⟨-,a2,cap2,rfl,-⟩,⟨-,a3,cap3,rfl,-⟩⟩:=hm;unfold Zd at *;generalize brV m i u v t e=br at *;generalize ccB m i u (i+1) v=cc at *;generalize hkV m (i+1) v=hk at *;obtain⟨hE,e1⟩:∃ x,homeE m (i+1) (dep m (i+1))=x:=⟨_,rfl⟩;obtain⟨hT,e2⟩:∃ x,homeT m (i+1) (dep m (i+1))=x:=⟨_,rfl⟩;simp only [e1,e2] at f3 HB hte;have hE2:hE≤100000000000000:=by
  have:(dep m (i+1):Int)≤41:=by omega
  omega
 have hT2:hT≤100000000000000:=by
  have:(dep m (i+1):Int)≤41:=by omega
  omega
 have j1:IntKind.i64.wrap ((i:Int)+1)=((i+1:Nat):Int):=by rw [show (i:Int)+1=((i+1:Nat):Int) by omega];exact zW2
 have j2:IntKind.i64.wrap (e+hE)=e+hE:=zW2;have j3:IntKind.i64.wrap (t+hT)=t+hT:=zW2;replace f1:=Lib.hid f1;replace f2:=Lib.hid f2;replace f3:=Lib.hid f3;replace HB:=Lib.hid HB;have BW:=Lib.hid (Below.refl w.heap.size w);clear V hV hte hdl e1 e2 hb hdd;go_enter Tryz.func35,Tryz.ntmps35;go_wp2_with fail;generalize hXX0:World.alloc w _=X0;obtain⟨q0,hA,hzX0⟩:=box1 hXX0;clear hXX0;have BW:=Lib.hid hA;clear hA;have MB:=Lib.hid q0;clear q0 hzX0;obtain⟨c0,c1,c2,c3,c4,c5,c6,c7,c8,c9,c10⟩:=Zi (m:=m) MB.out;refine (f1.out _ BW.out).mono ?_;rintro e w1 ⟨rfl,b1⟩;replace BW:=zAg BW b1;have B_X0:=Lib.hid b1;clear b1 c0 c1 c2 c3 c4 c5 c6 c7 c8 c9 c10;obtain⟨c0,c1,c2,c3,c4,c5,c6,c7,c8,c9,c10⟩:=Zi (m:=m) (zCw MB B_X0);cases cc
 ·have HV:=Lib.hid (show br=1 by rw [HB.out];rfl)
  go_wp2;go_ret;exact⟨by rw [HV.out];rfl,BW.out⟩
 go_wp2_with fail;refine (f2.out _ BW.out).mono ?_;rintro e w2 ⟨rfl,b2⟩;replace BW:=zAg BW b2;replace B_X0:=zAg B_X0 b2;clear b2 c0 c1 c2 c3 c4 c5 c6 c7 c8 c9 c10;obtain⟨c0,c1,c2,c3,c4,c5,c6,c7,c8,c9,c10⟩:=Zi (m:=m) (zCw MB B_X0);by_cases h5:hk=5
 ·subst h5
  have HV:=Lib.hid (show br=5 by rw [HB.out];rfl)
  go_wp2;go_ret;exact⟨by rw [HV.out];rfl,BW.out⟩
 by_cases h2:hk=2
 ·subst h2
  have HV:=Lib.hid (show br=2 by rw [HB.out];rfl)
  go_wp2;go_ret;exact⟨by rw [HV.out];rfl,BW.out⟩
 obtain rfl:hk=0:=by omega
 clear h5 h2 ho;go_wp2_with fail;refine (f3.out _ BW.out).mono ?_;rintro e w3 ⟨rfl,b3⟩;replace BW:=zAg BW b3;replace B_X0:=zAg B_X0 b3;clear b3 c0 c1 c2 c3 c4 c5 c6 c7 c8 c9 c10;obtain⟨c0,c1,c2,c3,c4,c5,c6,c7,c8,c9,c10⟩:=Zi (m:=m) (zCw MB B_X0);replace HB:=Lib.hid (show br=if e+hE>m.battery then 3 else if t+hT>m.deadline then 4 else 0 from HB.out)
 by_cases q1:e+hE>m.battery
 ·have d1:decide (e+hE>m.battery)=true:=decide_eq_true q1
  have d2:decide (m.battery<e+hE)=true:=decide_eq_true q1;have HV:=Lib.hid (show br=3 by rw [HB.out,if_pos q1])
  go_wp2;go_ret;exact⟨by rw [HV.out];rfl,BW.out⟩
 have d1:decide (e+hE>m.battery)=false:=decide_eq_false q1;have d2:decide (m.battery<e+hE)=false:=decide_eq_false q1;by_cases q2:t+hT>m.deadline
 ·have d3:decide (t+hT>m.deadline)=true:=decide_eq_true q2
  have d4:decide (m.deadline<t+hT)=true:=decide_eq_true q2;have HV:=Lib.hid (show br=4 by rw [HB.out,if_neg q1,if_pos q2])
  go_wp2;go_ret;exact⟨by rw [HV.out];rfl,BW.out⟩
 have d3:decide (t+hT>m.deadline)=false:=decide_eq_false q2;have d4:decide (m.deadline<t+hT)=false:=decide_eq_false q2;have HV:=Lib.hid (show br=0 by rw [HB.out,if_neg q1,if_neg q2])
 go_wp2;go_ret;exact⟨by rw [HV.out];rfl,BW.out⟩
noncomputable def psOk (p:Psg):Bool:=Zc p.cor && (wthB p.fr 100000 && (wthB p.tw 100000 && (wthB p.tm 1000000000 && wthB p.en 1000000000)))
theorem Z5p (u:Value) (p:Psg) (w:World) (hu:Z8 w.heap.size w u p.cor) :
  Calls Tryz.prog 101 #[.agg #[u,.int .i64 p.fr,.int .i64 p.tw,.int .i64 p.tm,.int .i64 p.en]] w fun e w'=>e=.returned (.bool (psOk p))∧Below w.heap.size w w':=by
 have f1:=fun w1 (B:Below w.heap.size w w1)=>Z0h u p.cor w1 ((hu.below B).mono B.size)
 rw [← Z0r] at f1;have HP:psOk p=(Zc p.cor && (wthB p.fr 100000 && (wthB p.tw 100000 && (wthB p.tm 1000000000 && wthB p.en 1000000000)))):=rfl;obtain⟨au,cu,rfl⟩:=hu.len;have g1:=fun w1=>Z1b p.fr 100000 w1
 have g2:=fun w1=>Z1b p.tw 100000 w1
 have g3:=fun w1=>Z1b p.tm 1000000000 w1
 have g4:=fun w1=>Z1b p.en 1000000000 w1
 generalize psOk p=ps at *;generalize Zc p.cor=b0 at *;generalize wthB p.fr 100000=b1 at *;generalize wthB p.tw 100000=b2 at *;generalize wthB p.tm 1000000000=b3 at *;generalize wthB p.en 1000000000=b4 at *;subst HP;replace f1:=Lib.hid f1;replace g1:=Lib.hid g1;replace g2:=Lib.hid g2;replace g3:=Lib.hid g3;replace g4:=Lib.hid g4;clear hu;have BW:=Lib.hid (Below.refl w.heap.size w);go_enter Tryz.func101,Tryz.ntmps101;go_wp2_with fail;generalize hXX0:World.alloc w _=X0;obtain⟨q0,hA,hzX0⟩:=box1 hXX0;clear hXX0;have BW:=Lib.hid hA;clear hA;have PB:=Lib.hid q0;clear q0 hzX0;have hPB:=PB.out;have p0':=hPB.cell (i:=0) rfl;have p1':=hPB.cell (i:=1) rfl;have p2':=hPB.cell (i:=2) rfl;have p3':=hPB.cell (i:=3) rfl;have p4':=hPB.cell (i:=4) rfl;refine (f1.out _ BW.out).mono ?_;rintro e w1 ⟨rfl,b1⟩;replace BW:=zAg BW b1;have B_X0:=Lib.hid b1;clear b1 hPB p0' p1' p2' p3' p4';have hPB:=(zCw PB B_X0);have p0':=hPB.cell (i:=0) rfl;have p1':=hPB.cell (i:=1) rfl;have p2':=hPB.cell (i:=2) rfl;have p3':=hPB.cell (i:=3) rfl;have p4':=hPB.cell (i:=4) rfl;cases b0
 ·go_wp2
  go_ret;exact⟨by simp,BW.out⟩
 go_wp2_with fail;refine (g1.out _).mono ?_;rintro e w20 ⟨rfl,rfl⟩;cases b1
 ·go_wp2
  go_ret;exact⟨by simp,BW.out⟩
 go_wp2_with fail;refine (g2.out _).mono ?_;rintro e w21 ⟨rfl,rfl⟩;cases b2
 ·go_wp2
  go_ret;exact⟨by simp,BW.out⟩
 go_wp2_with fail;refine (g3.out _).mono ?_;rintro e w22 ⟨rfl,rfl⟩;cases b3
 ·go_wp2
  go_ret;exact⟨by simp,BW.out⟩
 go_wp2_with fail;refine (g4.out _).mono ?_;rintro e w23 ⟨rfl,rfl⟩;cases b4
 ·go_wp2
  go_ret;exact⟨by simp,BW.out⟩
 go_wp2;go_ret;exact⟨by simp,BW.out⟩
theorem Z9z (vr vq : Value) (r : List (List Pt)) (q : List Pt) (w : World) (hr : Z7 w.heap.size w vr r) (hq : Z8 w.heap.size w vq q) (hg : ∀ j, j < r.length → Zc (rk r j) = true) (hgq : Zc q = true) :
  Calls Tryz.prog 55 #[vr,vq] w fun e w'=>e=.returned (.bool (inAll r q))∧Below w.heap.size w w':=by
 have HI:Hid (inAll r q=decide (∀ j,j<r.length→withinB (rk r j) q=true)):=Lib.hid rfl;have fl:=fun vp j w1 hp hq' (hj:j<r.length)=>Z4T vp vq (rk r j) q w1 hp hq' (hg j hj) hgq
 have hlw:=fun j (hj:j<r.length)=>show liesB (rk r j) q=withinB (rk r j) q by unfold withinB liesB;rw [hg j hj,hgq];simp
 have HQ:=Lib.hid hq;obtain⟨aq,cq,rfl⟩:=hq.len;obtain⟨hl,a,cap,rfl,hc⟩:=hr;have HC:=Lib.hid hc;replace fl:=Lib.hid fl;replace hlw:=Lib.hid hlw;clear hc hg hgq hq;go_enter Tryz.func55,Tryz.ntmps55;go_wp2
 go_loopw [5] (fun i wr=>∃ k:Nat,k≤r.length∧i=.int .i64 k∧(∀ j,j<k→withinB (rk r j) q=true)∧Below w.heap.size w wr) (fun i _=>r.length-(intOf i).toNat)
 case atStart=>exact⟨0,Nat.zero_le _,rfl,fun j h=>by omega,Below.refl _ _⟩
 case round =>
  obtain⟨k,hk,rfl,hall,hB⟩:=hrel;have HA:=Lib.hid hall;have BB:=Lib.hid hB;clear hall hB;by_cases hlt:k<r.length
  ·obtain⟨b,o,rfl,hb,hcc⟩:=HC.out.resolve_left (by intro h;rw [h] at hlt;simp at hlt)
   obtain⟨u,hu,hpu⟩:=hcc k hlt;have e0:=(BB.out.cell (p:=⟨b,o+k,none⟩) hb).trans hu;have HPU:=Lib.hid ((hpu.below BB.out).mono BB.out.size);obtain⟨a6,c6,rfl⟩:=HPU.out.len;have f:=Lib.hid (fl.out _ k wr HPU.out ((HQ.out.below BB.out).mono BB.out.size) hlt);have hw:=hlw.out k hlt;obtain⟨lb,hlb⟩:∃ x,withinB (rk r k) q=x:=⟨_,rfl⟩;have f':=f.out;rw [hw,hlb] at f';replace f:=Lib.hid f';have HLB:=Lib.hid hlb;have dk:decide ((k:Int)<(r.length:Int))=true:=zTy;have kl:(k:Int)<r.length:=by omega
   have k0:(0:Int)≤k:=by omega
   clear hcc hu hpu f' hw hlb;go_wp2_with fail;refine f.out.mono ?_;rintro e w2 ⟨rfl,b2⟩;have B2:=zAg BB b2;clear b2;cases lb
   ·have HV:=Lib.hid (show inAll r q=false by rw [HI.out,decide_eq_false_iff_not];intro h;have:=h k hlt;rw [HLB.out] at this;cases this)
    go_wp2;go_ret;exact⟨by rw [HV.out];rfl,B2.out⟩
   ·go_wp2
    go_roundw
    case rel =>
     refine⟨k+1,by omega,by go_num,fun j hj=>?_,B2.out⟩
     by_cases e:j=k
     ·rw [e];exact HLB.out
     ·exact HA.out j (by omega)
    case measure=>simp [intOf];omega
  ·obtain rfl:k=r.length:=by omega
   have jj:decide ((r.length:Int)<(r.length:Int))=false:=by simp
   have HV:=Lib.hid (show inAll r q=true by rw [HI.out,decide_eq_true_eq];exact HA.out)
   go_wp2;go_ret;exact⟨by rw [HV.out];rfl,BB.out⟩
theorem Z4H (c:Crt) (vs vp ve vr:Value) (i:Int) (r:List (List Pt)) (w:World) (hc:CrtAt w.heap.size w c vs vp ve) (hr:Z7 w.heap.size w vr r) :
  Calls Tryz.prog 16 #[.agg #[vs,vp,ve],.int .i64 i,vr] w fun e w'=>e=.returned (.tuple #[.bool (cvB c i r),.int .i64 (cvE c i r)])∧Below w.heap.size w w':=by
 have f2:=fun w1 (B:Below w.heap.size w w1)=>Z6K vr r w1 ((hr.below B).mono B.size)
 have f3:=fun vq q w1 (B:Below w.heap.size w w1) h hg hgq=>Z9z vr vq r q w1 ((hr.below B).mono B.size) h hg hgq
 have hpl:regB r=true→∀ j,j<r.length→Zc (rk r j)=true:=fun h=>Z2o.1 (show polysB r=true by unfold regB at h;rw [Bool.and_eq_true] at h;exact h.2)
 have H1:cvB c i r=if 0≤i∧i<c.psg.length then rwB r (pgd c.psg i.toNat).cor else false:=rfl
 have H2:cvE c i r=if 0≤i∧i<c.psg.length then rwE r (pgd c.psg i.toNat).cor else 1:=rfl
 generalize cvB c i r=x at *;generalize cvE c i r=y at *;obtain⟨⟨-,aS,cS,rfl,-⟩,⟨hpl0,ap,cp,rfl,hcp⟩,⟨-,ar,cr,rfl,-⟩⟩:=hc;obtain⟨-,a4,c4,rfl,-⟩:=hr;replace f2:=Lib.hid f2;replace f3:=Lib.hid f3;replace hpl:=Lib.hid hpl;have HCP:=Lib.hid hcp;have BW:=Lib.hid (Below.refl w.heap.size w);clear hcp;by_cases h1:i<0
 ·have d1:decide (i<0)=true:=by rw [decide_eq_true_eq];exact h1
  have HV:=Lib.hid (And.intro (show x=false by rw [H1,if_neg (by omega)]) (show y=1 by rw [H2,if_neg (by omega)]))
  clear H1 H2 h1;go_enter Tryz.func16,Tryz.ntmps16;go_wp2;go_ret2;exact⟨by rw [HV.out.1,HV.out.2];rfl,zB2⟩
 have d1:decide (i<0)=false:=by rw [decide_eq_false_iff_not];exact h1
 by_cases h2:i<(c.psg.length:Int);rotate_left
 ·have d2:decide (i≥(c.psg.length:Int))=true:=zTy
  have d3:decide ((c.psg.length:Int)≤i)=true:=zTy;have HV:=Lib.hid (And.intro (show x=false by rw [H1,if_neg (by omega)]) (show y=1 by rw [H2,if_neg (by omega)]))
  clear H1 H2 h1 h2;go_enter Tryz.func16,Tryz.ntmps16;go_wp2_with fail;go_ret2;exact⟨by rw [HV.out.1,HV.out.2];rfl,zB2⟩
 have d2:decide (i≥(c.psg.length:Int))=false:=zFy;have d3:decide ((c.psg.length:Int)≤i)=false:=zFy;obtain⟨k,rfl⟩:∃ k:Nat,i=(k:Int):=⟨i.toNat,by omega⟩
 have hk:k<c.psg.length:=by omega
 rw [if_pos ⟨by omega,by omega⟩,Int.toNat_natCast] at H1 H2
 obtain⟨b,o,rfl,hb,hcp⟩:=HCP.out.resolve_left (by intro h;rw [h] at hk;simp at hk)
 obtain⟨vc,x0,hvc,-⟩:=hcp k hk;have f1:=fun w1 (B:Below w.heap.size w w1)=>Z0h vc (pgd c.psg k).cor w1 ((hvc.below B).mono B.size)
 rw [← Z0r] at f1;have HVC:=Lib.hid hvc;obtain⟨au,cu,rfl⟩:=hvc.len;generalize (pgd c.psg k).cor=q at *;unfold rwB at H1;unfold rwE at H2;replace f1:=Lib.hid f1;replace H1:=Lib.hid H1;replace H2:=Lib.hid H2;have k0:(0:Int)≤(k:Int):=by omega
 clear hcp hvc h1 HCP;go_enter Tryz.func16,Tryz.ntmps16;go_upto_region 1 with fail
 generalize hXX0:World.alloc w _=X0;obtain⟨q0,hA,hzX0⟩:=box1 hXX0;clear hXX0;have BW:=Lib.hid hA;clear hA;have CB:=Lib.hid q0;clear q0 hzX0;have hk:=CB.out;have k0':=hk.cell (i:=0) rfl;have k1':=hk.cell (i:=1) rfl;have k2':=hk.cell (i:=2) rfl;have x0':=(BW.out.cell (p:=⟨b,o+k*5,none⟩) hb).trans x0;go_wp2_with fail;refine (f1.out _ BW.out).mono ?_;rintro e w1 ⟨rfl,b1⟩;replace BW:=zAg BW b1;have B_X0:=Lib.hid b1;clear b1 hk k0' k1' k2';have hk:=(zCw CB B_X0);have k0':=hk.cell (i:=0) rfl;have k1':=hk.cell (i:=1) rfl;have k2':=hk.cell (i:=2) rfl;clear x0';have x0':=(BW.out.cell (p:=⟨b,o+k*5,none⟩) hb).trans x0;cases hgq:Zc q
 ·skip
  have HV:=Lib.hid (And.intro (show x=false by rw [H1.out,hgq];simp) (show y=1 by rw [H2.out,hgq];simp))
  go_wp2;go_ret2;exact⟨by rw [HV.out.1,HV.out.2];rfl,BW.out⟩
 go_wp2_with fail;refine (f2.out _ BW.out).mono ?_;rintro e w2 ⟨rfl,b2⟩;replace BW:=zAg BW b2;replace B_X0:=zAg B_X0 b2;clear b2 hk k0' k1' k2';have hk:=(zCw CB B_X0);have k0':=hk.cell (i:=0) rfl;have k1':=hk.cell (i:=1) rfl;have k2':=hk.cell (i:=2) rfl;clear x0';have x0':=(BW.out.cell (p:=⟨b,o+k*5,none⟩) hb).trans x0;cases hr:regB r
 ·skip
  have HV:=Lib.hid (And.intro (show x=false by rw [H1.out,hr];simp) (show y=1 by rw [H2.out,hr];simp))
  go_wp2;go_ret2;exact⟨by rw [HV.out.1,HV.out.2];rfl,BW.out⟩
 have hpr:=Lib.hid (hpl.out hr);have HV:=Lib.hid (And.intro (show x=inAll r q by rw [H1.out,hr,hgq];simp) (show y=0 by rw [H2.out,hr,hgq];simp))
 have hgq':=Lib.hid hgq;clear hr hgq H1 H2;go_wp2_with fail;refine (f3.out _ q _ BW.out ((HVC.out.below BW.out).mono BW.out.size) hpr.out hgq'.out).mono ?_;rintro e w3 ⟨rfl,b3⟩;replace BW:=zAg BW b3;replace B_X0:=zAg B_X0 b3;clear b3 hk k0' k1' k2';have hk:=(zCw CB B_X0);have k0':=hk.cell (i:=0) rfl;have k1':=hk.cell (i:=1) rfl;have k2':=hk.cell (i:=2) rfl;go_wp2;go_ret2;exact⟨by rw [HV.out.1,HV.out.2];rfl,BW.out⟩
theorem Zbn (c:Crt) (j:Nat):okP c j=(psOk (pgd c.psg j) && wthB (c.ret.getD j 0) 1000000000):=by
 unfold okP psOk;simp only [Bool.and_assoc]
theorem Z8R (m : Msn) (vw vh vr : Value) (c : Crt) (vs vp ve : Value) (w : World) (hm : MsnAt w.heap.size w m vw vh vr) (hc : CrtAt w.heap.size w c vs vp ve) (hV : validB m = true) :
  Calls Tryz.prog 51 #[.agg (Zd m vw vh vr),.agg #[vs,vp,ve]] w fun e w'=>e=.returned (.bool (frmB m c))∧Below w.heap.size w w':=by
 have V:=(Zp m).1 hV;have n2:=V.n2;have n41:=V.n41;have f1:=fun w1 (B:Below w.heap.size w w1)=>Z1a m vw vh vr vs c.stops w1 (fun k hk=>(ZH (ZX V.ways hk)).2.2.2.2.1) ((hm.1.below B).mono B.size) ((hc.1.below B).mono B.size)
 have HF:Hid (frmB m c=(stopsB m c.stops && decide (c.psg.length=m.ways.length-1) && decide (c.ret.length=m.ways.length-1) && decide (∀ j,j<c.psg.length→okP c j=true))):=Lib.hid (by
  unfold frmB radOkB;rw [hV,Bool.true_and])
 generalize frmB m c=fm at *;generalize stopsB m c.stops=sb at *;obtain⟨⟨-,a1,cap1,rfl,-⟩,⟨-,a2,cap2,rfl,-⟩,⟨-,a3,cap3,rfl,-⟩⟩:=hm;obtain⟨⟨-,aS,cS,rfl,-⟩,⟨-,ap,cp,rfl,hcp⟩,⟨-,ar,cr,rfl,hce⟩⟩:=hc;have HCP:=Lib.hid hcp;have HCE:=Lib.hid hce;clear hcp hce V hV;unfold Zd at *;obtain⟨n,hn⟩:∃ n,m.ways.length-1=n:=⟨_,rfl⟩;rw [hn] at HF;have hn1:n+1=m.ways.length:=by omega
 have jw:IntKind.i64.wrap ((m.ways.length:Int)-1)=(n:Int):=by rw [show (m.ways.length:Int)-1=(n:Int) by omega];exact zW2
 replace f1:=Lib.hid f1;have BW:=Lib.hid (Below.refl w.heap.size w);go_enter Tryz.func51,Tryz.ntmps51;go_wp2_with fail;generalize hXX0:World.alloc (World.alloc w _) _=X0;obtain⟨q0,q1,hA,hzX0⟩:=box2 hXX0;clear hXX0;have BW:=Lib.hid hA;clear hA;have MB:=Lib.hid q0;clear q0;have CB:=Lib.hid q1;clear q1 hzX0;obtain⟨c0,c1,c2,c3,c4,c5,c6,c7,c8,c9,c10⟩:=Zi (m:=m) MB.out;have hk:=CB.out;have k0':=hk.cell (i:=0) rfl;have k1':=hk.cell (i:=1) rfl;have k2':=hk.cell (i:=2) rfl;refine (f1.out _ BW.out).mono ?_;rintro e w1 ⟨rfl,b1⟩;replace BW:=zAg BW b1;have B_X0:=Lib.hid b1;clear b1 c0 c1 c2 c3 c4 c5 c6 c7 c8 c9 c10 hk k0' k1' k2';obtain⟨c0,c1,c2,c3,c4,c5,c6,c7,c8,c9,c10⟩:=Zi (m:=m) (zCw MB B_X0);have hk:=(zCw CB B_X0);have k0':=hk.cell (i:=0) rfl;have k1':=hk.cell (i:=1) rfl;have k2':=hk.cell (i:=2) rfl;cases sb
 ·skip
  have HV:=Lib.hid (show fm=false by rw [HF.out];rfl)
  go_wp2;go_ret;exact⟨by rw [HV.out];rfl,BW.out⟩
 by_cases hp:c.psg.length=n;rotate_left
 ·skip
  have d1:((c.psg.length:Int) != (n:Int))=true:=by simp;omega
  have HV:=Lib.hid (show fm=false by rw [HF.out,decide_eq_false hp];simp)
  clear hp;go_wp2;go_ret;exact⟨by rw [HV.out];rfl,BW.out⟩
 have dp:((c.psg.length:Int) != (n:Int))=false:=by simp;omega
 by_cases hr:c.ret.length=n;rotate_left
 ·skip
  have d1:((c.ret.length:Int) != (n:Int))=true:=by simp;omega
  have HV:=Lib.hid (show fm=false by rw [HF.out,decide_eq_false hr];simp)
  clear hr;go_wp2;go_ret;exact⟨by rw [HV.out];rfl,BW.out⟩
 have dr:((c.ret.length:Int) != (n:Int))=false:=by simp;omega
 replace HF:=Lib.hid (show fm=decide (∀ j,j<n→okP c j=true) by rw [HF.out,decide_eq_true hp,decide_eq_true hr,hp];rfl)
 have hp':=Lib.hid hp;have hr':=Lib.hid hr;clear hp hr;have hMB:=Lib.hid (zCw MB B_X0);have hCB:=Lib.hid (zCw CB B_X0);go_wp2;clear c0 c1 c2 c3 c4 c5 c6 c7 c8 c9 c10 hk k0' k1' k2' dp dr
 go_loopw [6] (fun i wr=>∃ k:Nat,k≤n∧i=.int .i64 k∧(∀ j,j<k→okP c j=true)∧Below w1.heap.size w1 wr) (fun i _=>n-(intOf i).toNat)
 case atStart=>exact⟨0,Nat.zero_le _,rfl,fun j h=>by omega,Below.refl _ _⟩
 case round =>
  obtain⟨k,hk,rfl,hall,hB⟩:=hrel;obtain⟨wo,hwo⟩:∃ x,x=wr:=⟨_,rfl⟩;subst hwo;have BB:=Lib.hid hB;have HA:=Lib.hid hall;replace BW:=zAg BW hB;have hCO:=Lib.hid (zCw hCB BB);clear hB hall;by_cases hlt:k<n
  ·have hlp:k<c.psg.length:=by have:=hp'.out;omega
   have hlr:k<c.ret.length:=by have:=hr'.out;omega
   obtain⟨b5,o5,rfl,hb5,hcc⟩:=HCP.out.resolve_left (by intro h;rw [h] at hlp;simp at hlp)
   obtain⟨vc,x0,hvc,x1,x2,x3,x4⟩:=hcc k hlp;obtain⟨b6,o6,rfl,hb6,hce⟩:=HCE.out.resolve_left (by intro h;rw [h] at hlr;simp at hlr)
   have x5:=hce k hlr;have OK:Hid (okP c k=(psOk (pgd c.psg k) && wthB (c.ret.getD k 0) 1000000000)):=Lib.hid (Zbn c k);have g1:=fun w1 (B:Below w.heap.size w w1)=>Z5p vc (pgd c.psg k) w1 ((hvc.below B).mono B.size)
   obtain⟨au,cu,rfl⟩:=hvc.len;obtain⟨z,hz⟩:∃ z,c.ret.getD k 0=z:=⟨_,rfl⟩;rw [hz] at x5 OK;have g2:=Lib.hid (fun w1=>Z1b z 1000000000 w1)
   obtain⟨⟨pc,fr,tw,tm,en⟩,hpp⟩:∃ p,pgd c.psg k=p:=⟨_,rfl⟩;simp only [hpp] at x0 x1 x2 x3 x4 g1 OK;generalize psOk ⟨pc,fr,tw,tm,en⟩=q1 at *;obtain⟨q2,hq2⟩:∃ b,wthB z 1000000000=b:=⟨_,rfl⟩;rw [hq2] at OK;have g2':=g2.out;simp only [hq2] at g2';replace g2:=Lib.hid g2';replace g1:=Lib.hid g1;have dk:decide ((k:Int)<(n:Int))=true:=zTy;have kl:(k:Int)<c.psg.length:=by omega
   have kl2:(k:Int)<c.ret.length:=by omega
   have k0:(0:Int)≤k:=by omega
   clear hcc hce hvc hz hpp hq2 g2';have hk:=hCO.out;have k0':=hk.cell (i:=0) rfl;have k1':=hk.cell (i:=1) rfl;have k2':=hk.cell (i:=2) rfl;have y0:=(BW.out.cell (p:=⟨b5,o5+k*5,none⟩) hb5).trans x0;have y1:=(BW.out.cell (p:=⟨b5,o5+k*5+1,none⟩) hb5).trans x1;have y2:=(BW.out.cell (p:=⟨b5,o5+k*5+2,none⟩) hb5).trans x2;have y3:=(BW.out.cell (p:=⟨b5,o5+k*5+3,none⟩) hb5).trans x3;have y4:=(BW.out.cell (p:=⟨b5,o5+k*5+4,none⟩) hb5).trans x4;have y5:=(BW.out.cell (p:=⟨b6,o6+k,none⟩) hb6).trans x5;go_wp2_with fail;refine (g1.out _ BW.out).mono ?_;rintro e w2 ⟨rfl,b2⟩;replace BW:=zAg BW b2;have B_wo:=Lib.hid b2;clear b2 hk k0' k1' k2';have hk:=(zCw hCO B_wo);have k0':=hk.cell (i:=0) rfl;have k1':=hk.cell (i:=1) rfl;have k2':=hk.cell (i:=2) rfl;clear y0 y1 y2 y3 y4 y5;have y0:=(BW.out.cell (p:=⟨b5,o5+k*5,none⟩) hb5).trans x0;have y1:=(BW.out.cell (p:=⟨b5,o5+k*5+1,none⟩) hb5).trans x1;have y2:=(BW.out.cell (p:=⟨b5,o5+k*5+2,none⟩) hb5).trans x2;have y3:=(BW.out.cell (p:=⟨b5,o5+k*5+3,none⟩) hb5).trans x3;have y4:=(BW.out.cell (p:=⟨b5,o5+k*5+4,none⟩) hb5).trans x4;have y5:=(BW.out.cell (p:=⟨b6,o6+k,none⟩) hb6).trans x5;cases q1
   ·skip
    have HV:=Lib.hid (show fm=false by rw [HF.out,decide_eq_false_iff_not];intro h;have:=h k hlt;rw [OK.out] at this;cases this)
    go_wp2;go_ret;exact⟨by rw [HV.out];rfl,BW.out⟩
   go_wp2_with fail;refine (g2.out _).mono ?_;rintro e w30 ⟨rfl,rfl⟩;cases q2
   ·skip
    have HV:=Lib.hid (show fm=false by rw [HF.out,decide_eq_false_iff_not];intro h;have:=h k hlt;rw [OK.out] at this;cases this)
    go_wp2;go_ret;exact⟨by rw [HV.out];rfl,BW.out⟩
   go_wp2;go_roundw
   case rel =>
    refine⟨k+1,by omega,by go_num,fun j hj=>?_,BB.out.trans (B_wo.out.mono BB.out.size)⟩
    by_cases e:j=k
    ·rw [e,OK.out];rfl
    ·exact HA.out j (by omega)
   case measure=>simp [intOf];omega
  obtain rfl:k=n:=by omega
  have jj:decide ((k:Int)<(k:Int))=false:=by simp
  have HV:=Lib.hid (show fm=true by rw [HF.out,decide_eq_true_eq];exact HA.out)
  go_wp2;go_ret;exact⟨by rw [HV.out];rfl,BW.out⟩
end
theorem Z5h {p q:List Pt} (h:withinB p q=true):Zc p=true∧Zc q=true∧∀ k,k<p.length→hasB q (nth p k)=true:=by
 unfold withinB cornersP at h;simp only [Bool.and_eq_true,decide_eq_true_eq] at h;exact⟨h.1,h.2.1,Z2h _ h.2.2⟩
end Go.Proofs.YtpimbaaahcemhaaGreat
