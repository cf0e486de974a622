/- the example of layer 36, reckoned. No program here. | The certificate that Make returns: it is right, and none of its numbers can be less. No progr .. -/
import Derived.Test.YtpimbaaahcemhaaGreatBin32
import Derived.Test.YtpimbaaahcemhaaGreatBin35
import Derived.Test.YtpimbaaahcemhaaGreatBin29
import Derived.Test.YtpimbaaahcemhaaGreatBin13
import Derived.Test.YtpimbaaahcemhaaGreatBin33
import Derived.Test.YtpimbaaahcemhaaGreatBin23
import Derived.Maps.OwnOps
import Derived.Test.YtpimbaaahcemhaaGreatBin12
namespace Go.Proofs.YtpimbaaahcemhaaGreat
def hm5:List Pt:=[⟨-50,-50⟩,⟨50,-50⟩,⟨50,50⟩,⟨-50,50⟩]
def exC (b:Int):Msn:=⟨[⟨0,0,0,0,0⟩,⟨1000,0,0,0,0⟩],hm5,10,[],10000,0,0,1,0,b,100⟩
theorem exC_legs (b:Int):(gLeg (exC b) 0 1=0∧gLeg (exC b) 1 0=0)∧(tLeg (exC b) 0 1=10∧tLeg (exC b) 1 0=10)∧(eLeg (exC b) 0 1=10∧eLeg (exC b) 1 0=10):=by
 have d1:dLeg (exC b) 0 1=1000:=show distV 0 0 1000 0=1000 from rdist_of (by decide) (by decide) (by decide)
 have d2:dLeg (exC b) 1 0=1000:=show distV 1000 0 0 0=1000 from rdist_of (by decide) (by decide) (by decide)
 have t1:tLeg (exC b) 0 1=10:=by unfold tLeg;rw [d1];exact (show lastsV 10000 1000=10 by decide)
 have t2:tLeg (exC b) 1 0=10:=by unfold tLeg;rw [d2];exact (show lastsV 10000 1000=10 by decide)
 refine⟨⟨?_,?_⟩,⟨t1,t2⟩,?_,?_⟩
 ·unfold gLeg;rw [d1];exact (show growthV 10000 0 0 1000=0 by decide)
 ·unfold gLeg;rw [d2];exact (show growthV 10000 0 0 1000=0 by decide)
 ·unfold eLeg;rw [t1,d1];rfl
 ·unfold eLeg;rw [t2,d2];rfl
theorem hm5_valid:goValid hm5=true:=by rw [goValid_eq];decide +kernel
theorem exC_grown (b:Int):grownV (exC b)=10:=by
 obtain⟨⟨g1,g2⟩,-⟩:=exC_legs b
 show (10:Int)+(gLeg (exC b) 0 1+gLeg (exC b) 1 0)=10
 rw [g1,g2]
 rfl
theorem exC_valid {b:Int} (hb:0≤b∧b≤1000000000):validB (exC b)=true:=by
 rw [validB_iff]
 refine⟨by show 2≤2;decide,by show 2≤41;decide,by show 0≤100;decide,by show waysB [⟨0,0,0,0,0⟩,⟨1000,0,0,0,0⟩]=true;decide,hm5_valid,?_,by show (0:Int)≤10∧(10:Int)≤100000;decide,by show (1:Int)≤10000∧(10000:Int)≤20000∧(0:Int)≤0∧(0:Int)≤500∧(0:Int)≤0∧(0:Int)≤5000;decide,by show (0:Int)≤1∧(1:Int)≤1000;decide,by show (0:Int)≤0∧(0:Int)≤1000;decide,hb,by show (0:Int)≤100∧(100:Int)≤1000000000;decide,by rw [exC_grown];decide⟩
 exact decide_eq_true fun j hj=>absurd hj (by simp [exC])
theorem firB_nil (c:List Pt):firB c []=false:=by
 unfold firB
 split <;> rfl
theorem exC_cc {b:Int} (hb:0≤b∧b≤1000000000) {i j:Nat} (hi:i<2) (hj:j<2) {u v:Int} (hu:0≤u∧u≤100000) (hv:0≤v∧v≤100000):ccB (exC b) i u j v=true:=by
 rw [ccB_of ((validB_iff _).1 (exC_valid hb)) hi hj hu hv]
 unfold clrB
 rw [show (exC b).rocks=[] from rfl,firB_nil]
 rfl
theorem exC_lie (b:Int):lieB (exC b) 10=true:=by
 unfold lieB
 rw [show (10:Int).toNat=10 from rfl,disk_10,show atW (exC b) 0=⟨0,0⟩ from rfl]
 unfold cornersP
 rw [show (exC b).home=hm5 from rfl,cornersC_eq hm5_valid]
 decide +kernel
theorem exC_dep (b:Int):dep (exC b) 1=1:=rfl
theorem exC_home (b:Int):homeE (exC b) 1 1=10∧homeT (exC b) 1 1=10:=by
 obtain⟨-,⟨-,t2⟩,-,e2⟩:=exC_legs b
 simp only [homeE,homeT]
 exact⟨by show 0+eLeg (exC b) 1 0=10;rw [e2];rfl,by show 0+tLeg (exC b) 1 0=10;rw [t2];rfl⟩
theorem exC_hw {b:Int} (hb:0≤b∧b≤1000000000):hwE (exC b) 1 10=0:=by
 obtain⟨⟨-,g2⟩,-⟩:=exC_legs b
 have r1:bkR (exC b) 1 10 1=10:=by show 10+gLeg (exC b) 1 0=10;rw [g2];rfl
 have c1:ccC (exC b) 1 10 1=true:=by
  show (true && ccB (exC b) 1 10 0 (bkR (exC b) 1 10 1))=true
  rw [r1,exC_cc hb (by decide) (by decide) (by decide) (by decide)]
  rfl
 unfold hwE
 rw [exC_dep,c1,r1,exC_lie]
 rfl
theorem exC_kps {b:Int} (hb:0≤b∧b≤1000000000):kpsE (exC b) 0 10 10 10 10=if 20>b then 51 else 0:=by
 obtain⟨h1,h2⟩:=exC_home b
 unfold kpsE
 rw [show 0+1=1 from rfl,exC_cc hb (by decide) (by decide) (by decide) (by decide),exC_hw hb,exC_dep,h1,h2,if_neg (by decide),if_neg (by decide),if_neg (by decide)]
 show (if (20:Int)>b then 51 else if (20:Int)>100 then 6 else 0)=_
 rw [if_neg (by decide:¬ (20:Int)>100)]
theorem exC_rad (b:Int):rdA (exC b) [] 0=10∧rdB (exC b) [] 1=10:=by
 obtain⟨⟨g1,-⟩,-⟩:=exC_legs b
 exact⟨rfl,by rw [rdB_succ,show rdA (exC b) [] 0=10 from rfl,g1];rfl⟩
theorem exC_us (b:Int):usT (exC b) [] 1=10∧usE (exC b) [] 1=10:=by
 obtain⟨-,⟨t1,-⟩,e1,-⟩:=exC_legs b
 have w0:waitT (exC b) [] 0=0:=rfl
 exact⟨by show 0+waitT (exC b) [] 0+tLeg (exC b) 0 1=10;rw [w0,t1];rfl,by show 0+1*waitT (exC b) [] 0+eLeg (exC b) 0 1=10;rw [w0,e1];rfl⟩
theorem exC_ok {b:Int} (hb:0≤b∧b≤1000000000):radOkB (exC b) []=true:=by
 unfold radOkB
 rw [exC_valid hb,Bool.true_and]
 unfold stopsB
 exact decide_eq_true fun k hk=>absurd hk (by simp)
theorem exC_no {b:Int}:radOkB (exC b) [1]=false:=by
 have h:stopsB (exC b) [1]=false:=by show stopsB (exC 0) [1]=false;decide
 unfold radOkB
 rw [h,Bool.and_false]
def c36L:List Pt:=[⟨-10,-5⟩,⟨-5,-10⟩,⟨1005,-10⟩,⟨1010,-5⟩,⟨1010,5⟩,⟨1005,10⟩,⟨-5,10⟩,⟨-10,5⟩]
theorem c36_valid:goValid c36L=true:=by rw [goValid_eq];decide +kernel
theorem c36_cor:corE ⟨0,0⟩ 10 ⟨1000,0⟩ 10=0∧corL ⟨0,0⟩ 10 ⟨1000,0⟩ 10=c36L:=by
 have e:corE ⟨0,0⟩ 10 ⟨1000,0⟩ 10=0:=by
  unfold corE
  rw [show (10:Int).toNat=10 from rfl,disk_10]
  decide +kernel
 refine⟨e,?_⟩
 unfold corL
 rw [if_pos e]
 unfold corH
 rw [show (10:Int).toNat=10 from rfl,disk_10]
 exact hullB_of (by decide +kernel)
theorem exC_mkE {b:Int} (hb:0≤b∧b≤1000000000):mkE (exC b) []=if 20>b then 51 else 0:=by
 obtain⟨r1,r2⟩:=exC_rad b
 obtain⟨u1,u2⟩:=exC_us b
 unfold mkE
 rw [exC_ok hb,if_pos rfl]
 have q:mkQ (exC b) [] 0=if 20>b then 51 else 0:=by unfold mkQ;rw [show 0+1=1 from rfl,r1,r2,u1,u2,exC_kps hb]
 show (if mkQ (exC b) [] 0=0 then 0 else mkQ (exC b) [] 0)=_
 rw [q]
 split <;> simp_all
def ce36:Crt:=⟨[],[⟨c36L,10,10,10,10⟩],[10]⟩
theorem exC_mkC {b:Int} (hb:20≤b∧b≤1000000000):mkC (exC b) []=ce36:=by
 obtain⟨r1,r2⟩:=exC_rad b
 obtain⟨u1,u2⟩:=exC_us b
 obtain⟨h1,h2⟩:=exC_home b
 have e:mkE (exC b) []=0:=(exC_mkE ⟨by omega,hb.2⟩).trans (if_neg (by omega))
 unfold mkC
 rw [e,if_pos rfl]
 show (⟨[],[mkP (exC b) [] 0],[mkR (exC b) 0]⟩:Crt)=ce36
 unfold mkP mkR
 rw [show 0+1=1 from rfl,r1,r2,u1,u2,exC_dep,h1,show atW (exC b) 0=⟨0,0⟩ from rfl,show atW (exC b) 1=⟨1000,0⟩ from rfl,c36_cor.2]
 rfl
theorem exC_form {b:Int} (hb:0≤b∧b≤1000000000):frmB (exC b) ce36=true:=by
 unfold frmB
 rw [show ce36.stops=[] from rfl,exC_ok hb]
 have h:∀ j,j<ce36.psg.length→okP ce36 j=true:=fun j hj=>by
  obtain rfl:j=0:=by simp [ce36] at hj;omega
  unfold okP
  rw [show (pgd ce36.psg 0).cor=c36L from rfl,c36_valid]
  decide
 rw [decide_eq_true h]
 rfl
theorem within_self {p:List Pt} (h:goValid p=true):withinB p p=true:=by
 have k:∀ k,k≤p.length→(cornersTo p p k).length=k:=fun k=>by
  induction k with
  | zero=>intro _;rfl
  | succ k ih =>
   intro hk
   simp only [cornersTo,hasB_corner h (show k<p.length by omega),if_true]
   rw [List.length_append,ih (by omega)]
   rfl
 unfold withinB cornersP
 rw [h,k _ (Nat.le_refl _)]
 simp
theorem exC_check {b:Int} (hb:0≤b∧b≤1000000000):chkB (exC b) ce36=decide (20≤b)∧chkE (exC b) ce36=0:=by
 obtain⟨⟨g1,-⟩,⟨t1,-⟩,e1,-⟩:=exC_legs b
 obtain⟨h1,h2⟩:=exC_home b
 refine⟨?_,by unfold chkE;rw [exC_form hb];rfl⟩
 have q:lgB (exC b) ce36 0=decide (20≤b):=by
  have l1:lg1 (exC b) ce36 0=true:=by
   unfold lg1
   rw [show 0+1=1 from rfl,g1]
   rfl
  have l2:lg2 (exC b) ce36 0=true:=by
   unfold lg2
   rw [show 0+1=1 from rfl,t1,e1,exC_dep,h1]
   rfl
  have l3:lg3 (exC b) ce36 0=decide (20≤b):=by
   unfold lg3
   rw [show (pgd ce36.psg 0).fr=10 from rfl,show (pgd ce36.psg 0).tw=10 from rfl,show (pgd ce36.psg 0).tm=10 from rfl,show (pgd ce36.psg 0).en=10 from rfl,exC_kps hb]
   show (decide ((20:Int)≤b) && decide ((if (20:Int)>b then (51:Int) else 0)=0))=_
   by_cases h:(20:Int)≤b
   ·rw [if_neg (by omega)];simp
   ·rw [decide_eq_false h];rfl
  have l4:lg4 (exC b) ce36 0=true:=by
   unfold lg4
   rw [show (pgd ce36.psg 0).fr=10 from rfl,show (pgd ce36.psg 0).tw=10 from rfl,show (pgd ce36.psg 0).cor=c36L from rfl,show atW (exC b) 0=⟨0,0⟩ from rfl,show atW (exC b) (0+1)=⟨1000,0⟩ from rfl,c36_cor.1,c36_cor.2,within_self c36_valid,show (exC b).rocks=[] from rfl,firB_nil]
   rfl
  unfold lgB
  rw [l1,l2,l3,l4]
  simp
 unfold chkB
 rw [exC_form hb,Bool.true_and]
 rw [← q]
 rw [Bool.eq_iff_iff,decide_eq_true_eq]
 exact⟨fun h=>h 0 (by decide),fun h i hi=>by obtain rfl:i=0:=(by simp [ce36] at hi;omega);exact h⟩
theorem c36_in (p:Pt) (hv:goValid [p]=true) (b:Bool) (h:decide ((cornersC [p] c36L 1).length=1)=b):withinB [p] c36L=b:=by
 unfold withinB cornersP
 rw [hv,c36_valid,cornersC_eq c36_valid,Bool.true_and,Bool.true_and]
 exact h
theorem v36_a:goValid [⟨500,10⟩]=true:=by rw [goValid_eq];decide +kernel
theorem v36_b:goValid [⟨0,0⟩]=true:=by rw [goValid_eq];decide +kernel
theorem v36_c:goValid [⟨500,11⟩]=true:=by rw [goValid_eq];decide +kernel
theorem exC_in:cvB ce36 0 [[⟨500,10⟩],[⟨0,0⟩]]=true∧cvE ce36 0 [[⟨500,10⟩],[⟨0,0⟩]]=0:=by
 have hr:regB [[⟨500,10⟩],[⟨0,0⟩]]=true:=by
  unfold regB polysB
  rw [decide_eq_true (show ∀ j,j<[[(⟨500,10⟩:Pt)],[⟨0,0⟩]].length→goValid (rk [[⟨500,10⟩],[⟨0,0⟩]] j)=true from fun j hj=>by
   rcases (show j=0∨j=1 by simp at hj;omega) with rfl | rfl
   ·exact v36_a
   ·exact v36_b)]
  rfl
 have hi:inAll [[⟨500,10⟩],[⟨0,0⟩]] c36L=true:=decide_eq_true fun j hj=>by
  rcases (show j=0∨j=1 by simp at hj;omega) with rfl | rfl
  ·exact c36_in _ v36_a true (by decide +kernel)
  ·exact c36_in _ v36_b true (by decide +kernel)
 have hc:(0:Int)≤0∧(0:Int)<ce36.psg.length:=by decide
 unfold cvB cvE
 rw [if_pos hc,if_pos hc,show (pgd ce36.psg (0:Int).toNat).cor=c36L from rfl]
 unfold rwB rwE
 rw [hr,c36_valid,hi]
 exact⟨rfl,rfl⟩
theorem exC_out:cvB ce36 0 [[⟨500,11⟩]]=false∧cvE ce36 0 [[⟨500,11⟩]]=0:=by
 have hr:regB [[⟨500,11⟩]]=true:=by
  unfold regB polysB
  rw [decide_eq_true (show ∀ j,j<[[(⟨500,11⟩:Pt)]].length→goValid (rk [[⟨500,11⟩]] j)=true from fun j hj=>by
   obtain rfl:j=0:=by simp at hj;omega
   exact v36_c)]
  rfl
 have hi:inAll [[⟨500,11⟩]] c36L=false:=decide_eq_false fun h=>by
  have:=h 0 (by decide)
  rw [show rk [[(⟨500,11⟩:Pt)]] 0=[⟨500,11⟩] from rfl,c36_in _ v36_c false (by decide +kernel)] at this
  cases this
 have hc:(0:Int)≤0∧(0:Int)<ce36.psg.length:=by decide
 unfold cvB cvE
 rw [if_pos hc,if_pos hc,show (pgd ce36.psg (0:Int).toNat).cor=c36L from rfl]
 unfold rwB rwE
 rw [hr,c36_valid,hi]
 exact⟨rfl,rfl⟩
end Go.Proofs.YtpimbaaahcemhaaGreat
namespace Go.Proofs.YtpimbaaahcemhaaGreat
theorem mkF_all {m:Msn} {l:List Int}:∀ n k,mkF m l n k=0→∀ j,k≤j→j<k+n→mkQ m l j=0
 | 0,_,_,_,_,_=>by omega
 | n + 1, k, h, j, h1, h2 => by
  have h':(if mkQ m l k=0 then mkF m l n (k+1) else mkQ m l k)=0:=h
  by_cases e:mkQ m l k=0
  ·rw [if_pos e] at h'
   by_cases ej:j=k
   ·rw [ej];exact e
   ·exact mkF_all n (k+1) h' j (by omega) (by omega)
  ·rw [if_neg e] at h';exact absurd h' e
theorem mk_ok {m:Msn} {l:List Int} (h:mkE m l=0):radOkB m l=true∧∀ j,j<m.ways.length - 1→mkQ m l j=0:=by
 unfold mkE at h
 cases hr:radOkB m l
 ·rw [hr,if_neg (by decide)] at h;omega
 ·rw [hr,if_pos rfl] at h
  exact⟨rfl,fun j hj=>mkF_all _ 0 h j (Nat.zero_le _) (by omega)⟩
theorem mkC_eq {m:Msn} {l:List Int} (h:mkE m l=0):mkC m l=⟨l,upto (mkP m l) (m.ways.length - 1),upto (mkR m) (m.ways.length - 1)⟩:=if_pos h
theorem pgd_upto (g:Nat→Psg) {n j:Nat} (h:j<n):pgd (upto g n) j=g j:=by simp [pgd,upto,List.getD,h]
theorem getD_upto (g:Nat→Int) {n j:Nat} (h:j<n):(upto g n).getD j 0=g j:=by simp [upto,List.getD,h]
theorem stop_zero {m:Msn} {l:List Int} (h:stopsB m l=true):¬ (0:Int) ∈ l:=by
 intro h0
 obtain⟨k,hk,e⟩:=List.getElem_of_mem h0
 have hs:∀ k,k<l.length→stopOk m l k:=of_decide_eq_true h
 have hp:=prevS_nonneg (m:=m) (l:=l) (k:=l.length) hs k (by omega)
 have h1:=(hs k hk).1
 have e2:l.getD k 0=0:=by rw [List.getD,List.getElem?_eq_getElem hk,e];rfl
 omega
theorem min2_min (a b:Int):min2 a b=min a b:=by unfold min2;split <;> omega
theorem mk_bef {m:Msn} {l:List Int} (hs:stopsB m l=true) {R:List Int} {n:Nat}:∀ i,i<n →
  befR m ⟨l,upto (mkP m l) n,R⟩ i=rdA m l i∧befT m ⟨l,upto (mkP m l) n,R⟩ i+tLeg m i (i+1)=usT m l (i+1)∧befE m ⟨l,upto (mkP m l) n,R⟩ i+eLeg m i (i+1)=usE m l (i+1)
 | 0, _ => by
  have hw:waitT m l 0=0:=if_neg (stop_zero hs)
  refine⟨rfl,?_,?_⟩
  ·show (0:Int)+_=usT m l 0+waitT m l 0+_
   rw [hw];rfl
  ·show (0:Int)+_=usE m l 0+m.idle*waitT m l 0+_
   rw [hw,Int.mul_zero];rfl
 | i + 1, hi => by
  have hp:pgd (upto (mkP m l) n) (i+1 - 1)=mkP m l i:=by rw [Nat.add_sub_cancel];exact pgd_upto _ (by omega)
  have h0:¬ (i+1=0):=by omega
  have e1:usT m l (i+1+1)=usT m l (i+1)+waitT m l (i+1)+tLeg m (i+1) (i+1+1):=rfl
  have e2:usE m l (i+1+1)=usE m l (i+1)+m.idle*waitT m l (i+1)+eLeg m (i+1) (i+1+1):=rfl
  have p1:(mkP m l i).tw=rdB m l (i+1):=rfl
  have p2:(mkP m l i).tm=usT m l (i+1):=rfl
  have p3:(mkP m l i).en=usE m l (i+1):=rfl
  rw [e1,e2,rdA_succ,min2_min]
  unfold befR befT befE waitT
  simp only [if_neg h0,hp,p1,p2,p3]
  by_cases hm:((i+1:Nat):Int) ∈ l
  ·simp only [if_pos hm];exact⟨trivial,trivial,trivial⟩
  ·simp only [if_neg hm];exact⟨trivial,by omega,by rw [Int.mul_zero,Int.add_zero]⟩
theorem mk_nums {m:Msn} {l:List Int} {i:Nat} (hE:mkE m l=0) (hi:i<m.ways.length - 1) :
  (∀ r,r<4→0≤numP r (pgd (mkC m l).psg i)∧numP r (pgd (mkC m l).psg i)≤1000000000)∧0≤(mkC m l).ret.getD i 0∧(mkC m l).ret.getD i 0≤1000000000:=by
 obtain⟨hr,hQ⟩:=mk_ok hE
 have V:=(validB_iff m).1 (radOk_two hr).1
 obtain⟨-,-,k3,k4⟩:=kps_zero.1 (hQ i hi)
 have a1:=rd_le V l (k:=i) (by omega)
 have a2:=rd_le V l (k:=i+1) (by omega)
 have a3:=used_bd V l (i+1) (by omega)
 have a4:=homeTE_bd V (a:=i+1) (by omega) (dep m (i+1)) (Nat.le_refl _)
 have vb:=V.battery
 have vd:=V.deadline
 rw [mkC_eq hE]
 show (∀ r,r<4→0≤numP r (pgd (upto (mkP m l) (m.ways.length - 1)) i)∧numP r (pgd (upto (mkP m l) (m.ways.length - 1)) i)≤1000000000)∧0≤(upto (mkR m) (m.ways.length - 1)).getD i 0∧(upto (mkR m) (m.ways.length - 1)).getD i 0≤1000000000
 rw [pgd_upto _ hi,getD_upto _ hi]
 refine⟨fun r hr=>?_,?_⟩
 ·match r,hr with
  | 0,_=>show 0≤rdA m l i∧rdA m l i≤1000000000;omega
  | 1,_=>show 0≤rdB m l (i+1)∧rdB m l (i+1)≤1000000000;omega
  | 2,_=>show 0≤usT m l (i+1)∧usT m l (i+1)≤1000000000;omega
  | 3,_=>show 0≤usE m l (i+1)∧usE m l (i+1)≤1000000000;omega
 ·show 0≤homeE m (i+1) (dep m (i+1))∧homeE m (i+1) (dep m (i+1))≤1000000000;omega
theorem mk_right {m:Msn} {l:List Int} (hE:mkE m l=0):chkB m (mkC m l)=true∧chkE m (mkC m l)=0:=by
 obtain⟨hr,hQ⟩:=mk_ok hE
 obtain⟨hV,hS⟩:=radOk_two hr
 have V:=(validB_iff m).1 hV
 have hN:=fun i hi=>mk_nums (l:=l) (i:=i) hE hi
 rw [mkC_eq hE] at hN ⊢
 have hcor:∀ i,i<m.ways.length - 1→corE (atW m i) (rdA m l i) (atW m (i+1)) (rdB m l (i+1))=0:=fun i hi=>by
  have a1:=rd_le V l (k:=i) (by omega)
  have a2:=rd_le V l (k:=i+1) (by omega)
  exact cor_ok V (by omega) (by omega) ⟨a1.2.2.1,a1.2.2.2⟩ ⟨a2.1,a2.2.1⟩
 have hgv:∀ i,i<m.ways.length - 1→goValid (mkP m l i).cor=true:=fun i hi=>by
  show goValid (corL (atW m i) (rdA m l i) (atW m (i+1)) (rdB m l (i+1)))=true
  unfold corL
  rw [if_pos (hcor i hi)]
  exact goValid_of (cor_valid (hcor i hi))
 have hF:frmB m ⟨l,upto (mkP m l) (m.ways.length - 1),upto (mkR m) (m.ways.length - 1)⟩=true:=by
  unfold frmB
  simp only [hr,upto_length,decide_true,Bool.true_and,decide_eq_true_eq]
  intro j hj
  have n:=hN j hj
  have a1:=rd_le V l (k:=j) (by omega)
  have a2:=rd_le V l (k:=j+1) (by omega)
  unfold okP wthB
  simp only [pgd_upto _ hj] at n ⊢
  rw [hgv j hj]
  have n2:=n.1 2 (by omega)
  have n3:=n.1 3 (by omega)
  have e2:numP 2 (mkP m l j)=(mkP m l j).tm:=rfl
  have e3:numP 3 (mkP m l j)=(mkP m l j).en:=rfl
  rw [e2] at n2
  rw [e3] at n3
  simp only [Bool.true_and,Bool.and_eq_true,decide_eq_true_eq]
  exact⟨⟨a1.2.2.1,a1.2.2.2⟩,⟨a2.1,a2.2.1⟩,n2,n3,n.2⟩
 refine⟨?_,by unfold chkE;rw [if_pos hF]⟩
 unfold chkB
 rw [hF,Bool.true_and,decide_eq_true_eq]
 intro i hi
 simp only [upto_length] at hi
 obtain⟨b1,b2,b3⟩:=mk_bef hS (R:=upto (mkR m) (m.ways.length - 1)) (n:=m.ways.length - 1) i hi
 obtain⟨k1,-,k3,k4⟩:=kps_zero.1 (hQ i hi)
 have hR:=getD_upto (mkR m) hi
 have hR':mkR m i=homeE m (i+1) (dep m (i+1)):=rfl
 unfold lgB lg1 lg2 lg3 lg4
 simp only [pgd_upto _ hi,b1,hR,hR']
 simp only [Bool.and_eq_true,decide_eq_true_eq,Bool.not_eq_true']
 have e1:(mkP m l i).fr=rdA m l i:=rfl
 have e2:(mkP m l i).tw=rdB m l (i+1):=rfl
 have e3:(mkP m l i).tm=usT m l (i+1):=rfl
 have e4:(mkP m l i).en=usE m l (i+1):=rfl
 have e5:(mkP m l i).cor=corL (atW m i) (rdA m l i) (atW m (i+1)) (rdB m l (i+1)):=rfl
 have g1:rdB m l (i+1)=rdA m l i+gLeg m i (i+1):=rfl
 have w:=within_self (hgv i hi)
 rw [e5] at w
 rw [e1,e2,e3,e4,e5]
 unfold ccB clrB at k1
 rw [Bool.and_eq_true,decide_eq_true_eq,Bool.not_eq_true'] at k1
 exact⟨⟨Int.le_refl _,by omega⟩,⟨by omega,by omega,Int.le_refl _⟩,⟨k3,hQ i hi⟩,hcor i hi,w,k1.2⟩
end Go.Proofs.YtpimbaaahcemhaaGreat
namespace Go.Proofs.YtpimbaaahcemhaaGreat
def refK (k:Int):Int:=if k=1∨k=5 then 50 else if k=2 then 52 else if k=3 then 51 else if k=4 then 6 else 0
theorem cc_bk {m:Msn} (V:VMsn m) (l:List Int) {a:Nat} (ha:a<m.ways.length):∀ j,j≤dep m a→ccC m a (rdB m l a) j=bkC m a (rdB m l a) j
 | 0,_=>rfl
 | j + 1, h => by
  simp only [ccC,bkC]
  rw [cc_bk V l ha j (by omega),ccB_of V (itB_lt V.ways ha (j:=j) (by omega)) (itB_lt V.ways ha h) (bk_bd V l ha (by omega)) (bk_bd V l ha h)]
theorem q_kind {m:Msn} (V:VMsn m) (l:List Int) {k:Nat} (hk:k+1<m.ways.length):mkQ m l k=refK (kindV m l k):=by
 have a1:=rd_le V l (k:=k) (by omega)
 have a2:=rd_le V l (k:=k+1) hk
 unfold mkQ kpsE hwE kindV
 rw [ccB_of V (by omega) hk ⟨a1.2.2.1,a1.2.2.2⟩ ⟨a2.1,a2.2.1⟩,cc_bk V l hk _ (Nat.le_refl _)]
 generalize clrB m k (rdA m l k) (k+1) (rdB m l (k+1))=b1
 generalize bkC m (k+1) (rdB m l (k+1)) (dep m (k+1))=b2
 generalize lieB m (bkR m (k+1) (rdB m l (k+1)) (dep m (k+1)))=b3
 by_cases h1:usE m l (k+1)+homeE m (k+1) (dep m (k+1))>m.battery <;> by_cases h2:usT m l (k+1)+homeT m (k+1) (dep m (k+1))>m.deadline <;> simp only [h1,h2,if_true,if_false] <;> cases b1 <;> cases b2 <;> cases b3 <;> decide
theorem kind_in (m:Msn) (l:List Int) (k:Nat):kindV m l k=0∨kindV m l k=1∨kindV m l k=2∨kindV m l k=3∨kindV m l k=4∨kindV m l k=5:=by
 unfold kindV
 repeat' split
 all_goals simp
theorem kpk_in (m:Msn) (l:List Int):kpK m l=0∨kpK m l=1∨kpK m l=2∨kpK m l=3∨kpK m l=4∨kpK m l=5:=by
 unfold kpK leadK
 split
 ·split
  ·exact kind_in m l _
  ·exact .inl rfl
 ·exact .inl rfl
theorem plans_law {m:Msn} {l:List Int} (hr:radOkB m l=true):mkE m l=refK (kpK m l):=by
 have V:=(validB_iff m).1 (radOk_two hr).1
 obtain⟨s1,s2,s3⟩:=lead_spec m l
 unfold mkE kpK leadK
 rw [if_pos hr,if_pos hr]
 have hz:∀ j,j<leadN m l→mkQ m l j=0:=fun j hj=>by rw [q_kind V l (by omega),s2 j hj];decide
 by_cases h:leadN m l<m.ways.length - 1
 ·rw [if_pos h,← q_kind V l (by omega)]
  have e:=mkF_spec m l (m.ways.length - 1) 0 (leadN m l) h (fun j _ hj=>hz j (by omega)) (by
   rw [Nat.zero_add,q_kind V l (by omega)]
   have:=s3 h
   rcases kind_in m l (leadN m l) with e | e | e | e | e | e
   ·exact absurd e this
   all_goals (rw [e];decide))
  rwa [Nat.zero_add] at e
 ·rw [if_neg h]
  exact mkF_zero m l _ 0 fun j _ hj=>hz j (by omega)
end Go.Proofs.YtpimbaaahcemhaaGreat
namespace Go.Proofs.YtpimbaaahcemhaaGreat
open Go.RowKit Go.Maps
attribute [local irreducible] wpQuiet
theorem wpList_insert_own {H:Type} {P:Program} (w:World) {ops:Array Oper} {rest:List Oper} {o:Oper} {a:Act} {Q:Exit→Act→World→Prop}
  (hg:o.guard=none) (m x v:Operand) (t:TypeId) (hop:o.op=Op.insert t m x v)
  (k e:TypeId) (K:Keyed P k) (ht:P.underlying t=some (.map k e)) (R:Value→Option (DataW H × List MemPlace)) (b n:Nat) (D:DataW H)
  (hm:a.eval m=.map (some b)) (hown:w.ownsMap P k R b n D) (hn:n<maxLen) (key val:Value) (kl:Lit) (hx:a.eval x=key) (hv:a.eval v=val) (hkey:keyOf P k key=some kl)
  (d:DataW H) (ps:List MemPlace) (hval:R val=some (d,ps))
  (hK:∀ w',w'.ownsMap P k R b (n+1) (D.put kl d)→w.grownBy w' (some b)→wpList P ops Q rest (a.put o.dst undef) w') :
  wpList P ops Q (o::rest) a w:=by
 refine wpList_plain hg fun K' hK'=>?_
 obtain⟨w',hrun,r1,r2⟩:=hown.update K ht hn hkey hval
 unfold Oper.wp
 simp [execOp,hop,hm,hx,hv,hrun,Result.andThen]
 exact hK' _ _ (hK w' r1 r2)
theorem zeroErr (w:World):(zeroValue 34).run Tryz.prog w=.ok (.int .i64 0) w:=by kernel_rfl
def refD:DataW Unit:=(((((DataW.map []).put (.int .i64 1) (.lit (.int .i64 50))).put (.int .i64 5) (.lit (.int .i64 50))).put (.int .i64 2) (.lit (.int .i64 52))).put (.int .i64 3) (.lit (.int .i64 51))).put (.int .i64 4) (.lit (.int .i64 6))
theorem refD_at (k:Int) (hk:k=1∨k=2∨k=3∨k=4∨k=5):refD.atKey (.int .i64 k) (.lit (.int .i64 0))=.lit (.int .i64 (refK k)):=by
 rcases hk with rfl | rfl | rfl | rfl | rfl <;> rfl
set_option maxRecDepth 8000 in
set_option maxHeartbeats 1600000 in
theorem refusal_any (k:Int) (w:World) (hk:k=1∨k=2∨k=3∨k=4∨k=5) :
  Calls Tryz.prog 23 #[.int .i64 k] w fun e w'=>e=.returned (.int .i64 (refK k))∧Below w.heap.size w w':=by
 have hmm:=@run_makeMap Tryz.prog
 have hD:=Lib.hid (refD_at k hk)
 have hwf:(Lit.int .i64 k).wf=true:=by rcases hk with rfl | rfl | rfl | rfl | rfl <;> rfl
 have H0:=Lib.hid (World.ownsMap_made w Tryz.prog 3 (plainElem (H:=Unit) Tryz.prog 34))
 have B0:=Lib.hid ((Below.refl w.heap.size w).alloc (Nat.le_refl _) (.map #[] 0))
 clear hk
 go_enter Tryz.func23,Tryz.ntmps23
 go_wp2_with (first
  | (refine wpList_insert_own (H:=Unit) _ rfl _ _ _ 97 rfl 3 34 keyInt Tryz.underlying97 _ w.heap.size _ _ rfl H0.out (by unfold maxLen;omega) _ _ _ rfl rfl (keyOf_int_mk Tryz.underlying3 rfl) _ [] (plainElem_int Tryz.underlying34 rfl) ?_;intro w1 h1 g1;have H1:=Lib.hid h1;replace B0:=Lib.hid (B0.out.grown g1 B0.out.size (fun j hj=>by cases hj;exact Nat.le_refl _));clear H0 h1 g1;have H0:=H1;clear H1)
  | (at_lookup;refine wpList_lookup_own_int _ rfl _ _ 97 rfl 3 34 .i64 keyInt Tryz.underlying97 Tryz.underlying34 (zeroErr _) w.heap.size _ _ rfl H0.out _ _ rfl (keyOf_int_mk Tryz.underlying3 hwf) ?_;intro c hat _;have hc:c=refK k:=(by have h:=hD.out.symm.trans hat;cases h;rfl);subst hc)
  | go_in)
 go_ret
 exact⟨rfl,B0.out⟩
end Go.Proofs.YtpimbaaahcemhaaGreat
namespace Go.Proofs.YtpimbaaahcemhaaGreat
open Go.RowKit
attribute [local irreducible] wpQuiet
theorem exC_at {W:World} {b:Int} {p q:Nat} (h1:Has W p #[.int .i64 0,.int .i64 0,.int .i64 0,.int .i64 0,.int .i64 0,.int .i64 1000,.int .i64 0,.int .i64 0,.int .i64 0,.int .i64 0] 65) (h2:Has W q #[.int .i64 (-50),.int .i64 (-50),.int .i64 50,.int .i64 (-50),.int .i64 50,.int .i64 50,.int .i64 (-50),.int .i64 50] 58) :
  MsnAt W.heap.size W (exC b) (.slice (some ⟨p,0,none⟩) 2 2) (.slice (some ⟨q,0,none⟩) 4 4) (.slice none 0 0):=by
 refine⟨⟨by simp [exC],some ⟨p,0,none⟩,0,rfl,.inr ⟨p,0,rfl,h1.lt,fun j hj=>?_⟩⟩,PtsAt.has (l:=hm5) (cap:=0) h2 (by simp [hm5]) rfl,⟨by simp [exC],none,0,rfl,.inl rfl⟩⟩
 rcases (show j=0∨j=1 by simp [exC] at hj;omega) with rfl | rfl
 ·exact⟨h1.cell (i:=0) rfl,h1.cell (i:=1) rfl,h1.cell (i:=2) rfl,h1.cell (i:=3) rfl,h1.cell (i:=4) rfl⟩
 ·exact⟨h1.cell (i:=5) rfl,h1.cell (i:=6) rfl,h1.cell (i:=7) rfl,h1.cell (i:=8) rfl,h1.cell (i:=9) rfl⟩
theorem msn_bat {W:World} {n:Nat} {b b':Int} {vw vh vr:Value} (h:MsnAt n W (exC b) vw vh vr):MsnAt n W (exC b') vw vh vr:=h
set_option linter.unusedSimpArgs false in
set_option linter.unusedVariables false in
set_option maxRecDepth 8000 in
set_option maxHeartbeats 3200000 in
theorem example36_any (w:World):Calls Tryz.prog 24 #[] w fun e w'=>∃ a b,e=.returned (.agg (msnCells (exC 20) (.slice (some ⟨a,0,none⟩) 2 2) (.slice (some ⟨b,0,none⟩) 4 4) (.slice none 0 0)))∧MsnAt w'.heap.size w' (exC 20) (.slice (some ⟨a,0,none⟩) 2 2) (.slice (some ⟨b,0,none⟩) 4 4) (.slice none 0 0)∧Below w.heap.size w w':=by
 have BW:=Lib.hid (Below.refl w.heap.size w)
 go_enter Tryz.func24,Tryz.ntmps24
 go_upto_region 2 with fail
 generalize hXX0:World.alloc (World.alloc w _) _=X0
 obtain⟨q0,q1,hA,hzX0⟩:=box2 hXX0
 clear hXX0
 have BW:=Lib.hid hA
 clear hA
 have RV:=Lib.hid q0
 clear q0
 have HB:=Lib.hid q1
 clear q1
 clear hzX0
 have hR:=RV.out
 have ltR:=hR.lt
 have r0:=hR.cell (i:=0) rfl
 have z0:=cells_free hR 0
 have r1:=hR.cell (i:=1) rfl
 have z1:=cells_free hR 1
 have r2:=hR.cell (i:=2) rfl
 have z2:=cells_free hR 2
 have r3:=hR.cell (i:=3) rfl
 have z3:=cells_free hR 3
 have r4:=hR.cell (i:=4) rfl
 have z4:=cells_free hR 4
 have r5:=hR.cell (i:=5) rfl
 have z5:=cells_free hR 5
 have r6:=hR.cell (i:=6) rfl
 have z6:=cells_free hR 6
 have r7:=hR.cell (i:=7) rfl
 have z7:=cells_free hR 7
 have r8:=hR.cell (i:=8) rfl
 have z8:=cells_free hR 8
 have r9:=hR.cell (i:=9) rfl
 have z9:=cells_free hR 9
 have r10:=hR.cell (i:=10) rfl
 have z10:=cells_free hR 10
 have HR:=Lib.hid hR
 clear hR
 go_wp2
 clear r0 z0 r1 z1 r2 z2 r3 z3 r4 z4 r5 z5 r6 z6 r7 z7 r8 z8 r9 z9 r10 z10
 generalize hZ:World.setCell (World.setCell (World.setCell (World.setCell (World.setCell (World.setCell (World.setCell (World.setCell (World.setCell (World.setCell (World.setCell X0 _ _) _ _) _ _) _ _) _ _) _ _) _ _) _ _) _ _) _ _) _ _=Z
 obtain⟨HZ,hl2,hs2,he2⟩:=set11 HR.out rfl hZ
 clear hZ
 generalize hX9:World.alloc Z _=X
 obtain⟨q0,hA,-⟩:=box1 hX9
 clear hX9
 have ltZ:w.heap.size<Z.heap.size:=HZ.lt
 have hR:=HZ.below hA ltZ
 have hH:=(Has.eq HB.out he2 (by omega)).below hA (by rw [hs2];exact HB.out.lt)
 have BX:=BW.out.trans ((hl2 w.heap.size (Nat.le_refl _)).trans (hA.mono (by omega)))
 rw [hs2] at q0
 have hM:=exC_at (b:=20) q0 hH
 have r0:=hR.cell (i:=0) rfl
 have r1:=hR.cell (i:=1) rfl
 have r2:=hR.cell (i:=2) rfl
 have r3:=hR.cell (i:=3) rfl
 have r4:=hR.cell (i:=4) rfl
 have r5:=hR.cell (i:=5) rfl
 have r6:=hR.cell (i:=6) rfl
 have r7:=hR.cell (i:=7) rfl
 have r8:=hR.cell (i:=8) rfl
 have r9:=hR.cell (i:=9) rfl
 have r10:=hR.cell (i:=10) rfl
 exact bodyPost_ret (v:=.agg (msnCells (exC 20) _ _ _)) (by simp [results,msnCells,exC,Tryz.f24,go_sem,r0,r1,r2,r3,r4,r5,r6,r7,r8,r9,r10]) rfl ⟨_,_,rfl,hM,BX⟩
theorem ce36_at {W:World} {p q:Nat} {u:Value} (h1:Has W p #[u,.int .i64 10,.int .i64 10,.int .i64 10,.int .i64 10] 48) (h2:Has W q #[.int .i64 10] 3) (hu:PtsAt W.heap.size W u c36L):CrtAt W.heap.size W ce36 (.slice none 0 0) (.slice (some ⟨p,0,none⟩) 1 1) (.slice (some ⟨q,0,none⟩) 1 1):=by
 refine⟨IntsAt.nil _ _,⟨by simp [ce36],some ⟨p,0,none⟩,0,rfl,.inr ⟨p,0,rfl,h1.lt,fun j hj=>?_⟩⟩,?_⟩
 ·obtain rfl:j=0:=by simp [ce36] at hj;omega
  exact⟨u,h1.cell (i:=0) rfl,hu,h1.cell (i:=1) rfl,h1.cell (i:=2) rfl,h1.cell (i:=3) rfl,h1.cell (i:=4) rfl⟩
 ·refine⟨by simp [ce36],some ⟨q,0,none⟩,0,rfl,.inr ⟨q,0,rfl,h2.lt,fun j hj=>?_⟩⟩
  obtain rfl:j=0:=by simp [ce36] at hj;omega
  exact h2.cell (i:=0) rfl
theorem crt_sl {n:Nat} {W:World} {c:Crt} {v1 v2 v3:Value} (h:CrtAt n W c v1 v2 v3):∃ a1 n1 c1 a2 n2 c2 a3 n3 c3,v1=.slice a1 n1 c1∧v2=.slice a2 n2 c2∧v3=.slice a3 n3 c3:=by
 obtain⟨⟨-,a1,c1,h1,-⟩,⟨-,a2,c2,h2,-⟩,⟨-,a3,c3,h3,-⟩⟩:=h
 exact⟨_,_,_,_,_,_,_,_,_,h1,h2,h3⟩
theorem pts_sl {n:Nat} {W:World} {l:List Pt} {v:Value} (h:PtsAt n W v l):∃ a k c,v=.slice a k c:=by
 obtain⟨-,a1,c1,h1,-⟩:=h
 exact⟨_,_,_,h1⟩
theorem int1_at {W:World} {B:Nat} {x:Int} {T:TypeId} (h:Has W B #[.int .i64 x] T):IntsAt W.heap.size W (.slice (some ⟨B,0,none⟩) 1 1) [x]:=by
 refine⟨by simp,some ⟨B,0,none⟩,0,rfl,.inr ⟨B,0,rfl,h.lt,fun j hj=>?_⟩⟩
 obtain rfl:j=0:=by simp at hj;omega
 exact h.cell (i:=0) rfl
theorem pt1_at {W:World} {B:Nat} {x y:Int} (h:Has W B #[.int .i64 x,.int .i64 y] 58):PtsAt W.heap.size W (.slice (some ⟨B,0,none⟩) 1 1) [⟨x,y⟩]:=PtsAt.has (l:=[⟨x,y⟩]) (cap:=0) h (by simp) rfl
theorem mk36 {b:Int} (hb:20≤b∧b≤1000000000):mkE (exC b) []=0:=(exC_mkE ⟨by omega,hb.2⟩).trans (if_neg (by omega))
theorem mk36p:mkE (exC 19) []=51∧mkC (exC 19) []=⟨[],[],[]⟩:=by
 have h:mkE (exC 19) []=51:=(exC_mkE (by decide)).trans (if_pos (by decide))
 exact⟨h,by unfold mkC;rw [h];rfl⟩
theorem mk36s:mkE (exC 20) [1]=1∧mkC (exC 20) [1]=⟨[],[],[]⟩:=by
 have h:mkE (exC 20) [1]=1:=by unfold mkE;rw [exC_no];rfl
 exact⟨h,by unfold mkC;rw [h];rfl⟩
set_option linter.unusedSimpArgs false in
set_option linter.unusedVariables false in
set_option maxRecDepth 8000 in
set_option maxHeartbeats 6400000 in
theorem head36_any (w:World):Calls Tryz.prog 7 #[] w fun e w'=>e=.returned (.bool true)∧Below w.heap.size w w':=by
 have fx:=Lib.hid (fun w1=>example36_any w1)
 have f4:=fun w1=>corridor_any ⟨0,0⟩ ⟨1000,0⟩ 10 10 w1
 rw [c36_cor.1,c36_cor.2] at f4
 replace f4:=Lib.hid f4
 have BW:=Lib.hid (Below.refl w.heap.size w)
 go_enter Tryz.func7,Tryz.ntmps7
 go_wp2_with fail
 refine (fx.out w).mono ?_
 rintro e w1 ⟨a,b,rfl,hM,b1⟩
 have BW:=Lib.hid b1
 clear b1
 have MM:=Lib.hid hM
 clear hM
 simp only [msnCells,exC]
 go_upto_region 2 with fail
 generalize hXX1:World.alloc w1 _=X1
 obtain⟨q0,hA,hzX1⟩:=box1 hXX1
 clear hXX1
 replace BW:=Lib.hid (BW.out.trans (hA.mono BW.out.size))
 have B_w1:=Lib.hid hA
 clear hA
 have MB:=Lib.hid q0
 clear q0
 clear hzX1
 obtain⟨c0,c1,c2,c3,c4,c5,c6,c7,c8,c9,c10⟩:=msn_cells (m:=exC 20) MB.out
 have ltMB:=MB.out.lt
 go_wp2_with fail
 have g1:=make_any (exC 20) _ _ _ (.slice none 0 0) [] X1 ((MM.out.below B_w1.out).mono B_w1.out.size) (IntsAt.nil _ _) (by simp)
 rw [mk36 (b:=20) (by decide)] at g1
 rw [exC_mkC (b:=20) (by decide)] at g1
 refine (g1).mono ?_
 rintro e w2 ⟨v1,v2,v3,rfl,p1,b2⟩
 replace BW:=Lib.hid (BW.out.trans (b2.mono BW.out.size))
 replace B_w1:=Lib.hid (B_w1.out.trans (b2.mono B_w1.out.size))
 have B_X1:=Lib.hid b2
 clear b2
 have CC:=Lib.hid p1
 clear p1
 obtain⟨ca1,cn1,cc1,ca2,cn2,cc2,ca3,cn3,cc3,rfl,rfl,rfl⟩:=crt_sl CC.out
 clear c0 c1 c2 c3 c4 c5 c6 c7 c8 c9 c10 ltMB
 obtain⟨c0,c1,c2,c3,c4,c5,c6,c7,c8,c9,c10⟩:=msn_cells (m:=exC 20) (MB.out.below B_X1.out MB.out.lt)
 have ltMB:=(MB.out.below B_X1.out MB.out.lt).lt
 clear g1
 go_upto_region 3 with fail
 generalize hXX2:World.alloc w2 _=X2
 obtain⟨q0,hA,hzX2⟩:=box1 hXX2
 clear hXX2
 replace BW:=Lib.hid (BW.out.trans (hA.mono BW.out.size))
 replace B_w1:=Lib.hid (B_w1.out.trans (hA.mono B_w1.out.size))
 replace B_X1:=Lib.hid (B_X1.out.trans (hA.mono B_X1.out.size))
 have B_w2:=Lib.hid hA
 clear hA
 have CB:=Lib.hid q0
 clear q0
 clear hzX2
 clear c0 c1 c2 c3 c4 c5 c6 c7 c8 c9 c10 ltMB
 obtain⟨c0,c1,c2,c3,c4,c5,c6,c7,c8,c9,c10⟩:=msn_cells (m:=exC 20) (MB.out.below B_X1.out MB.out.lt)
 have ltMB:=(MB.out.below B_X1.out MB.out.lt).lt
 have hk:=CB.out
 have k0':=hk.cell (i:=0) rfl
 have k1':=hk.cell (i:=1) rfl
 have k2':=hk.cell (i:=2) rfl
 go_wp2_with fail
 have g2:=check_any (exC 20) _ _ _ ce36 _ _ _ X2 ((MM.out.below B_w1.out).mono B_w1.out.size) ((CC.out.below B_w2.out).mono B_w2.out.size)
 rw [(exC_check (b:=20) (by decide)).1] at g2
 rw [(exC_check (b:=20) (by decide)).2] at g2
 rw [show decide ((20:Int)≤20)=true from by decide] at g2
 refine (g2).mono ?_
 rintro e w3 ⟨rfl,b3⟩
 replace BW:=Lib.hid (BW.out.trans (b3.mono BW.out.size))
 replace B_w1:=Lib.hid (B_w1.out.trans (b3.mono B_w1.out.size))
 replace B_X1:=Lib.hid (B_X1.out.trans (b3.mono B_X1.out.size))
 replace B_w2:=Lib.hid (B_w2.out.trans (b3.mono B_w2.out.size))
 have B_X2:=Lib.hid b3
 clear b3
 clear c0 c1 c2 c3 c4 c5 c6 c7 c8 c9 c10 ltMB hk k0' k1' k2'
 obtain⟨c0,c1,c2,c3,c4,c5,c6,c7,c8,c9,c10⟩:=msn_cells (m:=exC 20) (MB.out.below B_X1.out MB.out.lt)
 have ltMB:=(MB.out.below B_X1.out MB.out.lt).lt
 have hk:=(CB.out.below B_X2.out CB.out.lt)
 have k0':=hk.cell (i:=0) rfl
 have k1':=hk.cell (i:=1) rfl
 have k2':=hk.cell (i:=2) rfl
 clear g2
 go_wp2_with fail
 have g3:=f4.out w3
 refine (g3).mono ?_
 rintro e w4 ⟨u1,rfl,p2,b4⟩
 replace BW:=Lib.hid (BW.out.trans (b4.mono BW.out.size))
 replace B_w1:=Lib.hid (B_w1.out.trans (b4.mono B_w1.out.size))
 replace B_X1:=Lib.hid (B_X1.out.trans (b4.mono B_X1.out.size))
 replace B_w2:=Lib.hid (B_w2.out.trans (b4.mono B_w2.out.size))
 replace B_X2:=Lib.hid (B_X2.out.trans (b4.mono B_X2.out.size))
 clear b4
 have PU:=Lib.hid p2
 clear p2
 obtain⟨ua,un,uc,rfl⟩:=pts_sl PU.out
 clear c0 c1 c2 c3 c4 c5 c6 c7 c8 c9 c10 ltMB hk k0' k1' k2'
 obtain⟨c0,c1,c2,c3,c4,c5,c6,c7,c8,c9,c10⟩:=msn_cells (m:=exC 20) (MB.out.below B_X1.out MB.out.lt)
 have ltMB:=(MB.out.below B_X1.out MB.out.lt).lt
 have hk:=(CB.out.below B_X2.out CB.out.lt)
 have k0':=hk.cell (i:=0) rfl
 have k1':=hk.cell (i:=1) rfl
 have k2':=hk.cell (i:=2) rfl
 clear g3
 go_upto_region 6 with fail
 generalize hXX5:World.alloc (World.alloc (World.alloc w4 _) _) _=X5
 obtain⟨q0,q1,q2,hA,hzX5⟩:=box3 hXX5
 clear hXX5
 replace BW:=Lib.hid (BW.out.trans (hA.mono BW.out.size))
 replace B_w1:=Lib.hid (B_w1.out.trans (hA.mono B_w1.out.size))
 replace B_X1:=Lib.hid (B_X1.out.trans (hA.mono B_X1.out.size))
 replace B_w2:=Lib.hid (B_w2.out.trans (hA.mono B_w2.out.size))
 replace B_X2:=Lib.hid (B_X2.out.trans (hA.mono B_X2.out.size))
 have B_w4:=Lib.hid hA
 clear hA
 have WP:=Lib.hid q0
 clear q0
 have WR:=Lib.hid q1
 clear q1
 have WB:=Lib.hid q2
 clear q2
 clear c0 c1 c2 c3 c4 c5 c6 c7 c8 c9 c10 ltMB hk k0' k1' k2'
 obtain⟨c0,c1,c2,c3,c4,c5,c6,c7,c8,c9,c10⟩:=msn_cells (m:=exC 20) (MB.out.below B_X1.out MB.out.lt)
 have ltMB:=(MB.out.below B_X1.out MB.out.lt).lt
 have hk:=(CB.out.below B_X2.out CB.out.lt)
 have k0':=hk.cell (i:=0) rfl
 have k1':=hk.cell (i:=1) rfl
 have k2':=hk.cell (i:=2) rfl
 clear hzX5
 go_wp2_with fail
 generalize hXX6:World.alloc (World.alloc (World.alloc X5 _) _) _=X6
 obtain⟨q0,q1,q2,hA,hzX6⟩:=box3 hXX6
 clear hXX6
 replace BW:=Lib.hid (BW.out.trans (hA.mono BW.out.size))
 replace B_w1:=Lib.hid (B_w1.out.trans (hA.mono B_w1.out.size))
 replace B_X1:=Lib.hid (B_X1.out.trans (hA.mono B_X1.out.size))
 replace B_w2:=Lib.hid (B_w2.out.trans (hA.mono B_w2.out.size))
 replace B_X2:=Lib.hid (B_X2.out.trans (hA.mono B_X2.out.size))
 replace B_w4:=Lib.hid (B_w4.out.trans (hA.mono B_w4.out.size))
 have B_X5:=Lib.hid hA
 clear hA
 have L1:=Lib.hid q0
 clear q0
 have L2:=Lib.hid q1
 clear q1
 have LL:=Lib.hid q2
 clear q2
 clear c0 c1 c2 c3 c4 c5 c6 c7 c8 c9 c10 ltMB hk k0' k1' k2'
 obtain⟨c0,c1,c2,c3,c4,c5,c6,c7,c8,c9,c10⟩:=msn_cells (m:=exC 20) (MB.out.below B_X1.out MB.out.lt)
 have ltMB:=(MB.out.below B_X1.out MB.out.lt).lt
 have hk:=(CB.out.below B_X2.out CB.out.lt)
 have k0':=hk.cell (i:=0) rfl
 have k1':=hk.cell (i:=1) rfl
 have k2':=hk.cell (i:=2) rfl
 clear hzX6
 have g4:=covers_any ce36 _ _ _ _ 0 [[⟨500,10⟩],[⟨0,0⟩]] X6 ((CC.out.below B_w2.out).mono B_w2.out.size) (RocksAt.has (ls:=[[⟨500,10⟩],[⟨0,0⟩]]) (cap:=0) LL.out (by simp) fun j hj=>by rcases (show j=0∨j=1 by simp at hj;omega) with rfl | rfl;exact⟨_,rfl,pt1_at L1.out⟩;exact⟨_,rfl,pt1_at L2.out⟩)
 rw [exC_in.1] at g4
 rw [exC_in.2] at g4
 refine (g4).mono ?_
 rintro e w5 ⟨rfl,b5⟩
 replace BW:=Lib.hid (BW.out.trans (b5.mono BW.out.size))
 replace B_w1:=Lib.hid (B_w1.out.trans (b5.mono B_w1.out.size))
 replace B_X1:=Lib.hid (B_X1.out.trans (b5.mono B_X1.out.size))
 replace B_w2:=Lib.hid (B_w2.out.trans (b5.mono B_w2.out.size))
 replace B_X2:=Lib.hid (B_X2.out.trans (b5.mono B_X2.out.size))
 replace B_w4:=Lib.hid (B_w4.out.trans (b5.mono B_w4.out.size))
 replace B_X5:=Lib.hid (B_X5.out.trans (b5.mono B_X5.out.size))
 have B_X6:=Lib.hid b5
 clear b5
 clear c0 c1 c2 c3 c4 c5 c6 c7 c8 c9 c10 ltMB hk k0' k1' k2'
 obtain⟨c0,c1,c2,c3,c4,c5,c6,c7,c8,c9,c10⟩:=msn_cells (m:=exC 20) (MB.out.below B_X1.out MB.out.lt)
 have ltMB:=(MB.out.below B_X1.out MB.out.lt).lt
 have hk:=(CB.out.below B_X2.out CB.out.lt)
 have k0':=hk.cell (i:=0) rfl
 have k1':=hk.cell (i:=1) rfl
 have k2':=hk.cell (i:=2) rfl
 clear g4
 go_wp2_with fail
 generalize hXX7:World.alloc (World.alloc w5 _) _=X7
 obtain⟨q0,q1,hA,hzX7⟩:=box2 hXX7
 clear hXX7
 replace BW:=Lib.hid (BW.out.trans (hA.mono BW.out.size))
 replace B_w1:=Lib.hid (B_w1.out.trans (hA.mono B_w1.out.size))
 replace B_X1:=Lib.hid (B_X1.out.trans (hA.mono B_X1.out.size))
 replace B_w2:=Lib.hid (B_w2.out.trans (hA.mono B_w2.out.size))
 replace B_X2:=Lib.hid (B_X2.out.trans (hA.mono B_X2.out.size))
 replace B_w4:=Lib.hid (B_w4.out.trans (hA.mono B_w4.out.size))
 replace B_X5:=Lib.hid (B_X5.out.trans (hA.mono B_X5.out.size))
 replace B_X6:=Lib.hid (B_X6.out.trans (hA.mono B_X6.out.size))
 clear hA
 have L3:=Lib.hid q0
 clear q0
 have L4:=Lib.hid q1
 clear q1
 clear c0 c1 c2 c3 c4 c5 c6 c7 c8 c9 c10 ltMB hk k0' k1' k2'
 obtain⟨c0,c1,c2,c3,c4,c5,c6,c7,c8,c9,c10⟩:=msn_cells (m:=exC 20) (MB.out.below B_X1.out MB.out.lt)
 have ltMB:=(MB.out.below B_X1.out MB.out.lt).lt
 have hk:=(CB.out.below B_X2.out CB.out.lt)
 have k0':=hk.cell (i:=0) rfl
 have k1':=hk.cell (i:=1) rfl
 have k2':=hk.cell (i:=2) rfl
 clear hzX7
 have g5:=covers_any ce36 _ _ _ _ 0 [[⟨500,11⟩]] X7 ((CC.out.below B_w2.out).mono B_w2.out.size) (RocksAt.has (ls:=[[⟨500,11⟩]]) (cap:=0) L4.out (by simp) fun j hj=>by obtain rfl:j=0:=(by simp at hj;omega);exact⟨_,rfl,pt1_at L3.out⟩)
 rw [exC_out.1] at g5
 rw [exC_out.2] at g5
 refine (g5).mono ?_
 rintro e w6 ⟨rfl,b6⟩
 replace BW:=Lib.hid (BW.out.trans (b6.mono BW.out.size))
 replace B_w1:=Lib.hid (B_w1.out.trans (b6.mono B_w1.out.size))
 replace B_X1:=Lib.hid (B_X1.out.trans (b6.mono B_X1.out.size))
 replace B_w2:=Lib.hid (B_w2.out.trans (b6.mono B_w2.out.size))
 replace B_X2:=Lib.hid (B_X2.out.trans (b6.mono B_X2.out.size))
 replace B_w4:=Lib.hid (B_w4.out.trans (b6.mono B_w4.out.size))
 replace B_X5:=Lib.hid (B_X5.out.trans (b6.mono B_X5.out.size))
 replace B_X6:=Lib.hid (B_X6.out.trans (b6.mono B_X6.out.size))
 have B_X7:=Lib.hid b6
 clear b6
 clear c0 c1 c2 c3 c4 c5 c6 c7 c8 c9 c10 ltMB hk k0' k1' k2'
 obtain⟨c0,c1,c2,c3,c4,c5,c6,c7,c8,c9,c10⟩:=msn_cells (m:=exC 20) (MB.out.below B_X1.out MB.out.lt)
 have ltMB:=(MB.out.below B_X1.out MB.out.lt).lt
 have hk:=(CB.out.below B_X2.out CB.out.lt)
 have k0':=hk.cell (i:=0) rfl
 have k1':=hk.cell (i:=1) rfl
 have k2':=hk.cell (i:=2) rfl
 clear g5
 have szw:=Lib.hid (show w.heap.size≤w6.heap.size from BW.out.size)
 have szw1:=Lib.hid (show w1.heap.size≤w6.heap.size from B_w1.out.size)
 have szX1:=Lib.hid (show X1.heap.size≤w6.heap.size from B_X1.out.size)
 have szw2:=Lib.hid (show w2.heap.size≤w6.heap.size from B_w2.out.size)
 have szX2:=Lib.hid (show X2.heap.size≤w6.heap.size from B_X2.out.size)
 have szw4:=Lib.hid (show w4.heap.size≤w6.heap.size from B_w4.out.size)
 have szX5:=Lib.hid (show X5.heap.size≤w6.heap.size from B_X5.out.size)
 have szX6:=Lib.hid (show X6.heap.size≤w6.heap.size from B_X6.out.size)
 have szX7:=Lib.hid (show X7.heap.size≤w6.heap.size from B_X7.out.size)
 go_upto_region 9 with fail
 generalize hXX8:World.alloc w6 _=X8
 obtain⟨q0,hA,hzX8⟩:=box1 hXX8
 clear hXX8
 replace BW:=Lib.hid (BW.out.trans (hA.mono BW.out.size))
 replace B_w1:=Lib.hid (B_w1.out.trans (hA.mono B_w1.out.size))
 replace B_X1:=Lib.hid (B_X1.out.trans (hA.mono B_X1.out.size))
 replace B_w2:=Lib.hid (B_w2.out.trans (hA.mono B_w2.out.size))
 replace B_X2:=Lib.hid (B_X2.out.trans (hA.mono B_X2.out.size))
 replace B_w4:=Lib.hid (B_w4.out.trans (hA.mono B_w4.out.size))
 replace B_X5:=Lib.hid (B_X5.out.trans (hA.mono B_X5.out.size))
 replace B_X6:=Lib.hid (B_X6.out.trans (hA.mono B_X6.out.size))
 replace B_X7:=Lib.hid (B_X7.out.trans (hA.mono B_X7.out.size))
 clear hA
 have NB:=Lib.hid q0
 clear q0
 clear hzX8
 clear c0 c1 c2 c3 c4 c5 c6 c7 c8 c9 c10 ltMB hk k0' k1' k2'
 have hNB:=NB.out
 have l9:=hNB.cell (i:=9) rfl
 have f9:=cells_free hNB 9
 have ltN:=hNB.lt
 have hx:=BW.out.size
 have HNB:=Lib.hid hNB
 clear hNB
 go_upto_region 10 with fail
 clear l9 f9
 generalize hZ:World.setCell X8 _ _=Z
 have HZ:=HNB.out.set 9 (.int .i64 19)
 have qw:=BW.out.setCell (p:=⟨w6.heap.size,9,none⟩) szw.out (.int .i64 19)
 have qw1:=B_w1.out.setCell (p:=⟨w6.heap.size,9,none⟩) szw1.out (.int .i64 19)
 have qX1:=B_X1.out.setCell (p:=⟨w6.heap.size,9,none⟩) szX1.out (.int .i64 19)
 have qw2:=B_w2.out.setCell (p:=⟨w6.heap.size,9,none⟩) szw2.out (.int .i64 19)
 have qX2:=B_X2.out.setCell (p:=⟨w6.heap.size,9,none⟩) szX2.out (.int .i64 19)
 have qw4:=B_w4.out.setCell (p:=⟨w6.heap.size,9,none⟩) szw4.out (.int .i64 19)
 have qX5:=B_X5.out.setCell (p:=⟨w6.heap.size,9,none⟩) szX5.out (.int .i64 19)
 have qX6:=B_X6.out.setCell (p:=⟨w6.heap.size,9,none⟩) szX6.out (.int .i64 19)
 have qX7:=B_X7.out.setCell (p:=⟨w6.heap.size,9,none⟩) szX7.out (.int .i64 19)
 rw [hZ] at HZ qw qw1 qX1 qw2 qX2 qw4 qX5 qX6 qX7
 clear hZ
 simp only [List.setIfInBounds_toArray,List.set_cons_zero,List.set_cons_succ] at HZ
 replace BW:=Lib.hid qw
 replace B_w1:=Lib.hid qw1
 replace B_X1:=Lib.hid qX1
 replace B_w2:=Lib.hid qw2
 replace B_X2:=Lib.hid qX2
 replace B_w4:=Lib.hid qw4
 replace B_X5:=Lib.hid qX5
 replace B_X6:=Lib.hid qX6
 replace B_X7:=Lib.hid qX7
 replace NB:=Lib.hid HZ
 clear HNB HZ qw qw1 qX1 qw2 qX2 qw4 qX5 qX6 qX7
 obtain⟨c0,c1,c2,c3,c4,c5,c6,c7,c8,c9,c10⟩:=msn_cells (m:=exC 19) NB.out
 have ltNB:=NB.out.lt
 have MN:=Lib.hid (msn_bat (b':=19) ((MM.out.below B_w1.out).mono B_w1.out.size))
 go_wp2_with fail
 have g6:=make_any (exC 19) _ _ _ (.slice none 0 0) [] Z MN.out (IntsAt.nil _ _) (by simp)
 rw [mk36p.1] at g6
 rw [mk36p.2] at g6
 refine (g6).mono ?_
 rintro e w7 ⟨v1,v2,v3,rfl,p1,b7⟩
 replace BW:=Lib.hid (BW.out.trans (b7.mono BW.out.size))
 replace B_w1:=Lib.hid (B_w1.out.trans (b7.mono B_w1.out.size))
 replace B_X1:=Lib.hid (B_X1.out.trans (b7.mono B_X1.out.size))
 replace B_w2:=Lib.hid (B_w2.out.trans (b7.mono B_w2.out.size))
 replace B_X2:=Lib.hid (B_X2.out.trans (b7.mono B_X2.out.size))
 replace B_w4:=Lib.hid (B_w4.out.trans (b7.mono B_w4.out.size))
 replace B_X5:=Lib.hid (B_X5.out.trans (b7.mono B_X5.out.size))
 replace B_X6:=Lib.hid (B_X6.out.trans (b7.mono B_X6.out.size))
 replace B_X7:=Lib.hid (B_X7.out.trans (b7.mono B_X7.out.size))
 have B_Z:=Lib.hid b7
 clear b7
 obtain⟨da1,dn1,dc1,da2,dn2,dc2,da3,dn3,dc3,rfl,rfl,rfl⟩:=crt_sl p1
 clear p1
 clear c0 c1 c2 c3 c4 c5 c6 c7 c8 c9 c10 ltNB
 obtain⟨c0,c1,c2,c3,c4,c5,c6,c7,c8,c9,c10⟩:=msn_cells (m:=exC 19) (NB.out.below B_Z.out NB.out.lt)
 have ltNB:=(NB.out.below B_Z.out NB.out.lt).lt
 clear g6
 go_upto_region 11 with fail
 generalize hXX10:World.alloc w7 _=X10
 obtain⟨-,hA,hzX10⟩:=box1 hXX10
 clear hXX10
 replace BW:=Lib.hid (BW.out.trans (hA.mono BW.out.size))
 replace B_w1:=Lib.hid (B_w1.out.trans (hA.mono B_w1.out.size))
 replace B_X1:=Lib.hid (B_X1.out.trans (hA.mono B_X1.out.size))
 replace B_w2:=Lib.hid (B_w2.out.trans (hA.mono B_w2.out.size))
 replace B_X2:=Lib.hid (B_X2.out.trans (hA.mono B_X2.out.size))
 replace B_w4:=Lib.hid (B_w4.out.trans (hA.mono B_w4.out.size))
 replace B_X5:=Lib.hid (B_X5.out.trans (hA.mono B_X5.out.size))
 replace B_X6:=Lib.hid (B_X6.out.trans (hA.mono B_X6.out.size))
 replace B_X7:=Lib.hid (B_X7.out.trans (hA.mono B_X7.out.size))
 replace B_Z:=Lib.hid (B_Z.out.trans (hA.mono B_Z.out.size))
 clear hA
 clear hzX10
 clear c0 c1 c2 c3 c4 c5 c6 c7 c8 c9 c10 ltNB
 obtain⟨c0,c1,c2,c3,c4,c5,c6,c7,c8,c9,c10⟩:=msn_cells (m:=exC 19) (NB.out.below B_Z.out NB.out.lt)
 have ltNB:=(NB.out.below B_Z.out NB.out.lt).lt
 have hk:=(CB.out.below B_X2.out CB.out.lt)
 have k0':=hk.cell (i:=0) rfl
 have k1':=hk.cell (i:=1) rfl
 have k2':=hk.cell (i:=2) rfl
 go_wp2_with fail
 have g7:=check_any (exC 19) _ _ _ ce36 _ _ _ X10 ((MN.out.below B_Z.out).mono B_Z.out.size) ((CC.out.below B_w2.out).mono B_w2.out.size)
 rw [(exC_check (b:=19) (by decide)).1] at g7
 rw [(exC_check (b:=19) (by decide)).2] at g7
 rw [show decide ((20:Int)≤19)=false from by decide] at g7
 refine (g7).mono ?_
 rintro e w8 ⟨rfl,b8⟩
 replace BW:=Lib.hid (BW.out.trans (b8.mono BW.out.size))
 replace B_w1:=Lib.hid (B_w1.out.trans (b8.mono B_w1.out.size))
 replace B_X1:=Lib.hid (B_X1.out.trans (b8.mono B_X1.out.size))
 replace B_w2:=Lib.hid (B_w2.out.trans (b8.mono B_w2.out.size))
 replace B_X2:=Lib.hid (B_X2.out.trans (b8.mono B_X2.out.size))
 replace B_w4:=Lib.hid (B_w4.out.trans (b8.mono B_w4.out.size))
 replace B_X5:=Lib.hid (B_X5.out.trans (b8.mono B_X5.out.size))
 replace B_X6:=Lib.hid (B_X6.out.trans (b8.mono B_X6.out.size))
 replace B_X7:=Lib.hid (B_X7.out.trans (b8.mono B_X7.out.size))
 replace B_Z:=Lib.hid (B_Z.out.trans (b8.mono B_Z.out.size))
 clear b8
 clear c0 c1 c2 c3 c4 c5 c6 c7 c8 c9 c10 ltNB hk k0' k1' k2'
 obtain⟨c0,c1,c2,c3,c4,c5,c6,c7,c8,c9,c10⟩:=msn_cells (m:=exC 19) (NB.out.below B_Z.out NB.out.lt)
 have ltNB:=(NB.out.below B_Z.out NB.out.lt).lt
 have hk:=(CB.out.below B_X2.out CB.out.lt)
 have k0':=hk.cell (i:=0) rfl
 have k1':=hk.cell (i:=1) rfl
 have k2':=hk.cell (i:=2) rfl
 clear g7
 clear c0 c1 c2 c3 c4 c5 c6 c7 c8 c9 c10 ltNB hk k0' k1' k2'
 obtain⟨c0,c1,c2,c3,c4,c5,c6,c7,c8,c9,c10⟩:=msn_cells (m:=exC 20) (MB.out.below B_X1.out MB.out.lt)
 have ltMB:=(MB.out.below B_X1.out MB.out.lt).lt
 go_wp2_with fail
 generalize hXX12:World.alloc w8 _=X12
 obtain⟨q0,hA,hzX12⟩:=box1 hXX12
 clear hXX12
 replace BW:=Lib.hid (BW.out.trans (hA.mono BW.out.size))
 replace B_w1:=Lib.hid (B_w1.out.trans (hA.mono B_w1.out.size))
 replace B_X1:=Lib.hid (B_X1.out.trans (hA.mono B_X1.out.size))
 replace B_w2:=Lib.hid (B_w2.out.trans (hA.mono B_w2.out.size))
 replace B_X2:=Lib.hid (B_X2.out.trans (hA.mono B_X2.out.size))
 replace B_w4:=Lib.hid (B_w4.out.trans (hA.mono B_w4.out.size))
 replace B_X5:=Lib.hid (B_X5.out.trans (hA.mono B_X5.out.size))
 replace B_X6:=Lib.hid (B_X6.out.trans (hA.mono B_X6.out.size))
 replace B_X7:=Lib.hid (B_X7.out.trans (hA.mono B_X7.out.size))
 replace B_Z:=Lib.hid (B_Z.out.trans (hA.mono B_Z.out.size))
 clear hA
 have S1:=Lib.hid q0
 clear q0
 clear c0 c1 c2 c3 c4 c5 c6 c7 c8 c9 c10 ltMB
 obtain⟨c0,c1,c2,c3,c4,c5,c6,c7,c8,c9,c10⟩:=msn_cells (m:=exC 20) (MB.out.below B_X1.out MB.out.lt)
 have ltMB:=(MB.out.below B_X1.out MB.out.lt).lt
 clear hzX12
 have g8:=make_any (exC 20) _ _ _ _ [1] X12 ((MM.out.below B_w1.out).mono B_w1.out.size) (int1_at S1.out) (by simp)
 rw [mk36s.1] at g8
 rw [mk36s.2] at g8
 refine (g8).mono ?_
 rintro e w9 ⟨v1,v2,v3,rfl,p1,b9⟩
 replace BW:=Lib.hid (BW.out.trans (b9.mono BW.out.size))
 replace B_w1:=Lib.hid (B_w1.out.trans (b9.mono B_w1.out.size))
 replace B_X1:=Lib.hid (B_X1.out.trans (b9.mono B_X1.out.size))
 replace B_w2:=Lib.hid (B_w2.out.trans (b9.mono B_w2.out.size))
 replace B_X2:=Lib.hid (B_X2.out.trans (b9.mono B_X2.out.size))
 replace B_w4:=Lib.hid (B_w4.out.trans (b9.mono B_w4.out.size))
 replace B_X5:=Lib.hid (B_X5.out.trans (b9.mono B_X5.out.size))
 replace B_X6:=Lib.hid (B_X6.out.trans (b9.mono B_X6.out.size))
 replace B_X7:=Lib.hid (B_X7.out.trans (b9.mono B_X7.out.size))
 replace B_Z:=Lib.hid (B_Z.out.trans (b9.mono B_Z.out.size))
 have B_X12:=Lib.hid b9
 clear b9
 obtain⟨ea1,en1,ec1,ea2,en2,ec2,ea3,en3,ec3,rfl,rfl,rfl⟩:=crt_sl p1
 clear p1
 clear c0 c1 c2 c3 c4 c5 c6 c7 c8 c9 c10 ltMB
 obtain⟨c0,c1,c2,c3,c4,c5,c6,c7,c8,c9,c10⟩:=msn_cells (m:=exC 20) (MB.out.below B_X1.out MB.out.lt)
 have ltMB:=(MB.out.below B_X1.out MB.out.lt).lt
 clear g8
 go_upto_region 14 with fail
 generalize hXX13:World.alloc w9 _=X13
 obtain⟨-,hA,hzX13⟩:=box1 hXX13
 clear hXX13
 replace BW:=Lib.hid (BW.out.trans (hA.mono BW.out.size))
 replace B_w1:=Lib.hid (B_w1.out.trans (hA.mono B_w1.out.size))
 replace B_X1:=Lib.hid (B_X1.out.trans (hA.mono B_X1.out.size))
 replace B_w2:=Lib.hid (B_w2.out.trans (hA.mono B_w2.out.size))
 replace B_X2:=Lib.hid (B_X2.out.trans (hA.mono B_X2.out.size))
 replace B_w4:=Lib.hid (B_w4.out.trans (hA.mono B_w4.out.size))
 replace B_X5:=Lib.hid (B_X5.out.trans (hA.mono B_X5.out.size))
 replace B_X6:=Lib.hid (B_X6.out.trans (hA.mono B_X6.out.size))
 replace B_X7:=Lib.hid (B_X7.out.trans (hA.mono B_X7.out.size))
 replace B_Z:=Lib.hid (B_Z.out.trans (hA.mono B_Z.out.size))
 replace B_X12:=Lib.hid (B_X12.out.trans (hA.mono B_X12.out.size))
 clear hA
 clear hzX13
 clear c0 c1 c2 c3 c4 c5 c6 c7 c8 c9 c10 ltMB
 have hk:=(CB.out.below B_X2.out CB.out.lt)
 have k0':=hk.cell (i:=0) rfl
 have k1':=hk.cell (i:=1) rfl
 have k2':=hk.cell (i:=2) rfl
 have hj:=(WB.out.below B_X5.out WB.out.lt)
 have j0':=hj.cell (i:=0) rfl
 have j1':=hj.cell (i:=1) rfl
 have j2':=hj.cell (i:=2) rfl
 go_wp2_with fail
 have g9:=csame_any ce36 _ _ _ _ _ _ X13 ((CC.out.below B_w2.out).mono B_w2.out.size) (ce36_at (WP.out.below B_X5.out WP.out.lt) (WR.out.below B_X5.out WR.out.lt) ((PU.out.below B_w4.out).mono B_w4.out.size))
 refine (g9).mono ?_
 rintro e w10 ⟨rfl,b10⟩
 replace BW:=Lib.hid (BW.out.trans (b10.mono BW.out.size))
 replace B_w1:=Lib.hid (B_w1.out.trans (b10.mono B_w1.out.size))
 replace B_X1:=Lib.hid (B_X1.out.trans (b10.mono B_X1.out.size))
 replace B_w2:=Lib.hid (B_w2.out.trans (b10.mono B_w2.out.size))
 replace B_X2:=Lib.hid (B_X2.out.trans (b10.mono B_X2.out.size))
 replace B_w4:=Lib.hid (B_w4.out.trans (b10.mono B_w4.out.size))
 replace B_X5:=Lib.hid (B_X5.out.trans (b10.mono B_X5.out.size))
 replace B_X6:=Lib.hid (B_X6.out.trans (b10.mono B_X6.out.size))
 replace B_X7:=Lib.hid (B_X7.out.trans (b10.mono B_X7.out.size))
 replace B_Z:=Lib.hid (B_Z.out.trans (b10.mono B_Z.out.size))
 replace B_X12:=Lib.hid (B_X12.out.trans (b10.mono B_X12.out.size))
 clear b10
 clear hk k0' k1' k2' hj j0' j1' j2'
 have hk:=(CB.out.below B_X2.out CB.out.lt)
 have k0':=hk.cell (i:=0) rfl
 have k1':=hk.cell (i:=1) rfl
 have k2':=hk.cell (i:=2) rfl
 have hj:=(WB.out.below B_X5.out WB.out.lt)
 have j0':=hj.cell (i:=0) rfl
 have j1':=hj.cell (i:=1) rfl
 have j2':=hj.cell (i:=2) rfl
 clear g9
 go_wp2
 go_ret
 exact⟨rfl,BW.out⟩
end Go.Proofs.YtpimbaaahcemhaaGreat
