/- Plans: what the legs of a mission with stops come to. No program here. | Certificates: what they are, and how they lie in memory. | slices of integ .. -/
import Derived.Test.YtpimbaaahcemhaaGreatBin04
import Derived.Test.YtpimbaaahcemhaaGreatBin16
import Derived.Test.YtpimbaaahcemhaaGreatBin23
import Derived.Test.YtpimbaaahcemhaaGreatBin13
import Derived.Test.YtpimbaaahcemhaaGreatBin24
import Derived.Test.YtpimbaaahcemhaaGreatBin11
import Derived.Test.YtpimbaaahcemhaaGreatBin12
import Derived.Test.YtpimbaaahcemhaaGreatBin26
import Derived.Test.YtpimbaaahcemhaaGreatBin27
import Derived.Test.YtpimbaaahcemhaaGreatBin19
import Derived.Test.YtpimbaaahcemhaaGreatBin10
namespace Go.Proofs.YtpimbaaahcemhaaGreat
def atW (m:Msn) (k:Nat):Pt:=⟨(wy m.ways k).x,(wy m.ways k).y⟩
noncomputable def clrB (m:Msn) (a:Nat) (u:Int) (b:Nat) (w:Int):Bool:=!firB (corL (atW m a) u (atW m b) w) m.rocks
def bkR (m:Msn) (a:Nat) (r:Int):Nat→Int
 | 0=>r
 | j+1=>bkR m a r j+gLeg m (itB m a j) (itB m a (j+1))
noncomputable def bkC (m:Msn) (a:Nat) (r:Int):Nat→Bool
 | 0=>true
 | j+1=>bkC m a r j && clrB m (itB m a j) (bkR m a r j) (itB m a (j+1)) (bkR m a r (j+1))
noncomputable def lieB (m:Msn) (r:Int):Bool:=decide ((cornersP (mvL (atW m 0) (diskP r.toNat)) m.home).length=(mvL (atW m 0) (diskP r.toNat)).length)
noncomputable def kindV (m:Msn) (l:List Int) (k:Nat):Int :=
 if clrB m k (rdA m l k) (k+1) (rdB m l (k+1))=false then 1
 else if bkC m (k+1) (rdB m l (k+1)) (dep m (k+1))=false then 5
 else if lieB m (bkR m (k+1) (rdB m l (k+1)) (dep m (k+1)))=false then 2
 else if usE m l (k+1)+homeE m (k+1) (dep m (k+1))>m.battery then 3
 else if usT m l (k+1)+homeT m (k+1) (dep m (k+1))>m.deadline then 4
 else 0
noncomputable def leadF (m:Msn) (l:List Int):Nat→Nat→Nat
 | 0,k=>k
 | n+1,k=>if kindV m l k=0 then leadF m l n (k+1) else k
noncomputable def leadN (m:Msn) (l:List Int):Nat:=leadF m l (m.ways.length - 1) 0
noncomputable def leadV (m:Msn) (l:List Int):Int:=leadN m l
noncomputable def leadK (m:Msn) (l:List Int):Int:=if leadN m l<m.ways.length - 1 then kindV m l (leadN m l) else 0
theorem leadF_spec (m:Msn) (l:List Int):∀ n k,k≤leadF m l n k∧leadF m l n k≤k+n∧(∀ j,k≤j→j<leadF m l n k→kindV m l j=0)∧(leadF m l n k<k+n→kindV m l (leadF m l n k)≠0)
 | 0,k=>⟨Nat.le_refl _,Nat.le_refl _,fun j h1 h2=>by simp only [leadF] at h2;omega,fun h=>by simp only [leadF] at h;omega⟩
 | n + 1, k => by
  simp only [leadF]
  by_cases h:kindV m l k=0
  ·rw [if_pos h]
   obtain⟨a,b,c,d⟩:=leadF_spec m l n (k+1)
   refine⟨by omega,by omega,fun j h1 h2=>?_,fun h2=>d (by omega)⟩
   rcases Nat.lt_or_eq_of_le h1 with e | e
   ·exact c j e h2
   ·rw [← e];exact h
  ·rw [if_neg h]
   exact⟨Nat.le_refl _,by omega,fun j h1 h2=>by omega,fun _=>h⟩
theorem lead_spec (m:Msn) (l:List Int):leadN m l≤m.ways.length - 1∧(∀ j,j<leadN m l→kindV m l j=0)∧(leadN m l<m.ways.length - 1→kindV m l (leadN m l)≠0):=by
 obtain⟨a,b,c,d⟩:=leadF_spec m l (m.ways.length - 1) 0
 exact⟨by unfold leadN;omega,fun j h=>c j (Nat.zero_le _) h,fun h=>d (by unfold leadN at h;omega)⟩
theorem lead_iff {m:Msn} {l:List Int} {n:Nat} (h:n≤m.ways.length - 1) (h1:∀ j,j<n→kindV m l j=0) (h2:n<m.ways.length - 1→kindV m l n≠0):leadN m l=n:=by
 obtain⟨a,b,c⟩:=lead_spec m l
 rcases Nat.lt_trichotomy (leadN m l) n with e | e | e
 ·exact (c (by omega) (h1 _ e)).elim
 ·exact e
 ·exact (h2 (by omega) (b _ e)).elim
theorem kind_bd (m:Msn) (l:List Int) (k:Nat):0≤kindV m l k∧kindV m l k≤5:=by
 unfold kindV
 repeat' split
 all_goals omega
theorem onsTo_sum (m:Msn):∀ k,onsTo m k=sumG m k
 | 0=>rfl
 | k+1=>by rw [onsTo,sumG,onsTo_sum m k]
theorem bkR_home (m:Msn) (a:Nat) (r:Int):∀ j,bkR m a r j=r+homeP m a j
 | 0=>by simp [bkR,homeP]
 | j+1=>by simp only [bkR,homeP,bkR_home m a r j];omega
theorem homeP_mono {m:Msn} (V:VMsn m) {a:Nat} (ha:a<m.ways.length) (i:Nat):∀ j,i≤j→j≤dep m a→homeP m a i≤homeP m a j
 | 0,h,_=>by rw [Nat.le_zero.1 h];exact Int.le_refl _
 | j + 1, h, hj => by
  rcases Nat.lt_or_eq_of_le h with e | e
  ·have ih:=homeP_mono V ha i j (by omega) (by omega)
   have g:=gLeg_bd V.leg V.ways (itB_lt V.ways ha (j:=j) (by omega)) (itB_lt V.ways ha (j:=j+1) hj)
   simp only [homeP];omega
  ·rw [e];exact Int.le_refl _
theorem bk_bd {m:Msn} (V:VMsn m) (l:List Int) {a:Nat} (ha:a<m.ways.length) {j:Nat} (hj:j≤dep m a):0≤bkR m a (rdB m l a) j∧bkR m a (rdB m l a) j≤100000:=by
 have r:=rd_bd V l a ha
 have h:=radii_le V.leg V.ways V.start V.grown ha
 have m1:=homeP_mono V ha 0 j (Nat.zero_le _) hj
 have m2:=homeP_mono V ha j (dep m a) hj (Nat.le_refl _)
 rw [onsTo_sum] at h
 rw [bkR_home]
 have:homeP m a 0=0:=rfl
 omega
theorem atW_near {m:Msn} (V:VMsn m) {k:Nat} (hk:k<m.ways.length):-300000≤(atW m k).x∧(atW m k).x≤300000∧-300000≤(atW m k).y∧(atW m k).y≤300000:=way_near V.ways hk
theorem cor_ok {m:Msn} (V:VMsn m) {a b:Nat} (ha:a<m.ways.length) (hb:b<m.ways.length) {u w:Int} (hu:0≤u∧u≤100000) (hw:0≤w∧w≤100000):corE (atW m a) u (atW m b) w=0:=by
 have p:=atW_near V ha
 have q:=atW_near V hb
 exact cor_near (by omega) (by omega) hu hw
end Go.Proofs.YtpimbaaahcemhaaGreat
namespace Go.Proofs.YtpimbaaahcemhaaGreat
open Go.RowKit
structure Psg where
 cor:List Pt
 fr:Int
 tw:Int
 tm:Int
 en:Int
structure Crt where
 stops:List Int
 psg:List Psg
 ret:List Int
def pgd (l:List Psg) (j:Nat):Psg:=l.getD j ⟨[],0,0,0,0⟩
def PsgAt (n0:Nat) (W:World) (b o:Nat) (p:Psg):Prop :=
 ∃ u,W.cell? ⟨b,o,none⟩=some u∧PtsAt n0 W u p.cor∧W.cell? ⟨b,o+1,none⟩=some (.int .i64 p.fr)∧W.cell? ⟨b,o+2,none⟩=some (.int .i64 p.tw)∧W.cell? ⟨b,o+3,none⟩=some (.int .i64 p.tm)∧W.cell? ⟨b,o+4,none⟩=some (.int .i64 p.en)
theorem PsgAt.below {n0:Nat} {A B:World} (h:Below n0 A B) {b o:Nat} {p:Psg} (hb:b<n0) (hp:PsgAt n0 A b o p):PsgAt n0 B b o p:=by
 obtain⟨u,c0,hu,c1,c2,c3,c4⟩:=hp
 exact⟨u,(h.cell (p:=⟨b,o,none⟩) hb).trans c0,hu.below h,(h.cell (p:=⟨b,o+1,none⟩) hb).trans c1,(h.cell (p:=⟨b,o+2,none⟩) hb).trans c2,(h.cell (p:=⟨b,o+3,none⟩) hb).trans c3,(h.cell (p:=⟨b,o+4,none⟩) hb).trans c4⟩
theorem PsgAt.mono {n0 n1:Nat} {W:World} {b o:Nat} {p:Psg} (hp:PsgAt n0 W b o p) (h:n0≤n1):PsgAt n1 W b o p:=by
 obtain⟨u,c0,hu,c⟩:=hp
 exact⟨u,c0,hu.mono h,c⟩
def PsgsAt (n0:Nat) (W:World) (v:Value) (l:List Psg):Prop :=
 l.length≤70368744177663∧∃ a cap,v=.slice a l.length (l.length+cap)∧(l=[]∨∃ b o,a=some ⟨b,o,none⟩∧b<n0∧∀ j,j<l.length→PsgAt n0 W b (o+j*5) (pgd l j))
theorem PsgsAt.below {n0:Nat} {A B:World} (h:Below n0 A B) {v:Value} {l:List Psg} (hp:PsgsAt n0 A v l):PsgsAt n0 B v l:=by
 obtain⟨hl,a,cap,e,hc⟩:=hp
 refine⟨hl,a,cap,e,hc.imp id ?_⟩
 rintro ⟨b,o,e1,hb,hc⟩
 exact⟨b,o,e1,hb,fun j hj=>(hc j hj).below h hb⟩
theorem PsgsAt.mono {n0 n1:Nat} {W:World} {v:Value} {l:List Psg} (hp:PsgsAt n0 W v l) (h:n0≤n1):PsgsAt n1 W v l:=by
 obtain⟨hl,a,cap,e,hc⟩:=hp
 refine⟨hl,a,cap,e,hc.imp id ?_⟩
 rintro ⟨b,o,e1,hb,hc⟩
 exact⟨b,o,e1,by omega,fun j hj=>(hc j hj).mono h⟩
def CrtAt (n0:Nat) (W:World) (c:Crt) (vs vp vr:Value):Prop:=IntsAt n0 W vs c.stops∧PsgsAt n0 W vp c.psg∧IntsAt n0 W vr c.ret
theorem CrtAt.below {n0:Nat} {A B:World} (h:Below n0 A B) {c:Crt} {vs vp vr:Value} (hp:CrtAt n0 A c vs vp vr):CrtAt n0 B c vs vp vr:=⟨hp.1.below h,hp.2.1.below h,hp.2.2.below h⟩
theorem CrtAt.mono {n0 n1:Nat} {W:World} {c:Crt} {vs vp vr:Value} (hp:CrtAt n0 W c vs vp vr) (h:n0≤n1):CrtAt n1 W c vs vp vr:=⟨hp.1.mono h,hp.2.1.mono h,hp.2.2.mono h⟩
def wthB (n most:Int):Bool:=decide (0≤n∧n≤most)
noncomputable def okP (c:Crt) (j:Nat):Bool :=
 goValid (pgd c.psg j).cor && (wthB (pgd c.psg j).fr 100000 && (wthB (pgd c.psg j).tw 100000 && (wthB (pgd c.psg j).tm 1000000000 && (wthB (pgd c.psg j).en 1000000000 && wthB (c.ret.getD j 0) 1000000000))))
noncomputable def frmB (m:Msn) (c:Crt):Bool :=
 radOkB m c.stops && decide (c.psg.length=m.ways.length - 1) && decide (c.ret.length=m.ways.length - 1) && decide (∀ j,j<c.psg.length→okP c j=true)
def befR (m:Msn) (c:Crt) (i:Nat):Int:=if i=0 then m.start else if (i:Int) ∈ c.stops then min (pgd c.psg (i - 1)).tw (wy m.ways i).fix else (pgd c.psg (i - 1)).tw
def befT (m:Msn) (c:Crt) (i:Nat):Int:=if i=0 then 0 else if (i:Int) ∈ c.stops then (pgd c.psg (i - 1)).tm+(wy m.ways i).wait else (pgd c.psg (i - 1)).tm
def befE (m:Msn) (c:Crt) (i:Nat):Int:=if i=0 then 0 else if (i:Int) ∈ c.stops then (pgd c.psg (i - 1)).en+m.idle*(wy m.ways i).wait else (pgd c.psg (i - 1)).en
noncomputable def regB (r:List (List Pt)):Bool:=decide (r.length≤32) && polysB r
noncomputable def inAll (r:List (List Pt)) (p:List Pt):Bool:=decide (∀ j,j<r.length→withinB (rk r j) p=true)
end Go.Proofs.YtpimbaaahcemhaaGreat
namespace Go.Proofs.YtpimbaaahcemhaaGreat
open Go.RowKit
attribute [local irreducible] wpQuiet
theorem invl1_any (v:Value) (l:List Pt) (w:World) (hp:PtsAt w.heap.size w v l) :
  Calls Tryz.prog 193 #[v] w fun e w'=>e=.returned (.bool (!goValid l))∧Below w.heap.size w w':=by
 have f:=Lib.hid (hullValid_any v l w hp)
 clear hp
 generalize goValid l=b at *
 go_enter Tryz.func193,Tryz.ntmps193
 go_wp2_with (go_at_call 93;refine (f.out).mono ?_;rintro e w1 ⟨rfl,hb1⟩;have hz1:=hb1.size;try simp at hz1)
 go_ret
 exact⟨rfl,by repeat (first | exact Below.refl _ _ | assumption | apply Below.drew | refine Below.setCell ?_ (by first | omega | (simp;done) | (simp;omega)) _ | refine Below.alloc ?_ (by first | omega | (simp;done) | (simp;omega)) _ | refine Below.call (by assumption) ?_ (by first | omega | (simp;done) | (simp;omega)))⟩
theorem indexinvl_any (v : Value) (l : List (List Pt)) (w : World) (hr : RocksAt w.heap.size w v l) :
  Calls Tryz.prog 169 #[v,.func (.func 193) #[] #[]] w (FindQ (!polysB l) w):=by
 obtain⟨hl,a,cap,rfl,hc⟩:=hr
 go_enter Tryz.func169,Tryz.ntmps169
 go_wp2
 go_loopw [8] (fun i wr=>∃ k:Nat,k≤l.length∧i=.int .i64 k∧(∀ j,j<k→goValid (rk l j)=true)∧Below w.heap.size w wr) (fun i _=>l.length - (intOf i).toNat)
 case atStart=>exact⟨0,Nat.zero_le _,rfl,fun j h=>by omega,Below.refl _ _⟩
 case round =>
  obtain⟨k,hk,rfl,hall,hB⟩:=hrel
  by_cases hlt:k<l.length
  ·rcases hc with rfl | ⟨b,o,rfl,hb,hc⟩
   ·simp at hlt
   obtain⟨u,hu,hpu⟩:=hc k hlt
   have c1:=(hB.cell (p:=⟨b,o+k,none⟩) hb).trans hu
   have f:=Lib.hid (invl1_any u (rk l k) wr ((hpu.below hB).mono hB.size))
   have hall':=Lib.hid hall
   have hc':=Lib.hid hc
   clear hall hc hu hpu
   have hz:=hB.size
   cases hpl:goValid (rk l k)
   ·rw [hpl] at f
    have hr:Hid (polysB l=false):=by
     show polysB l=false
     simp only [polysB,decide_eq_false_iff_not]
     intro h
     have:=h k hlt
     rw [hpl] at this
     cases this
    go_wp2_with (go_at_call 193;refine (f.out).mono ?_;rintro e w1 ⟨rfl,hb1⟩;have hz1:=hb1.size;try simp at hz1)
    go_ret
    exact⟨k,rfl,by omega,by omega,by rw [hr.out];simp,by repeat (first | exact Below.refl _ _ | assumption | apply Below.drew | refine Below.setCell ?_ (by first | omega | (simp;done) | (simp;omega)) _ | refine Below.alloc ?_ (by first | omega | (simp;done) | (simp;omega)) _ | refine Below.call (by assumption) ?_ (by first | omega | (simp;done) | (simp;omega)))⟩
   ·rw [hpl] at f
    go_wp2_with (go_at_call 193;refine (f.out).mono ?_;rintro e w1 ⟨rfl,hb1⟩;have hz1:=hb1.size;try simp at hz1)
    go_roundw
    case rel =>
     refine⟨k+1,by omega,by go_num,fun j hj=>?_,by repeat (first | exact Below.refl _ _ | assumption | apply Below.drew | refine Below.setCell ?_ (by first | omega | (simp;done) | (simp;omega)) _ | refine Below.alloc ?_ (by first | omega | (simp;done) | (simp;omega)) _ | refine Below.call (by assumption) ?_ (by first | omega | (simp;done) | (simp;omega)))⟩
     by_cases e:j=k
     ·rw [e];exact hpl
     ·exact hall'.out j (by omega)
    case measure=>simp [intOf];omega
  ·have hr:Hid (polysB l=true):=by
    show polysB l=true
    simp only [polysB,decide_eq_true_eq]
    intro j hj
    exact hall j (by omega)
   clear hall
   go_wp2
   go_ret
   exact⟨-1,rfl,by omega,by omega,by rw [hr.out];simp,hB⟩
theorem containsinvl_any (v:Value) (l:List (List Pt)) (w:World) (hr:RocksAt w.heap.size w v l) :
  Calls Tryz.prog 108 #[v,.func (.func 193) #[] #[]] w fun e w'=>e=.returned (.bool (!polysB l))∧Below w.heap.size w w':=by
 go_enter Tryz.func108,Tryz.ntmps108
 go_wp2_with (go_at_call 169;refine (indexinvl_any v l _ hr).mono ?_;rintro e w1 ⟨r,rfl,r1,r2,r3,hb⟩)
 go_ret
 exact⟨by first | rfl | exact ret_bool r3,hb⟩
theorem gvalid_any (v:Value) (l:List (List Pt)) (w:World) (hr:RocksAt w.heap.size w v l) :
  Calls Tryz.prog 106 #[v] w fun e w'=>e=.returned (.bool (regB l))∧Below w.heap.size w w':=by
 have f:=Lib.hid (containsinvl_any v l w hr)
 have HR:Hid (regB l=(decide (l.length≤32) && polysB l)):=rfl
 generalize polysB l=b at *
 obtain⟨hl,a,cap,rfl,hc⟩:=hr
 by_cases h:l.length≤32
 ·have d:decide ((l.length:Int)≤32)=true:=by rw [decide_eq_true_eq];omega
  have g:Hid (∀ w1:World,w1=w→Calls Tryz.prog 168 #[.slice a l.length (l.length+cap)] w fun e w'=>e=.returned (.bool (!b))∧Below w.heap.size w w'):=fun w1 e1=>by
   subst e1
   go_enter Tryz.func168,Tryz.ntmps168
   go_wp2_with fail
   refine f.out.mono ?_
   rintro e w2 ⟨rfl,b2⟩
   go_wp2
   go_ret
   exact⟨rfl,b2⟩
  have HV:=Lib.hid (show regB l=b by rw [HR.out];simp [h])
  go_enter Tryz.func106,Tryz.ntmps106
  go_wp2_with fail
  refine (g.out w rfl).mono ?_
  rintro e w2 ⟨rfl,b2⟩
  go_wp2
  go_ret
  exact⟨by rw [HV.out];simp,b2⟩
 ·have d:decide ((l.length:Int)≤32)=false:=by rw [decide_eq_false_iff_not];omega
  have HV:=Lib.hid (show regB l=false by rw [HR.out];simp [h])
  clear h
  go_enter Tryz.func106,Tryz.ntmps106
  go_wp2
  go_ret
  exact⟨by rw [HV.out];rfl,Below.refl _ _⟩
theorem wthn1_any (v:Value) (l:List Pt) (vq:Value) (q:List Pt) (b0:Nat) (w:World) (hc0:w.cell? ⟨b0,0,none⟩=some vq) (hq:PtsAt w.heap.size w vq q) (hp:PtsAt w.heap.size w v l) :
  Calls Tryz.prog 107 #[v,.pointer (some ⟨b0,0,none⟩)] w fun e w'=>e=.returned (.bool (!withinB l q))∧Below w.heap.size w w':=by
 have f:=Lib.hid (within_any v vq l q w hp hq)
 clear hp
 obtain⟨-,a1,c1,rfl,-⟩:=hq
 generalize withinB l q=b at *
 generalize bothE l q=e0 at *
 go_enter Tryz.func107,Tryz.ntmps107
 go_wp2_with fail
 refine f.out.mono ?_
 rintro e w2 ⟨rfl,b2⟩
 go_wp2
 go_ret
 exact⟨rfl,b2⟩
theorem indexwthn_any (v : Value) (l : List (List Pt)) (vq : Value) (q : List Pt) (b0 : Nat) (w : World) (hr : RocksAt w.heap.size w v l) (hb0 : b0 < w.heap.size) (hc0 : w.cell? ⟨b0, 0, none⟩ = some vq) (hq : PtsAt w.heap.size w vq q) :
  Calls Tryz.prog 169 #[v,.func (.func 107) #[] #[.pointer (some ⟨b0,0,none⟩)]] w (FindQ (!inAll l q) w):=by
 obtain⟨hl,a,cap,rfl,hc⟩:=hr
 go_enter Tryz.func169,Tryz.ntmps169
 go_wp2
 go_loopw [8] (fun i wr=>∃ k:Nat,k≤l.length∧i=.int .i64 k∧(∀ j,j<k→withinB (rk l j) q=true)∧Below w.heap.size w wr) (fun i _=>l.length - (intOf i).toNat)
 case atStart=>exact⟨0,Nat.zero_le _,rfl,fun j h=>by omega,Below.refl _ _⟩
 case round =>
  obtain⟨k,hk,rfl,hall,hB⟩:=hrel
  by_cases hlt:k<l.length
  ·rcases hc with rfl | ⟨b,o,rfl,hb,hc⟩
   ·simp at hlt
   obtain⟨u,hu,hpu⟩:=hc k hlt
   have c1:=(hB.cell (p:=⟨b,o+k,none⟩) hb).trans hu
   have hz:=hB.size
   have f:=Lib.hid (wthn1_any u (rk l k) vq q b0 wr ((hB.cell (p:=⟨b0,0,none⟩) hb0).trans hc0) ((hq.below hB).mono hB.size) ((hpu.below hB).mono hB.size))
   have hall':=Lib.hid hall
   have hc':=Lib.hid hc
   clear hall hc hu hpu
   cases hpl:withinB (rk l k) q
   ·rw [hpl] at f
    have hr:Hid (inAll l q=false):=by
     show inAll l q=false
     simp only [inAll,decide_eq_false_iff_not]
     intro h
     have:=h k hlt
     rw [hpl] at this
     cases this
    go_wp2_with (go_at_call 107;refine (f.out).mono ?_;rintro e w1 ⟨rfl,hb1⟩;have hz1:=hb1.size;try simp at hz1)
    go_ret
    exact⟨k,rfl,by omega,by omega,by rw [hr.out];simp,by repeat (first | exact Below.refl _ _ | assumption | apply Below.drew | refine Below.setCell ?_ (by first | omega | (simp;done) | (simp;omega)) _ | refine Below.alloc ?_ (by first | omega | (simp;done) | (simp;omega)) _ | refine Below.call (by assumption) ?_ (by first | omega | (simp;done) | (simp;omega)))⟩
   ·rw [hpl] at f
    go_wp2_with (go_at_call 107;refine (f.out).mono ?_;rintro e w1 ⟨rfl,hb1⟩;have hz1:=hb1.size;try simp at hz1)
    go_roundw
    case rel =>
     refine⟨k+1,by omega,by go_num,fun j hj=>?_,by repeat (first | exact Below.refl _ _ | assumption | apply Below.drew | refine Below.setCell ?_ (by first | omega | (simp;done) | (simp;omega)) _ | refine Below.alloc ?_ (by first | omega | (simp;done) | (simp;omega)) _ | refine Below.call (by assumption) ?_ (by first | omega | (simp;done) | (simp;omega)))⟩
     by_cases e:j=k
     ·rw [e];exact hpl
     ·exact hall'.out j (by omega)
    case measure=>simp [intOf];omega
  ·have hr:Hid (inAll l q=true):=by
    show inAll l q=true
    simp only [inAll,decide_eq_true_eq]
    intro j hj
    exact hall j (by omega)
   clear hall
   go_wp2
   go_ret
   exact⟨-1,rfl,by omega,by omega,by rw [hr.out];simp,hB⟩
theorem containswthn_any (v:Value) (l:List (List Pt)) (vq:Value) (q:List Pt) (b0:Nat) (w:World) (hr:RocksAt w.heap.size w v l) (hb0:b0<w.heap.size) (hc0:w.cell? ⟨b0,0,none⟩=some vq) (hq:PtsAt w.heap.size w vq q) :
  Calls Tryz.prog 108 #[v,.func (.func 107) #[] #[.pointer (some ⟨b0,0,none⟩)]] w fun e w'=>e=.returned (.bool (!inAll l q))∧Below w.heap.size w w':=by
 go_enter Tryz.func108,Tryz.ntmps108
 go_wp2_with (go_at_call 169;refine (indexwthn_any v l vq q b0 _ hr hb0 hc0 hq).mono ?_;rintro e w1 ⟨r,rfl,r1,r2,r3,hb⟩)
 go_ret
 exact⟨by first | rfl | exact ret_bool r3,hb⟩
noncomputable def rwB (r:List (List Pt)) (p:List Pt):Bool:=regB r && (goValid p && inAll r p)
noncomputable def rwE (r:List (List Pt)) (p:List Pt):Int:=if regB r && goValid p then 0 else 1
theorem gwithin_any (vr:Value) (r:List (List Pt)) (vp:Value) (p:List Pt) (w:World) (hr:RocksAt w.heap.size w vr r) (hp:PtsAt w.heap.size w vp p) :
  Calls Tryz.prog 53 #[vr,vp] w fun e w'=>e=.returned (.tuple #[.bool (rwB r p),.int .i64 (rwE r p)])∧Below w.heap.size w w':=by
 have f1:=fun w1 (B:Below w.heap.size w w1)=>gvalid_any vr r w1 ((hr.below B).mono B.size)
 have f2:=fun w1 (B:Below w.heap.size w w1)=>hullValid_any vp p w1 ((hp.below B).mono B.size)
 have f3:=fun w1 (B:Below w.heap.size w w1) hb hc=>containswthn_any vr r vp p w.heap.size w1 ((hr.below B).mono B.size) hb hc ((hp.below B).mono B.size)
 have H1:Hid (rwB r p=(regB r && (goValid p && inAll r p))):=rfl
 have H2:Hid (rwE r p=if regB r && goValid p then 0 else 1):=rfl
 generalize rwB r p=x at *
 generalize rwE r p=y at *
 generalize regB r=b1 at *
 generalize goValid p=b2 at *
 generalize inAll r p=b3 at *
 obtain⟨-,a1,cap1,rfl,-⟩:=hr
 obtain⟨-,a2,cap2,rfl,-⟩:=hp
 replace f1:=Lib.hid f1
 replace f2:=Lib.hid f2
 replace f3:=Lib.hid f3
 have BW:=Lib.hid (Below.refl w.heap.size w)
 go_enter Tryz.func53,Tryz.ntmps53
 go_wp2_with fail
 generalize hXX0:World.alloc w _=X0
 obtain⟨q0,hA,hzX0⟩:=box1 hXX0
 clear hXX0
 have BW:=Lib.hid hA
 clear hA
 have PB:=Lib.hid q0
 clear q0
 refine (f1.out _ BW.out).mono ?_
 rintro e w1 ⟨rfl,b1⟩
 replace BW:=Lib.hid (BW.out.trans (b1.mono BW.out.size))
 have B_X0:=Lib.hid b1
 clear b1
 have x0:=(PB.out.below B_X0.out PB.out.lt).cell (i:=0) rfl
 cases b1
 ·go_wp2
  go_ret2
  exact⟨by rw [H1.out,H2.out];rfl,BW.out⟩
 go_wp2_with fail
 refine (f2.out _ BW.out).mono ?_
 rintro e w2 ⟨rfl,b2⟩
 replace BW:=Lib.hid (BW.out.trans (b2.mono BW.out.size))
 replace B_X0:=Lib.hid (B_X0.out.trans (b2.mono B_X0.out.size))
 clear b2
 clear x0
 cases b2
 ·go_wp2
  go_ret2
  exact⟨by rw [H1.out,H2.out];rfl,BW.out⟩
 go_wp2_with fail
 refine (f3.out _ BW.out (PB.out.below B_X0.out PB.out.lt).lt ((PB.out.below B_X0.out PB.out.lt).cell (i:=0) rfl)).mono ?_
 rintro e w3 ⟨rfl,b3⟩
 replace BW:=Lib.hid (BW.out.trans (b3.mono BW.out.size))
 replace B_X0:=Lib.hid (B_X0.out.trans (b3.mono B_X0.out.size))
 clear b3
 go_wp2
 go_ret2
 exact⟨by rw [H1.out,H2.out];simp,BW.out⟩
theorem sindex_any (v : Value) (l : List Int) (x : Int) (w : World) (hl : IntsAt w.heap.size w v l) :
  Calls Tryz.prog 160 #[v,.int .i64 x] w (FindQ (decide (x ∈ l)) w):=by
 obtain⟨hl,a,cap,rfl,hc⟩:=hl
 go_enter Tryz.func160,Tryz.ntmps160
 go_wp2
 go_loopw [8] (fun i wr=>∃ k:Nat,k≤l.length∧i=.int .i64 k∧(∀ j,j<k→l.getD j 0≠x)∧wr=w) (fun i _=>l.length - (intOf i).toNat)
 case atStart=>exact⟨0,Nat.zero_le _,rfl,fun j h=>by omega,rfl⟩
 case round =>
  obtain⟨k,hk,rfl,hall,hB⟩:=hrel
  subst hB
  by_cases hlt:k<l.length
  ·rcases hc with rfl | ⟨b,o,rfl,hb,hc⟩
   ·simp at hlt
   have c1:=hc k hlt
   have hall':=Lib.hid hall
   have hc':=Lib.hid hc
   have hg:l.getD k 0 ∈ l:=by rw [List.getD,List.getElem?_eq_getElem hlt];exact List.getElem_mem hlt
   obtain⟨y,hy0⟩:∃ y,l.getD k 0=y:=⟨_,rfl⟩
   rw [hy0] at c1 hg
   have HY:=Lib.hid hy0
   clear hall hc hy0
   by_cases hy:x=y
   ·have dy:(x == y)=true:=by rw [beq_iff_eq];exact hy
    have hr:=Lib.hid (show decide (x ∈ l)=true by rw [decide_eq_true_eq,hy];exact hg)
    clear hg hy
    go_wp2
    go_ret
    exact⟨k,rfl,by omega,by omega,by rw [hr.out];simp,Below.refl _ _⟩
   ·have dy:(x == y)=false:=by rw [beq_eq_false_iff_ne];exact hy
    have hyy:=Lib.hid hy
    clear hg hy
    go_wp2
    go_roundw
    case rel =>
     refine⟨k+1,by omega,by go_num,fun j hj=>?_,by first | rfl | trivial⟩
     by_cases e:j=k
     ·rw [e,HY.out];exact fun h=>hyy.out h.symm
     ·exact hall'.out j (by omega)
    case measure=>simp [intOf];omega
  ·have hr:Hid (decide (x ∈ l)=false):=by
    show decide (x ∈ l)=false
    rw [decide_eq_false_iff_not]
    intro h
    obtain⟨j,hj,rfl⟩:=List.getElem_of_mem h
    exact hall j (by omega) (by rw [List.getD,List.getElem?_eq_getElem hj];rfl)
   clear hall
   go_wp2
   go_ret
   exact⟨-1,rfl,by omega,by omega,by rw [hr.out];simp,Below.refl _ _⟩
theorem scontains_any (v:Value) (l:List Int) (x:Int) (w:World) (hl:IntsAt w.heap.size w v l) :
  Calls Tryz.prog 95 #[v,.int .i64 x] w fun e w'=>e=.returned (.bool (decide (x ∈ l)))∧Below w.heap.size w w':=by
 go_enter Tryz.func95,Tryz.ntmps95
 go_wp2_with (go_at_call 160;refine (sindex_any _ _ _ _ hl).mono ?_;rintro e w1 ⟨r,rfl,r1,r2,r3,hb⟩)
 go_ret
 exact⟨by first | rfl | exact ret_bool r3,hb⟩
end Go.Proofs.YtpimbaaahcemhaaGreat
namespace Go.Proofs.YtpimbaaahcemhaaGreat
open Go.RowKit
attribute [local irreducible] wpQuiet
theorem rdAU_length (m:Msn) (l:List Int):(rdAU m l).length=m.ways.length:=by unfold rdAU;exact upto_length _ _
theorem usedT_length (m:Msn) (l:List Int):(usedT m l).length=m.ways.length:=by unfold usedT;exact upto_length _ _
theorem upto_getD (f:Nat→Int) {n j:Nat} (h:j<n):(upto f n).getD j 0=f j:=by simp [upto,List.getD,h]
theorem ints_cells0 {n0:Nat} {W:World} {v:Value} {l:List Int} (h:IntsAt n0 W v l) (h0:0<l.length):∃ b o cap,v=.slice (some ⟨b,o,none⟩) l.length (l.length+cap)∧b<n0∧∀ j,j<l.length→W.cell? ⟨b,o+j,none⟩=some (.int .i64 (l.getD j 0)):=by
 obtain⟨_,a,cap,e,hc⟩:=h
 rcases hc with rfl | ⟨b,o,rfl,hb,hc⟩
 ·simp at h0
 ·exact⟨b,o,cap,e,hb,hc⟩
end Go.Proofs.YtpimbaaahcemhaaGreat
namespace Go.Proofs.YtpimbaaahcemhaaGreat
open Go.RowKit
attribute [local irreducible] wpQuiet
structure TripAt (n0:Nat) (W:World) (m:Msn) (l:List Int) (vw vh vr vb va vt ve:Value):Prop where
 msn:MsnAt n0 W m vw vh vr
 bef:IntsAt n0 W vb (rdBU m l)
 aft:IntsAt n0 W va (rdAU m l)
 tim:IntsAt n0 W vt (usedT m l)
 ene:IntsAt n0 W ve (usedE m l)
theorem TripAt.up {A B:World} {m:Msn} {l:List Int} {vw vh vr vb va vt ve:Value} (h:TripAt A.heap.size A m l vw vh vr vb va vt ve) (k:Below A.heap.size A B):TripAt B.heap.size B m l vw vh vr vb va vt ve :=
 ⟨(h.msn.below k).mono k.size,(h.bef.below k).mono k.size,(h.aft.below k).mono k.size,(h.tim.below k).mono k.size,(h.ene.below k).mono k.size⟩
theorem rdBU_length (m:Msn) (l:List Int):(rdBU m l).length=m.ways.length:=by unfold rdBU;exact upto_length _ _
theorem rdB_getD {m:Msn} {l:List Int} {k:Nat} (h:k<m.ways.length):(rdBU m l).getD k 0=rdB m l k:=by rw [rdBU,upto_getD _ h]
theorem rdA_getD {m:Msn} {l:List Int} {k:Nat} (h:k<m.ways.length):(rdAU m l).getD k 0=rdA m l k:=by rw [rdAU,upto_getD _ h]
set_option linter.unusedSimpArgs false in
set_option linter.unusedVariables false in
set_option maxRecDepth 8000 in
set_option maxHeartbeats 1600000 in
theorem tclear_any (m:Msn) (l:List Int) (vw vh vr vb va vt ve:Value) (w:World) (T:TripAt w.heap.size w m l vw vh vr vb va vt ve) (a b:Nat) (u v:Int) (ha:a<m.ways.length) (hb:b<m.ways.length) (n41:m.ways.length≤41) :
  Calls Tryz.prog 116 #[.agg (tripCells m vw vh vr vb va vt ve),.int .i64 a,.int .i64 u,.int .i64 b,.int .i64 v] w fun e w'=>e=.returned (.bool (clrB m a u b v))∧Below w.heap.size w w':=by
 have f1:=fun w1=>corridor_any ⟨(wy m.ways a).x,(wy m.ways a).y⟩ ⟨(wy m.ways b).x,(wy m.ways b).y⟩ u v w1
 have f2:=fun vc w1 (B:Below w.heap.size w w1) h=>first_any vc vr (corL ⟨(wy m.ways a).x,(wy m.ways a).y⟩ u ⟨(wy m.ways b).x,(wy m.ways b).y⟩ v) m.rocks w1 h (((T.msn.2.2).below B).mono B.size)
 unfold clrB atW
 obtain⟨⟨-,a1,c1,rfl,hcw⟩,⟨-,a2,c2,rfl,-⟩,⟨-,a3,c3,rfl,-⟩⟩:=T.msn
 obtain⟨-,ab,cb,rfl,-⟩:=T.bef
 obtain⟨-,aa,ca,rfl,-⟩:=T.aft
 obtain⟨-,at',ct,rfl,-⟩:=T.tim
 obtain⟨-,ae,ce,rfl,-⟩:=T.ene
 obtain⟨bw,ow,rfl,hbw,hcw⟩:=hcw.resolve_left (by intro h;rw [h] at ha;simp at ha)
 obtain⟨x1,x2,-⟩:=hcw a ha
 obtain⟨x3,x4,-⟩:=hcw b hb
 clear T hcw
 unfold tripCells at *
 generalize corL ⟨(wy m.ways a).x,(wy m.ways a).y⟩ u ⟨(wy m.ways b).x,(wy m.ways b).y⟩ v=cl at *
 generalize corE ⟨(wy m.ways a).x,(wy m.ways a).y⟩ u ⟨(wy m.ways b).x,(wy m.ways b).y⟩ v=ce at *
 simp only at f1
 obtain⟨px,h1⟩:∃ x,(wy m.ways a).x=x:=⟨_,rfl⟩
 obtain⟨py,h2⟩:∃ x,(wy m.ways a).y=x:=⟨_,rfl⟩
 obtain⟨qx,h3⟩:∃ x,(wy m.ways b).x=x:=⟨_,rfl⟩
 obtain⟨qy,h4⟩:∃ x,(wy m.ways b).y=x:=⟨_,rfl⟩
 rw [h1,h2,h3,h4] at f1
 rw [h1] at x1
 rw [h2] at x2
 rw [h3] at x3
 rw [h4] at x4
 clear h1 h2 h3 h4
 generalize firB cl m.rocks=fb at *
 generalize firI cl m.rocks=fi at *
 generalize firE cl m.rocks=fe at *
 replace f1:=Lib.hid f1
 replace f2:=Lib.hid f2
 have ha':(a:Int)<m.ways.length:=by omega
 have hb':(b:Int)<m.ways.length:=by omega
 have ha0:(0:Int)≤a:=by omega
 have hb0:(0:Int)≤b:=by omega
 have BW:=Lib.hid (Below.refl w.heap.size w)
 go_enter Tryz.func116,Tryz.ntmps116
 go_upto_region 1 with fail
 generalize hXX0:World.alloc w _=X0
 obtain⟨q0,hA,hzX0⟩:=box1 hXX0
 clear hXX0
 have BW:=Lib.hid hA
 clear hA
 have RB:=Lib.hid q0
 clear q0
 replace x1:=(BW.out.cell (p:=⟨bw,ow+a*5,none⟩) hbw).trans x1
 replace x2:=(BW.out.cell (p:=⟨bw,ow+a*5+1,none⟩) hbw).trans x2
 replace x3:=(BW.out.cell (p:=⟨bw,ow+b*5,none⟩) hbw).trans x3
 replace x4:=(BW.out.cell (p:=⟨bw,ow+b*5+1,none⟩) hbw).trans x4
 have x0:=RB.out.cell (i:=0) rfl
 refine (wpIn_wide (n:=9)).1 ?_
 refine wpIn_region_sched (lets_wide _) 21 (fun X=>Below X0.heap.size X0 X) (by kernel_rfl) (by kernel_rfl) (by kernel_rfl) fun hH inv0=>?_
 have hD:=Below.drew (Below.refl X0.heap.size X0)
 generalize hXX1:X0.drew=X1 at *
 clear hXX1
 replace BW:=Lib.hid (BW.out.trans (hD.mono BW.out.size))
 have B_X0:=Lib.hid hD
 clear hD
 refine sched_take hH (i:=0) (v:=.pointer (some ⟨w.heap.size,0,none⟩)) (drop_get rfl) (by omega) inv0 (by kernel_rfl) (by kernel_rfl) rfl (fun X hX=>?_) fun inv1=>?_
 ·go_simp
 simp only [Act.put,List.setIfInBounds_toArray,List.set_cons_zero,List.set_cons_succ]
 clear inv0
 refine sched_take hH (i:=1) (v:=.pointer (some ⟨w.heap.size,0,none⟩)) (drop_get rfl) (by omega) inv1 (by kernel_rfl) (by kernel_rfl) rfl (fun X hX=>?_) fun inv2=>?_
 ·go_simp
 simp only [Act.put,List.setIfInBounds_toArray,List.set_cons_zero,List.set_cons_succ]
 clear inv1
 refine sched_take hH (i:=2) (v:=.slice (some ⟨bw,ow,none⟩) m.ways.length (m.ways.length+c1)) (drop_get rfl) (by omega) inv2 (by kernel_rfl) (by kernel_rfl) rfl (fun X hX=>?_) fun inv3=>?_
 ·have r0:=(hX.cell (p:=⟨w.heap.size,0,none⟩) (World.block_lt_of_cell? _ _ x0)).trans x0;go_simp
 simp only [Act.put,List.setIfInBounds_toArray,List.set_cons_zero,List.set_cons_succ]
 clear inv2
 refine sched_take hH (i:=3) (v:=.int .i64 (a:Int)) (drop_get rfl) (by omega) inv3 (by kernel_rfl) (by kernel_rfl) rfl (fun X hX=>?_) fun inv4=>?_
 ·go_simp
 simp only [Act.put,List.setIfInBounds_toArray,List.set_cons_zero,List.set_cons_succ]
 clear inv3
 refine sched_take hH (i:=4) (v:=.pointer (some ⟨bw,ow+a*5,none⟩)) (drop_get rfl) (by omega) inv4 (by kernel_rfl) (by kernel_rfl) rfl (fun X hX=>?_) fun inv5=>?_
 ·go_simp
 simp only [Act.put,List.setIfInBounds_toArray,List.set_cons_zero,List.set_cons_succ]
 clear inv4
 refine sched_take hH (i:=5) (v:=.pointer (some ⟨bw,ow+a*5,none⟩)) (drop_get rfl) (by omega) inv5 (by kernel_rfl) (by kernel_rfl) rfl (fun X hX=>?_) fun inv6=>?_
 ·go_simp
 simp only [Act.put,List.setIfInBounds_toArray,List.set_cons_zero,List.set_cons_succ]
 clear inv5
 refine sched_take hH (i:=6) (v:=.agg #[.int .i64 px,.int .i64 py]) (drop_get rfl) (by omega) inv6 (by kernel_rfl) (by kernel_rfl) rfl (fun X hX=>?_) fun inv7=>?_
 ·have r0:=(hX.cell (p:=⟨bw,ow+a*5,none⟩) (World.block_lt_of_cell? _ _ x1)).trans x1;have r1:=(hX.cell (p:=⟨bw,ow+a*5+1,none⟩) (World.block_lt_of_cell? _ _ x2)).trans x2;go_simp
 simp only [Act.put,List.setIfInBounds_toArray,List.set_cons_zero,List.set_cons_succ]
 clear inv6
 refine sched_take hH (i:=7) (v:=.int .i64 u) (drop_get rfl) (by omega) inv7 (by kernel_rfl) (by kernel_rfl) rfl (fun X hX=>?_) fun inv8=>?_
 ·go_simp
 simp only [Act.put,List.setIfInBounds_toArray,List.set_cons_zero,List.set_cons_succ]
 clear inv7
 refine sched_take hH (i:=8) (v:=.pointer (some ⟨w.heap.size,0,none⟩)) (drop_get rfl) (by omega) inv8 (by kernel_rfl) (by kernel_rfl) rfl (fun X hX=>?_) fun inv9=>?_
 ·go_simp
 simp only [Act.put,List.setIfInBounds_toArray,List.set_cons_zero,List.set_cons_succ]
 clear inv8
 refine sched_take hH (i:=9) (v:=.pointer (some ⟨w.heap.size,0,none⟩)) (drop_get rfl) (by omega) inv9 (by kernel_rfl) (by kernel_rfl) rfl (fun X hX=>?_) fun inv10=>?_
 ·go_simp
 simp only [Act.put,List.setIfInBounds_toArray,List.set_cons_zero,List.set_cons_succ]
 clear inv9
 refine sched_take hH (i:=10) (v:=.slice (some ⟨bw,ow,none⟩) m.ways.length (m.ways.length+c1)) (drop_get rfl) (by omega) inv10 (by kernel_rfl) (by kernel_rfl) rfl (fun X hX=>?_) fun inv11=>?_
 ·have r0:=(hX.cell (p:=⟨w.heap.size,0,none⟩) (World.block_lt_of_cell? _ _ x0)).trans x0;go_simp
 simp only [Act.put,List.setIfInBounds_toArray,List.set_cons_zero,List.set_cons_succ]
 clear inv10
 refine sched_take hH (i:=11) (v:=.int .i64 (b:Int)) (drop_get rfl) (by omega) inv11 (by kernel_rfl) (by kernel_rfl) rfl (fun X hX=>?_) fun inv12=>?_
 ·go_simp
 simp only [Act.put,List.setIfInBounds_toArray,List.set_cons_zero,List.set_cons_succ]
 clear inv11
 refine sched_take hH (i:=12) (v:=.pointer (some ⟨bw,ow+b*5,none⟩)) (drop_get rfl) (by omega) inv12 (by kernel_rfl) (by kernel_rfl) rfl (fun X hX=>?_) fun inv13=>?_
 ·go_simp
 simp only [Act.put,List.setIfInBounds_toArray,List.set_cons_zero,List.set_cons_succ]
 clear inv12
 refine sched_take hH (i:=13) (v:=.pointer (some ⟨bw,ow+b*5,none⟩)) (drop_get rfl) (by omega) inv13 (by kernel_rfl) (by kernel_rfl) rfl (fun X hX=>?_) fun inv14=>?_
 ·go_simp
 simp only [Act.put,List.setIfInBounds_toArray,List.set_cons_zero,List.set_cons_succ]
 clear inv13
 refine sched_take hH (i:=14) (v:=.agg #[.int .i64 qx,.int .i64 qy]) (drop_get rfl) (by omega) inv14 (by kernel_rfl) (by kernel_rfl) rfl (fun X hX=>?_) fun inv15=>?_
 ·have r0:=(hX.cell (p:=⟨bw,ow+b*5,none⟩) (World.block_lt_of_cell? _ _ x3)).trans x3;have r1:=(hX.cell (p:=⟨bw,ow+b*5+1,none⟩) (World.block_lt_of_cell? _ _ x4)).trans x4;go_simp
 simp only [Act.put,List.setIfInBounds_toArray,List.set_cons_zero,List.set_cons_succ]
 clear inv14
 refine sched_take hH (i:=15) (v:=.int .i64 v) (drop_get rfl) (by omega) inv15 (by kernel_rfl) (by kernel_rfl) rfl (fun X hX=>?_) fun inv16=>?_
 ·go_simp
 simp only [Act.put,List.setIfInBounds_toArray,List.set_cons_zero,List.set_cons_succ]
 clear inv15
 have inv17:=HeadInv.put2 inv16 (j:=16) (by kernel_rfl) (by omega)
 clear inv16
 refine sched_all (rs:=[16]) (by kernel_rfl) (by simp) B_X0.out (by simp) (fun i hi'=>?_)
 simp only [List.mem_cons,List.not_mem_nil,or_false] at hi'
 subst hi'
 refine okOp_call (drop_get rfl) rfl (f:=25) (args:=#[.agg #[.int .i64 px,.int .i64 py],.int .i64 u,.agg #[.int .i64 qx,.int .i64 qy],.int .i64 v]) (by go_simp) (f1.out X1) ?_
 rintro e w1 ⟨v1,rfl,p1,b1⟩
 refine⟨_,rfl,?_⟩
 simp only [Act.put,List.setIfInBounds_toArray,List.set_cons_zero,List.set_cons_succ]
 replace BW:=Lib.hid (BW.out.trans (b1.mono BW.out.size))
 replace B_X0:=Lib.hid (B_X0.out.trans (b1.mono B_X0.out.size))
 clear b1
 have P1:=Lib.hid p1
 clear p1
 refine sched_take hH (i:=17) (v:=.tuple #[v1,.int .i64 ce]) (drop_get rfl) (by omega) inv17 (by kernel_rfl) (by kernel_rfl) rfl (fun X hX=>?_) fun inv18=>?_
 ·go_simp
 simp only [Act.put,List.setIfInBounds_toArray,List.set_cons_zero,List.set_cons_succ]
 clear inv17
 refine sched_take hH (i:=18) (v:=v1) (drop_get rfl) (by omega) inv18 (by kernel_rfl) (by kernel_rfl) rfl (fun X hX=>?_) fun inv19=>?_
 ·go_simp
 simp only [Act.put,List.setIfInBounds_toArray,List.set_cons_zero,List.set_cons_succ]
 clear inv18
 refine sched_take hH (i:=19) (v:=.int .i64 ce) (drop_get rfl) (by omega) inv19 (by kernel_rfl) (by kernel_rfl) rfl (fun X hX=>?_) fun inv20=>?_
 ·go_simp
 simp only [Act.put,List.setIfInBounds_toArray,List.set_cons_zero,List.set_cons_succ]
 clear inv19
 refine sched_take hH (i:=20) (v:=v1) (drop_get rfl) (by omega) inv20 (by kernel_rfl) (by kernel_rfl) rfl (fun X hX=>?_) fun inv21=>?_
 ·go_simp
 simp only [Act.put,List.setIfInBounds_toArray,List.set_cons_zero,List.set_cons_succ]
 clear inv20
 clear inv21 hH
 refine sched_done (by kernel_rfl) B_X0.out ?_
 simp only [List.drop_succ_cons,List.drop_zero]
 obtain⟨g1,d1,hv1⟩:=P1.out.len
 subst hv1
 clear x0 x1 x2 x3 x4
 have x3:=(RB.out.below B_X0.out RB.out.lt).cell (i:=3) rfl
 gi_wp2
 go_wp2_with fail
 refine (f2.out _ _ BW.out P1.out).mono ?_
 rintro e w2 ⟨rfl,b2⟩
 replace BW:=Lib.hid (BW.out.trans (b2.mono BW.out.size))
 replace B_X0:=Lib.hid (B_X0.out.trans (b2.mono B_X0.out.size))
 have B_w1:=Lib.hid b2
 clear b2
 cases fb
 all_goals
  go_wp2
  go_ret
  exact⟨rfl,BW.out⟩
set_option linter.unusedSimpArgs false in
set_option linter.unusedVariables false in
set_option maxRecDepth 8000 in
set_option maxHeartbeats 3200000 in
theorem tback_any (m : Msn) (l : List Int) (vw vh vr vb va vt ve : Value) (w : World) (T : TripAt w.heap.size w m l vw vh vr vb va vt ve) (V : VMsn m) (k : Nat) (hk : k < m.ways.length) :
  Calls Tryz.prog 113 #[.agg (tripCells m vw vh vr vb va vt ve),.int .i64 k] w fun e w'=>e=.returned (.tuple #[.bool (bkC m k (rdB m l k) (dep m k)),.int .i64 (bkR m k (rdB m l k) (dep m k))])∧Below w.heap.size w w':=by
 have hV:=(validB_iff m).2 V
 have n41:=V.n41
 have fr:=fun w1 (B:Below w.heap.size w w1)=>route_all m vw vh vr k w1 ((T.msn.below B).mono B.size)
 rw [(route_nat hV hk).1,(route_nat hV hk).2] at fr
 have fl:=fun w1 (B:Below w.heap.size w w1) (i j:Nat) hi hj=>leg_nat (m:=m) (a:=i) (b:=j) hV hi hj ▸ leg_all m vw vh vr i j w1 ((T.msn.below B).mono B.size)
 have fc:=fun w1 (B:Below w.heap.size w w1) (i j:Nat) u v hi hj=>tclear_any m l vw vh vr vb va vt ve w1 (T.up B) i j u v hi hj n41
 have rb:=fun j (hj:j≤dep m k)=>bk_bd V l hk hj
 have hlt:=fun j (hj:j≤dep m k)=>itB_lt V.ways hk hj
 have hgb:=fun i j hi hj=>gLeg_bd V.leg V.ways (i:=i) (j:=j) hi hj
 have hd:=dep_le V.ways hk
 obtain⟨bb,ob,cb,rfl,hbb,hcb⟩:=ints_cells0 T.bef (by rw [rdBU_length];omega)
 simp only [rdBU_length] at hcb fc ⊢
 have xb:=(hcb k hk).trans (by rw [rdB_getD hk])
 obtain⟨⟨-,a1,c1,rfl,-⟩,⟨-,a2,c2,rfl,-⟩,⟨-,a3,c3,rfl,-⟩⟩:=T.msn
 obtain⟨-,aa,ca,rfl,-⟩:=T.aft
 obtain⟨-,at',ct,rfl,-⟩:=T.tim
 obtain⟨-,ae,ce,rfl,-⟩:=T.ene
 have hlen:(intL (upto (itB m k) (dep m k+1))).length=dep m k+1:=by simp [intL,upto]
 obtain⟨n,hn⟩:∃ n,dep m k=n:=⟨_,rfl⟩
 simp only [hn] at fr rb hlt hd hlen ⊢
 clear T hcb hV V hn
 unfold tripCells msnCells at *
 replace fr:=Lib.hid fr
 replace fl:=Lib.hid fl
 replace fc:=Lib.hid fc
 replace rb:=Lib.hid rb
 replace hlt:=Lib.hid hlt
 replace hgb:=Lib.hid hgb
 have hlen':=Lib.hid hlen
 clear hlen
 have hk':(k:Int)<m.ways.length:=by omega
 have hk0:(0:Int)≤k:=by omega
 have hr0:Hid (bkR m k (rdB m l k) 0=rdB m l k):=rfl
 generalize hrr:rdB m l k=r0 at *
 clear hrr
 have BW:=Lib.hid (Below.refl w.heap.size w)
 go_enter Tryz.func113,Tryz.ntmps113
 go_wp2_with fail
 generalize hXX0:World.alloc w _=X0
 obtain⟨q0,hA,hzX0⟩:=box1 hXX0
 clear hXX0
 have BW:=Lib.hid hA
 clear hA
 have RB:=Lib.hid q0
 clear q0
 refine (fr.out _ BW.out).mono ?_
 rintro e w1 ⟨v1,rfl,p1,b1⟩
 replace BW:=Lib.hid (BW.out.trans (b1.mono BW.out.size))
 have B_X0:=Lib.hid b1
 clear b1
 obtain⟨b2,o2,cap4,hv1,hb2,hc2⟩:=ints_cells p1 hlen'.out
 subst hv1
 clear p1
 replace xb:=(BW.out.cell (p:=⟨bb,ob+k,none⟩) hbb).trans xb
 have RX:=Lib.hid (RB.out.below B_X0.out RB.out.lt)
 have x11:=RX.out.cell (i:=11) rfl
 have BX:=Lib.hid BW.out
 have hc2':=Lib.hid hc2
 clear hc2
 have hz1:=RX.out.lt
 go_wp2
 clear x11 xb
 go_loopw [8,9,10] (fun r c i wr=>∃ j:Nat,j≤n∧r=.int .i64 (bkR m k r0 j)∧c=.bool (bkC m k r0 j)∧i=.int .i64 ((j:Int)+1)∧Below w1.heap.size w1 wr) (fun _ _ i _=>n+1 - (intOf i).toNat)
 case atStart=>exact⟨0,Nat.zero_le _,rfl,rfl,rfl,Below.refl _ _⟩
 case round =>
  obtain⟨j,hj,rfl,rfl,rfl,hB⟩:=hrel
  obtain⟨wo,hwo⟩:∃ x,x=wr:=⟨_,rfl⟩
  subst hwo
  have BO:=BX.out.trans (hB.mono BX.out.size)
  have BB:=Lib.hid (And.intro hB BO)
  clear hB BO
  by_cases hjn:j<n
  ·have h1:=hlt.out j (by omega)
   have h2:=hlt.out (j+1) (by omega)
   have r1:=rb.out j (by omega)
   have r2:=rb.out (j+1) (by omega)
   have y1:=hc2'.out j (by omega)
   have y2:=hc2'.out (j+1) (by omega)
   rw [route_get (by omega)] at y1 y2
   replace y1:=(BB.out.1.cell (p:=⟨b2,o2+j,none⟩) hb2).trans y1
   replace y2:=(BB.out.1.cell (p:=⟨b2,o2+(j+1),none⟩) hb2).trans y2
   have RR:=RX.out.below BB.out.1 RX.out.lt
   have gl:=Lib.hid (fun w2 (B:Low wo w2)=>fl.out w2 (BB.out.2.trans (B.out.mono BB.out.2.size)) _ _ h1 h2)
   have gc:=Lib.hid (fun w2 (B:Low wo w2)=>fc.out w2 (BB.out.2.trans (B.out.mono BB.out.2.size)) _ _ (bkR m k r0 j) (bkR m k r0 (j+1)) h1 h2)
   have s1:Hid (bkR m k r0 (j+1)=bkR m k r0 j+gLeg m (itB m k j) (itB m k (j+1))):=rfl
   have s2:Hid (bkC m k r0 (j+1)=(bkC m k r0 j && clrB m (itB m k j) (bkR m k r0 j) (itB m k (j+1)) (bkR m k r0 (j+1)))):=rfl
   have gb:=hgb.out _ _ h1 h2
   have jl:(j:Int)+1<(n:Int)+1:=by omega
   have jl1:(j:Int)<(n:Int)+1:=by omega
   have jl0:(0:Int)≤(j:Int)+1:=by omega
   have jw:IntKind.i64.wrap (j:Int)=(j:Int):=IntWalk.i64_in _ (by omega)
   obtain⟨ra,hra⟩:∃ x,bkR m k r0 j=x:=⟨_,rfl⟩
   obtain⟨rc,hrc⟩:∃ x,bkR m k r0 (j+1)=x:=⟨_,rfl⟩
   obtain⟨ca,hca⟩:∃ x,bkC m k r0 j=x:=⟨_,rfl⟩
   simp only [hra,hrc,hca] at r1 r2 gc s1 s2 ⊢
   generalize itB m k j=p1 at *
   generalize itB m k (j+1)=p2 at *
   generalize gLeg m p1 p2=gg at *
   generalize dLeg m p1 p2=dd at *
   generalize tLeg m p1 p2=tt at *
   generalize clrB m p1 ra p2 rc=cc at *
   have rw1:IntKind.i64.wrap (ra+gg)=rc:=by rw [← s1.out];exact IntWalk.i64_in _ (by omega)
   have z1:=Low.fact y1
   have z2:=Low.fact y2
   have hs12:=Lib.hid (And.intro s1.out s2.out)
   clear s1 s2 y1 y2 h1 h2 r1 r2 gb
   go_wp2
   have q0:=Low.fact (RR.cell (i:=0) rfl)
   have q1:=Low.fact (RR.cell (i:=1) rfl)
   have q2:=Low.fact (RR.cell (i:=2) rfl)
   have q3:=Low.fact (RR.cell (i:=3) rfl)
   have q4:=Low.fact (RR.cell (i:=4) rfl)
   have q5:=Low.fact (RR.cell (i:=5) rfl)
   have q6:=Low.fact (RR.cell (i:=6) rfl)
   have q7:=Low.fact (RR.cell (i:=7) rfl)
   have q8:=Low.fact (RR.cell (i:=8) rfl)
   have q9:=Low.fact (RR.cell (i:=9) rfl)
   have q10:=Low.fact (RR.cell (i:=10) rfl)
   have q11:=Low.fact (RR.cell (i:=11) rfl)
   have q12:=Low.fact (RR.cell (i:=12) rfl)
   have q13:=Low.fact (RR.cell (i:=13) rfl)
   have q14:=Low.fact (RR.cell (i:=14) rfl)
   (refine wp_region_low (by kernel_rfl) (by kernel_rfl) ?_;(iterate 21 (apply quiet_want;(case hw=>rfl);(case hval=>(intro w1 hw1;have hcx:=Low.cells hw1;simp only [Oper.quietAt];go_simp;first | done | (first | (go_at_call 43;exact Low.calls hw1 (gl.out _ hw1))) | rfl | exact⟨rfl,rfl⟩));simp only [Act.put,List.setIfInBounds_toArray,List.set_cons_zero,List.set_cons_succ]));refine wpQuiet_nil ?_;intro w2 hw2)
   clear gl
   obtain⟨wa,hwa⟩:∃ x,x=w2:=⟨_,rfl⟩
   subst hwa
   have hw:=Lib.hid hw2
   clear hw2
   cases ca
   ·have BB2:=Lib.hid (And.intro (BB.out.1.trans (hw.out.out.mono BB.out.1.size)) (BB.out.2.trans (hw.out.out.mono BB.out.2.size)))
    clear gc
    go_wp2
    (refine wp_region_low (by kernel_rfl) (by kernel_rfl) ?_;(iterate 2 (apply quiet_want;(case hw=>rfl);(case hval=>(intro w1 hw1;have hcx:=Low.cells hw1;simp only [Oper.quietAt];go_simp;first | done | (first | fail) | rfl | exact⟨rfl,rfl⟩));simp only [Act.put,List.setIfInBounds_toArray,List.set_cons_zero,List.set_cons_succ]));(iterate 15 (apply quiet_skip;(case hw=>rfl);simp only [Act.put,List.setIfInBounds_toArray,List.set_cons_zero,List.set_cons_succ]));(iterate 2 (apply quiet_want;(case hw=>rfl);(case hval=>(intro w1 hw1;have hcx:=Low.cells hw1;simp only [Oper.quietAt];go_simp;first | done | (first | fail) | rfl | exact⟨rfl,rfl⟩));simp only [Act.put,List.setIfInBounds_toArray,List.set_cons_zero,List.set_cons_succ]));refine wpQuiet_nil ?_;intro w2 hw2)
    have BB3:=Lib.hid (And.intro (BB2.out.1.trans (hw2.out.mono BB2.out.1.size)) (BB2.out.2.trans (hw2.out.mono BB2.out.2.size)))
    go_wp2
    go_roundw
    case rel=>exact⟨j+1,by omega,by rw [hrc],by rw [hs12.out.2];rfl,by go_num,BB3.out.1⟩
    case measure=>simp [intOf];omega
   ·have gc2:=Lib.hid (fun w3 (B:Low wa w3)=>gc.out w3 (hw.out.out.trans (B.out.mono hw.out.out.size)))
    have BB2:=Lib.hid (And.intro (BB.out.1.trans (hw.out.out.mono BB.out.1.size)) (BB.out.2.trans (hw.out.out.mono BB.out.2.size)))
    replace z1:=Low.fact (z1 _ hw.out)
    replace z2:=Low.fact (z2 _ hw.out)
    replace q0:=Low.fact (q0 _ hw.out)
    replace q1:=Low.fact (q1 _ hw.out)
    replace q2:=Low.fact (q2 _ hw.out)
    replace q3:=Low.fact (q3 _ hw.out)
    replace q4:=Low.fact (q4 _ hw.out)
    replace q5:=Low.fact (q5 _ hw.out)
    replace q6:=Low.fact (q6 _ hw.out)
    replace q7:=Low.fact (q7 _ hw.out)
    replace q8:=Low.fact (q8 _ hw.out)
    replace q9:=Low.fact (q9 _ hw.out)
    replace q10:=Low.fact (q10 _ hw.out)
    replace q11:=Low.fact (q11 _ hw.out)
    replace q12:=Low.fact (q12 _ hw.out)
    replace q13:=Low.fact (q13 _ hw.out)
    replace q14:=Low.fact (q14 _ hw.out)
    clear gc
    go_wp2
    (refine wp_region_low (by kernel_rfl) (by kernel_rfl) ?_;(iterate 19 (apply quiet_want;(case hw=>rfl);(case hval=>(intro w1 hw1;have hcx:=Low.cells hw1;simp only [Oper.quietAt];go_simp;first | done | (first | (go_at_call 116;exact Low.calls hw1 (gc2.out _ hw1))) | rfl | exact⟨rfl,rfl⟩));simp only [Act.put,List.setIfInBounds_toArray,List.set_cons_zero,List.set_cons_succ]));refine wpQuiet_nil ?_;intro w2 hw2)
    have BB3:=Lib.hid (And.intro (BB2.out.1.trans (hw2.out.mono BB2.out.1.size)) (BB2.out.2.trans (hw2.out.mono BB2.out.2.size)))
    go_wp2
    go_roundw
    case rel=>exact⟨j+1,by omega,by rw [hrc],by rw [hs12.out.2];rfl,by go_num,BB3.out.1⟩
    case measure=>simp [intOf];omega
  ·obtain rfl:j=n:=by omega
   go_wp2
   go_ret2
   exact⟨rfl,BB.out.2⟩
end Go.Proofs.YtpimbaaahcemhaaGreat
namespace Go.Proofs.YtpimbaaahcemhaaGreat
open Go.RowKit
attribute [local irreducible] wpQuiet
theorem usedE_length (m:Msn) (l:List Int):(usedE m l).length=m.ways.length:=by unfold usedE;exact upto_length _ _
theorem lie_eq {m:Msn} (V:VMsn m) {r:Int} (h:0≤r∧r≤100000):dskE r=0∧shE (dskL r) (atW m 0)=0∧withinB (shL (dskL r) (atW m 0)) m.home=lieB m r:=by
 have hr:radOk r=true:=by simp [radOk,h]
 have hd:dskL r=diskP r.toNat:=by simp [dskL,hr]
 have c:=cor_ok V (a:=0) (b:=0) (by have:=V.n2;omega) (by have:=V.n2;omega) h h
 obtain⟨⟨hp,-⟩,ha,-⟩:=corE_zero c
 have G:=disk_valid (n:=r.toNat) (by omega)
 have hv:goValid (diskP r.toNat)=true:=by simpa [goValid] using G
 have e2:shE (dskL r) (atW m 0)=0:=by rw [hd];simp [shE,hv,hp,ha]
 refine⟨by simp [dskE,hr],e2,?_⟩
 have e3:shL (dskL r) (atW m 0)=mvL (atW m 0) (diskP r.toNat):=by simp only [shL,e2,if_true];rw [hd]
 rw [e3]
 have hv2:goValid (mvL (atW m 0) (diskP r.toNat))=true:=by rw [goValid_mv _ G];exact ha
 simp [withinB,lieB,hv2,V.home]
set_option linter.unusedSimpArgs false in
set_option linter.unusedVariables false in
set_option maxRecDepth 8000 in
set_option maxHeartbeats 1600000 in
theorem kin_any (m:Msn) (l:List Int) (vw vh vr vb va vt ve:Value) (w:World) (T:TripAt w.heap.size w m l vw vh vr vb va vt ve) (V:VMsn m) (r:Int) (hr:0≤r∧r≤100000) (Br Bt:Nat) (HR:Has w Br #[.int .i64 r] 3) (HT:Has w Bt (tripCells m vw vh vr vb va vt ve) 93) :
  Calls Tryz.prog 114 #[.pointer (some ⟨Br,0,none⟩),.pointer (some ⟨Bt,0,none⟩)] w fun e w'=>e=.returned (.bool (lieB m r))∧Below w.heap.size w w':=by
 obtain⟨e1,e2,e3⟩:=lie_eq V hr
 have f1:=fun w1=>mdisk_any r w1
 have f2:=fun v w1 h=>mshift_any v (dskL r) ⟨(wy m.ways 0).x,(wy m.ways 0).y⟩ w1 h
 have f3:=fun v w1 (B:Below w.heap.size w w1) h=>within_any v vh (shL (dskL r) ⟨(wy m.ways 0).x,(wy m.ways 0).y⟩) m.home w1 h ((T.msn.2.1.below B).mono B.size)
 unfold atW at e2 e3
 rw [e1] at f1
 rw [e2] at f2
 rw [e3] at f3
 generalize shL (dskL r) ⟨(wy m.ways 0).x,(wy m.ways 0).y⟩=sl at *
 generalize bothE sl m.home=be at *
 generalize dskL r=dl at *
 have h0:0<m.ways.length:=by have:=V.n2;omega
 obtain⟨⟨-,a1,c1,rfl,hcw⟩,⟨-,a2,c2,rfl,-⟩,⟨-,a3,c3,rfl,-⟩⟩:=T.msn
 obtain⟨-,ab,cb,rfl,-⟩:=T.bef
 obtain⟨-,aa,ca,rfl,-⟩:=T.aft
 obtain⟨-,at',ct,rfl,-⟩:=T.tim
 obtain⟨-,ae,ce,rfl,-⟩:=T.ene
 obtain⟨bw,ow,rfl,hbw,hcw⟩:=hcw.resolve_left (by intro h;rw [h] at h0;simp at h0)
 obtain⟨x1,x2,-⟩:=hcw 0 h0
 rw [Nat.zero_mul,Nat.add_zero] at x1 x2
 clear T hcw e1 e2 e3 V
 unfold tripCells at *
 simp only at f2
 generalize (wy m.ways 0).x=px at *
 generalize (wy m.ways 0).y=py at *
 generalize lieB m r=fb at *
 replace f1:=Lib.hid f1
 replace f2:=Lib.hid f2
 replace f3:=Lib.hid f3
 have h0':(0:Int)<m.ways.length:=by omega
 have BW:=Lib.hid (Below.refl w.heap.size w)
 replace HR:=Lib.hid HR
 replace HT:=Lib.hid HT
 have y0:=HR.out.cell (i:=0) rfl
 go_enter Tryz.func114,Tryz.ntmps114
 go_wp2_with fail
 refine (f1.out w).mono ?_
 rintro e w1 ⟨v1,rfl,p1,b1⟩
 have BW:=Lib.hid b1
 clear b1
 have P1:=Lib.hid p1
 clear p1
 obtain⟨g1,k1,hv1⟩:=P1.out.len
 subst hv1
 clear y0
 have y0:=(HT.out.below BW.out HT.out.lt).cell (i:=0) rfl
 have y1:=(HT.out.below BW.out HT.out.lt).cell (i:=1) rfl
 have z1:=(BW.out.cell (p:=⟨bw,ow,none⟩) hbw).trans x1
 have z2:=(BW.out.cell (p:=⟨bw,ow+1,none⟩) hbw).trans x2
 go_wp2_with fail
 refine (f2.out _ w1 P1.out).mono ?_
 rintro e w2 ⟨v2,rfl,p2,b2⟩
 replace BW:=Lib.hid (BW.out.trans (b2.mono BW.out.size))
 have B_w1:=Lib.hid b2
 clear b2
 have P2:=Lib.hid p2
 clear p2
 obtain⟨g2,k2,hv2⟩:=P2.out.len
 subst hv2
 clear y0 y1 z1 z2
 have y1:=(HT.out.below BW.out HT.out.lt).cell (i:=1) rfl
 go_wp2_with fail
 refine (f3.out _ _ BW.out P2.out).mono ?_
 rintro e w3 ⟨rfl,b3⟩
 replace BW:=Lib.hid (BW.out.trans (b3.mono BW.out.size))
 replace B_w1:=Lib.hid (B_w1.out.trans (b3.mono B_w1.out.size))
 have B_w2:=Lib.hid b3
 clear b3
 go_wp2
 go_ret
 exact⟨rfl,BW.out⟩
set_option linter.unusedSimpArgs false in
set_option linter.unusedVariables false in
set_option maxRecDepth 8000 in
set_option maxHeartbeats 1600000 in
theorem kcl_any (m:Msn) (l:List Int) (vw vh vr vb va vt ve:Value) (w:World) (T:TripAt w.heap.size w m l vw vh vr vb va vt ve) (k:Nat) (hk:k+1<m.ways.length) (n41:m.ways.length≤41) (Bt Bl Be:Nat) (HT:Has w Bt (tripCells m vw vh vr vb va vt ve) 93) (HL:Has w Bl #[.int .i64 k] 3) (HE:Has w Be #[.int .i64 ((k+1:Nat):Int)] 3) :
  Calls Tryz.prog 115 #[.pointer (some ⟨Bt,0,none⟩),.pointer (some ⟨Bl,0,none⟩),.pointer (some ⟨Be,0,none⟩)] w fun e w'=>e=.returned (.bool (clrB m k (rdA m l k) (k+1) (rdB m l (k+1))))∧Below w.heap.size w w':=by
 have fc:=fun w1 (B:Low w w1)=>tclear_any m l vw vh vr vb va vt ve w1 (T.up B.out) k (k+1) (rdA m l k) (rdB m l (k+1)) (by omega) hk n41
 obtain⟨⟨-,a1,c1,rfl,-⟩,⟨-,a2,c2,rfl,-⟩,⟨-,a3,c3,rfl,-⟩⟩:=T.msn
 obtain⟨bb,ob,cb,rfl,hbb,hcb⟩:=ints_cells0 T.bef (by rw [rdBU_length];omega)
 obtain⟨ba,oa,ca,rfl,hba,hca⟩:=ints_cells0 T.aft (by rw [rdAU_length];omega)
 obtain⟨-,at',ct,rfl,-⟩:=T.tim
 obtain⟨-,ae,ce,rfl,-⟩:=T.ene
 simp only [rdBU_length,rdAU_length] at hcb hca fc HT ⊢
 have z1:=Low.fact ((hca k (by omega)).trans (by rw [rdA_getD (by omega)]))
 have z2:=Low.fact ((hcb (k+1) hk).trans (by rw [rdB_getD hk]))
 clear T hcb hca
 unfold tripCells at *
 generalize rdA m l k=ra at *
 generalize rdB m l (k+1)=rb at *
 generalize clrB m k ra (k+1) rb=fb at *
 obtain⟨K,hK⟩:∃ K,k+1=K:=⟨_,rfl⟩
 rw [hK] at HE z2 hk
 simp only [hK] at fc
 have hk':(k:Int)<m.ways.length:=by omega
 have hK':(K:Int)<m.ways.length:=by omega
 have hk0:(0:Int)≤k:=by omega
 have hK0:(0:Int)≤K:=by omega
 replace fc:=Lib.hid fc
 clear hK
 have q0:=Low.fact (HT.cell (i:=0) rfl)
 have q1:=Low.fact (HT.cell (i:=1) rfl)
 have q2:=Low.fact (HT.cell (i:=2) rfl)
 have q3:=Low.fact (HT.cell (i:=3) rfl)
 have q4:=Low.fact (HT.cell (i:=4) rfl)
 have q5:=Low.fact (HT.cell (i:=5) rfl)
 have q6:=Low.fact (HT.cell (i:=6) rfl)
 have q7:=Low.fact (HT.cell (i:=7) rfl)
 have q8:=Low.fact (HT.cell (i:=8) rfl)
 have q9:=Low.fact (HT.cell (i:=9) rfl)
 have q10:=Low.fact (HT.cell (i:=10) rfl)
 have q11:=Low.fact (HT.cell (i:=11) rfl)
 have q12:=Low.fact (HT.cell (i:=12) rfl)
 have q13:=Low.fact (HT.cell (i:=13) rfl)
 have q14:=Low.fact (HT.cell (i:=14) rfl)
 have q15:=Low.fact (HL.cell (i:=0) rfl)
 have q16:=Low.fact (HE.cell (i:=0) rfl)
 clear HT HL HE
 go_enter Tryz.func115,Tryz.ntmps115
 go_wp2
 (refine wp_region_low (by kernel_rfl) (by kernel_rfl) ?_;(iterate 15 (apply quiet_want;(case hw=>rfl);(case hval=>(intro w1 hw1;have hcx:=Low.cells hw1;simp only [Oper.quietAt];go_simp;first | done | (first | (go_at_call 116;exact Low.calls hw1 (fc.out _ hw1))) | rfl | exact⟨rfl,rfl⟩));simp only [Act.put,List.setIfInBounds_toArray,List.set_cons_zero,List.set_cons_succ]));refine wpQuiet_nil ?_;intro w2 hw2)
 go_wp2
 go_ret
 exact⟨rfl,hw2⟩
theorem kbk_any (w:World) (c:Bool) (Bc:Nat) (HC:Has w Bc #[.bool c] 4) :
  Calls Tryz.prog 117 #[.pointer (some ⟨Bc,0,none⟩)] w fun e w'=>e=.returned (.bool c)∧Below w.heap.size w w':=by
 have y:=HC.cell (i:=0) rfl
 have B:=Below.refl w.heap.size w
 go_enter Tryz.func117,Tryz.ntmps117
 go_wp2
 go_ret
 exact⟨rfl,B⟩
set_option linter.unusedSimpArgs false in
set_option linter.unusedVariables false in
set_option maxRecDepth 8000 in
set_option maxHeartbeats 1600000 in
theorem kba_any (m:Msn) (l:List Int) (vw vh vr vb va vt ve:Value) (w:World) (T:TripAt w.heap.size w m l vw vh vr vb va vt ve) (V:VMsn m) (k:Nat) (hk:k<m.ways.length) (x:Int) (hx:0≤x∧x≤100000000000000) (Bt Be Bx:Nat) (HT:Has w Bt (tripCells m vw vh vr vb va vt ve) 93) (HE:Has w Be #[.int .i64 k] 3) (HX:Has w Bx #[.int .i64 x] 3) :
  Calls Tryz.prog 118 #[.pointer (some ⟨Bt,0,none⟩),.pointer (some ⟨Be,0,none⟩),.pointer (some ⟨Bx,0,none⟩)] w fun e w'=>e=.returned (.bool (decide (usE m l k+x≤m.battery)))∧Below w.heap.size w w':=by
 have ub:=used_bd V l k hk
 have n41:=V.n41
 obtain⟨⟨-,a1,c1,rfl,-⟩,⟨-,a2,c2,rfl,-⟩,⟨-,a3,c3,rfl,-⟩⟩:=T.msn
 obtain⟨-,ab,cb,rfl,-⟩:=T.bef
 obtain⟨-,aa,ca,rfl,-⟩:=T.aft
 obtain⟨-,at',ct,rfl,-⟩:=T.tim
 obtain⟨bq,oq,cq,rfl,hbq,hcq⟩:=ints_cells0 T.ene (by rw [usedE_length];omega)
 simp only [usedE_length] at hcq HT ⊢
 have z1:=Low.fact ((hcq k hk).trans (by rw [usedE,upto_getD _ hk]))
 clear T hcq
 unfold tripCells at *
 obtain⟨u,hu⟩:∃ u,usE m l k=u:=⟨_,rfl⟩
 simp only [hu] at z1 ub ⊢
 have hk':(k:Int)<m.ways.length:=by omega
 have hk0:(0:Int)≤k:=by omega
 have hw:IntKind.i64.wrap (u+x)=u+x:=IntWalk.i64_in _ (by omega)
 clear hu ub V
 have q0:=Low.fact (HT.cell (i:=9) rfl)
 have q1:=Low.fact (HT.cell (i:=14) rfl)
 have q2:=Low.fact (HE.cell (i:=0) rfl)
 have q3:=Low.fact (HX.cell (i:=0) rfl)
 clear HT HE HX
 go_enter Tryz.func118,Tryz.ntmps118
 go_wp2
 (refine wp_region_low (by kernel_rfl) (by kernel_rfl) ?_;(iterate 12 (apply quiet_want;(case hw=>rfl);(case hval=>(intro w1 hw1;have hcx:=Low.cells hw1;simp only [Oper.quietAt];go_simp;first | done | (first | fail) | rfl | exact⟨rfl,rfl⟩));simp only [Act.put,List.setIfInBounds_toArray,List.set_cons_zero,List.set_cons_succ]));refine wpQuiet_nil ?_;intro w2 hw2)
 go_wp2
 go_ret
 exact⟨rfl,hw2⟩
set_option linter.unusedSimpArgs false in
set_option linter.unusedVariables false in
set_option maxRecDepth 8000 in
set_option maxHeartbeats 1600000 in
theorem kti_any (m:Msn) (l:List Int) (vw vh vr vb va vt ve:Value) (w:World) (T:TripAt w.heap.size w m l vw vh vr vb va vt ve) (V:VMsn m) (k:Nat) (hk:k<m.ways.length) (x:Int) (hx:0≤x∧x≤100000000000000) (Bt Be Bx:Nat) (HT:Has w Bt (tripCells m vw vh vr vb va vt ve) 93) (HE:Has w Be #[.int .i64 k] 3) (HX:Has w Bx #[.int .i64 x] 3) :
  Calls Tryz.prog 119 #[.pointer (some ⟨Bt,0,none⟩),.pointer (some ⟨Be,0,none⟩),.pointer (some ⟨Bx,0,none⟩)] w fun e w'=>e=.returned (.bool (decide (usT m l k+x≤m.deadline)))∧Below w.heap.size w w':=by
 have ub:=used_bd V l k hk
 have n41:=V.n41
 obtain⟨⟨-,a1,c1,rfl,-⟩,⟨-,a2,c2,rfl,-⟩,⟨-,a3,c3,rfl,-⟩⟩:=T.msn
 obtain⟨-,ab,cb,rfl,-⟩:=T.bef
 obtain⟨-,aa,ca,rfl,-⟩:=T.aft
 obtain⟨bq,oq,cq,rfl,hbq,hcq⟩:=ints_cells0 T.tim (by rw [usedT_length];omega)
 obtain⟨-,ae,ce,rfl,-⟩:=T.ene
 simp only [usedT_length] at hcq HT ⊢
 have z1:=Low.fact ((hcq k hk).trans (by rw [usedT,upto_getD _ hk]))
 clear T hcq
 unfold tripCells at *
 obtain⟨u,hu⟩:∃ u,usT m l k=u:=⟨_,rfl⟩
 simp only [hu] at z1 ub ⊢
 have hk':(k:Int)<m.ways.length:=by omega
 have hk0:(0:Int)≤k:=by omega
 have hw:IntKind.i64.wrap (u+x)=u+x:=IntWalk.i64_in _ (by omega)
 clear hu ub V
 have q0:=Low.fact (HT.cell (i:=10) rfl)
 have q1:=Low.fact (HT.cell (i:=13) rfl)
 have q2:=Low.fact (HE.cell (i:=0) rfl)
 have q3:=Low.fact (HX.cell (i:=0) rfl)
 clear HT HE HX
 go_enter Tryz.func119,Tryz.ntmps119
 go_wp2
 (refine wp_region_low (by kernel_rfl) (by kernel_rfl) ?_;(iterate 12 (apply quiet_want;(case hw=>rfl);(case hval=>(intro w1 hw1;have hcx:=Low.cells hw1;simp only [Oper.quietAt];go_simp;first | done | (first | fail) | rfl | exact⟨rfl,rfl⟩));simp only [Act.put,List.setIfInBounds_toArray,List.set_cons_zero,List.set_cons_succ]));refine wpQuiet_nil ?_;intro w2 hw2)
 go_wp2
 go_ret
 exact⟨rfl,hw2⟩
end Go.Proofs.YtpimbaaahcemhaaGreat
namespace Go.Proofs.YtpimbaaahcemhaaGreat
noncomputable def ccB (m:Msn) (a:Nat) (u:Int) (b:Nat) (w:Int):Bool:=decide (corE (atW m a) u (atW m b) w=0) && clrB m a u b w
noncomputable def ccC (m:Msn) (a:Nat) (r:Int):Nat→Bool
 | 0=>true
 | j+1=>ccC m a r j && ccB m (itB m a j) (bkR m a r j) (itB m a (j+1)) (bkR m a r (j+1))
noncomputable def hwE (m:Msn) (a:Nat) (r:Int):Int:=if ccC m a r (dep m a)=false then 50 else if lieB m (bkR m a r (dep m a))=false then 52 else 0
noncomputable def kpsE (m:Msn) (i:Nat) (u v t e:Int):Int :=
 if ccB m i u (i+1) v=false then 50
 else if hwE m (i+1) v=50 then 50
 else if hwE m (i+1) v=52 then 52
 else if e+homeE m (i+1) (dep m (i+1))>m.battery then 51
 else if t+homeT m (i+1) (dep m (i+1))>m.deadline then 6
 else 0
theorem ccB_bd {m:Msn} {a b:Nat} {u w:Int} (h:ccB m a u b w=true):(0≤u∧u≤100000)∧0≤w∧w≤100000:=by
 unfold ccB at h
 rw [Bool.and_eq_true,decide_eq_true_eq] at h
 obtain⟨⟨-,-,h1,h2,h3,h4⟩,-⟩:=corE_zero h.1
 exact⟨⟨h1,h2⟩,h3,h4⟩
theorem ccC_bd {m:Msn} {a:Nat} {r:Int} (h0:0≤r∧r≤100000):∀ j,ccC m a r j=true→0≤bkR m a r j∧bkR m a r j≤100000
 | 0,_=>h0
 | j + 1, h => by
  simp only [ccC,Bool.and_eq_true] at h
  exact (ccB_bd h.2).2
theorem ccC_down {m:Msn} {a:Nat} {r:Int}:∀ n j,j≤n→ccC m a r n=true→ccC m a r j=true
 | 0,j,hj,h=>by rw [Nat.le_zero.1 hj];rfl
 | n + 1, j, hj, h => by
  rcases Nat.lt_or_eq_of_le hj with e | e
  ·simp only [ccC,Bool.and_eq_true] at h
   exact ccC_down n j (by omega) h.1
  ·rw [e];exact h
theorem hwE_or (m:Msn) (a:Nat) (r:Int):hwE m a r=50∨hwE m a r=52∨hwE m a r=0:=by
 unfold hwE
 repeat' split
 all_goals simp
theorem ccB_of {m:Msn} (V:VMsn m) {a b:Nat} (ha:a<m.ways.length) (hb:b<m.ways.length) {u w:Int} (hu:0≤u∧u≤100000) (hw:0≤w∧w≤100000):ccB m a u b w=clrB m a u b w:=by
 unfold ccB
 rw [cor_ok V ha hb hu hw]
 simp
theorem firE_all {m:Msn} (V:VMsn m) {a b:Nat} {u v:Int} (h:corE (atW m a) u (atW m b) v=0):firE (corL (atW m a) u (atW m b) v) m.rocks=0:=by
 unfold corL
 rw [if_pos h]
 have g:=goValid_of (cor_valid h)
 have o1:okRocks (corH (atW m a) u.toNat (atW m b) v.toNat) m.rocks=true:=by unfold okRocks;rw [g,Bool.true_and];exact V.rocks
 unfold firE
 rw [if_pos V.nr,if_pos o1]
theorem lie_bothE {m:Msn} (V:VMsn m) {r:Int} (h:0≤r∧r≤100000):bothE (shL (dskL r) (atW m 0)) m.home=0:=by
 have hr:radOk r=true:=by simp [radOk,h]
 have hd:dskL r=diskP r.toNat:=by simp [dskL,hr]
 have c:=cor_ok V (a:=0) (b:=0) (by have:=V.n2;omega) (by have:=V.n2;omega) h h
 obtain⟨⟨hp,-⟩,ha,-⟩:=corE_zero c
 have G:=disk_valid (n:=r.toNat) (by omega)
 have hv:goValid (diskP r.toNat)=true:=by simpa [goValid] using G
 have e2:shE (dskL r) (atW m 0)=0:=by rw [hd];simp [shE,hv,hp,ha]
 have e3:shL (dskL r) (atW m 0)=mvL (atW m 0) (diskP r.toNat):=by simp only [shL,e2,if_true];rw [hd]
 rw [e3]
 have hv2:goValid (mvL (atW m 0) (diskP r.toNat))=true:=by rw [goValid_mv _ G];exact ha
 simp [bothE,hv2,V.home]
end Go.Proofs.YtpimbaaahcemhaaGreat
