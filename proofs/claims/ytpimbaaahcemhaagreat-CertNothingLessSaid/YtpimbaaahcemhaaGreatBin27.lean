/- Plans: what the legs of a mission with stops come to. No program here. | Certificates: what they are, and how they lie in memory. | slices of integ .. -/
import Derived.Test.YtpimbaaahcemhaaGreatBin04
import Derived.Test.YtpimbaaahcemhaaGreatBin16
import Derived.Test.YtpimbaaahcemhaaGreatBin22
import Derived.Test.YtpimbaaahcemhaaGreatBin13
import Derived.Test.YtpimbaaahcemhaaGreatBin23
import Derived.Test.YtpimbaaahcemhaaGreatBin11
import Derived.Test.YtpimbaaahcemhaaGreatBin12
import Derived.Test.YtpimbaaahcemhaaGreatBin25
import Derived.Test.YtpimbaaahcemhaaGreatBin26
import Derived.Test.YtpimbaaahcemhaaGreatBin18
import Derived.Test.YtpimbaaahcemhaaGreatBin24
import Derived.Test.YtpimbaaahcemhaaGreatBin10
import Derived.Test.YtpimbaaahcemhaaGreatBin06
namespace Go.Proofs.YtpimbaaahcemhaaGreat
def atW (m:Msn) (k:Nat):Pt:=⟨(wy m.ways k).x,(wy m.ways k).y⟩
noncomputable def clrB (m:Msn) (a:Nat) (u:Int) (b:Nat) (w:Int):Bool:=!firB (corL (atW m a) u (atW m b) w) m.rocks
def bkR (m:Msn) (a:Nat) (r:Int):Nat→Int
 | 0=>r
 | j+1=>bkR m a r j+gLeg m (itB m a j) (itB m a (j+1))
noncomputable def lieB (m:Msn) (r:Int):Bool:=decide ((cornersP (mvL (atW m 0) (diskP r.toNat)) m.home).length=(mvL (atW m 0) (diskP r.toNat)).length)
theorem atW_near {m:Msn} (V:VMsn m) {k:Nat} (hk:k<m.ways.length):-300000≤(atW m k).x∧(atW m k).x≤300000∧-300000≤(atW m k).y∧(atW m k).y≤300000:=way_near V.ways hk
theorem cor_ok {m:Msn} (V:VMsn m) {a b:Nat} (ha:a<m.ways.length) (hb:b<m.ways.length) {u w:Int} (hu:0≤u∧u≤100000) (hw:0≤w∧w≤100000):corE (atW m a) u (atW m b) w=0:=by
 have p:=atW_near V ha
 have q:=atW_near V hb
 exact cor_near (by omega) (by omega) hu hw
end Go.Proofs.YtpimbaaahcemhaaGreat
namespace Go.Proofs.YtpimbaaahcemhaaGreat
open Go.RowKit
structure Psg where
 cor:List Pt
 fr:Int
 tw:Int
 tm:Int
 en:Int
structure Crt where
 stops:List Int
 psg:List Psg
 ret:List Int
def pgd (l:List Psg) (j:Nat):Psg:=l.getD j ⟨[],0,0,0,0⟩
def PsgAt (n0:Nat) (W:World) (b o:Nat) (p:Psg):Prop :=
 ∃ u,W.cell? ⟨b,o,none⟩=some u∧PtsAt n0 W u p.cor∧W.cell? ⟨b,o+1,none⟩=some (.int .i64 p.fr)∧W.cell? ⟨b,o+2,none⟩=some (.int .i64 p.tw)∧W.cell? ⟨b,o+3,none⟩=some (.int .i64 p.tm)∧W.cell? ⟨b,o+4,none⟩=some (.int .i64 p.en)
theorem PsgAt.below {n0:Nat} {A B:World} (h:Below n0 A B) {b o:Nat} {p:Psg} (hb:b<n0) (hp:PsgAt n0 A b o p):PsgAt n0 B b o p:=by
 obtain⟨u,c0,hu,c1,c2,c3,c4⟩:=hp
 exact⟨u,(h.cell (p:=⟨b,o,none⟩) hb).trans c0,hu.below h,(h.cell (p:=⟨b,o+1,none⟩) hb).trans c1,(h.cell (p:=⟨b,o+2,none⟩) hb).trans c2,(h.cell (p:=⟨b,o+3,none⟩) hb).trans c3,(h.cell (p:=⟨b,o+4,none⟩) hb).trans c4⟩
theorem PsgAt.mono {n0 n1:Nat} {W:World} {b o:Nat} {p:Psg} (hp:PsgAt n0 W b o p) (h:n0≤n1):PsgAt n1 W b o p:=by
 obtain⟨u,c0,hu,c⟩:=hp
 exact⟨u,c0,hu.mono h,c⟩
def PsgsAt (n0:Nat) (W:World) (v:Value) (l:List Psg):Prop :=
 l.length≤70368744177663∧∃ a cap,v=.slice a l.length (l.length+cap)∧(l=[]∨∃ b o,a=some ⟨b,o,none⟩∧b<n0∧∀ j,j<l.length→PsgAt n0 W b (o+j*5) (pgd l j))
theorem PsgsAt.below {n0:Nat} {A B:World} (h:Below n0 A B) {v:Value} {l:List Psg} (hp:PsgsAt n0 A v l):PsgsAt n0 B v l:=by
 obtain⟨hl,a,cap,e,hc⟩:=hp
 refine⟨hl,a,cap,e,hc.imp id ?_⟩
 rintro ⟨b,o,e1,hb,hc⟩
 exact⟨b,o,e1,hb,fun j hj=>(hc j hj).below h hb⟩
theorem PsgsAt.mono {n0 n1:Nat} {W:World} {v:Value} {l:List Psg} (hp:PsgsAt n0 W v l) (h:n0≤n1):PsgsAt n1 W v l:=by
 obtain⟨hl,a,cap,e,hc⟩:=hp
 refine⟨hl,a,cap,e,hc.imp id ?_⟩
 rintro ⟨b,o,e1,hb,hc⟩
 exact⟨b,o,e1,by omega,fun j hj=>(hc j hj).mono h⟩
def CrtAt (n0:Nat) (W:World) (c:Crt) (vs vp vr:Value):Prop:=IntsAt n0 W vs c.stops∧PsgsAt n0 W vp c.psg∧IntsAt n0 W vr c.ret
theorem CrtAt.below {n0:Nat} {A B:World} (h:Below n0 A B) {c:Crt} {vs vp vr:Value} (hp:CrtAt n0 A c vs vp vr):CrtAt n0 B c vs vp vr:=⟨hp.1.below h,hp.2.1.below h,hp.2.2.below h⟩
theorem CrtAt.mono {n0 n1:Nat} {W:World} {c:Crt} {vs vp vr:Value} (hp:CrtAt n0 W c vs vp vr) (h:n0≤n1):CrtAt n1 W c vs vp vr:=⟨hp.1.mono h,hp.2.1.mono h,hp.2.2.mono h⟩
def wthB (n most:Int):Bool:=decide (0≤n∧n≤most)
noncomputable def okP (c:Crt) (j:Nat):Bool :=
 goValid (pgd c.psg j).cor && (wthB (pgd c.psg j).fr 100000 && (wthB (pgd c.psg j).tw 100000 && (wthB (pgd c.psg j).tm 1000000000 && (wthB (pgd c.psg j).en 1000000000 && wthB (c.ret.getD j 0) 1000000000))))
noncomputable def frmB (m:Msn) (c:Crt):Bool :=
 radOkB m c.stops && decide (c.psg.length=m.ways.length - 1) && decide (c.ret.length=m.ways.length - 1) && decide (∀ j,j<c.psg.length→okP c j=true)
def befR (m:Msn) (c:Crt) (i:Nat):Int:=if i=0 then m.start else if (i:Int) ∈ c.stops then min (pgd c.psg (i - 1)).tw (wy m.ways i).fix else (pgd c.psg (i - 1)).tw
def befT (m:Msn) (c:Crt) (i:Nat):Int:=if i=0 then 0 else if (i:Int) ∈ c.stops then (pgd c.psg (i - 1)).tm+(wy m.ways i).wait else (pgd c.psg (i - 1)).tm
def befE (m:Msn) (c:Crt) (i:Nat):Int:=if i=0 then 0 else if (i:Int) ∈ c.stops then (pgd c.psg (i - 1)).en+m.idle*(wy m.ways i).wait else (pgd c.psg (i - 1)).en
noncomputable def regB (r:List (List Pt)):Bool:=decide (r.length≤32) && polysB r
noncomputable def inAll (r:List (List Pt)) (p:List Pt):Bool:=decide (∀ j,j<r.length→withinB (rk r j) p=true)
end Go.Proofs.YtpimbaaahcemhaaGreat
namespace Go.Proofs.YtpimbaaahcemhaaGreat
open Go.RowKit
attribute [local irreducible] wpQuiet
theorem invl1_any (v:Value) (l:List Pt) (w:World) (hp:PtsAt w.heap.size w v l) :
  Calls Tryz.prog 193 #[v] w fun e w'=>e=.returned (.bool (!goValid l))∧Below w.heap.size w w':=by
 have f:=Lib.hid (hullValid_any v l w hp)
 clear hp
 generalize goValid l=b at *
 go_enter Tryz.func193,Tryz.ntmps193
 go_wp2_with (go_at_call 93;refine (f.out).mono ?_;rintro e w1 ⟨rfl,hb1⟩;have hz1:=hb1.size;try simp at hz1)
 go_ret
 exact⟨rfl,by repeat (first | exact Below.refl _ _ | assumption | apply Below.drew | refine Below.setCell ?_ (by first | omega | (simp;done) | (simp;omega)) _ | refine Below.alloc ?_ (by first | omega | (simp;done) | (simp;omega)) _ | refine Below.call (by assumption) ?_ (by first | omega | (simp;done) | (simp;omega)))⟩
theorem indexinvl_any (v : Value) (l : List (List Pt)) (w : World) (hr : RocksAt w.heap.size w v l) :
  Calls Tryz.prog 169 #[v,.func (.func 193) #[] #[]] w (FindQ (!polysB l) w):=by
 obtain⟨hl,a,cap,rfl,hc⟩:=hr
 go_enter Tryz.func169,Tryz.ntmps169
 go_wp2
 go_loopw [8] (fun i wr=>∃ k:Nat,k≤l.length∧i=.int .i64 k∧(∀ j,j<k→goValid (rk l j)=true)∧Below w.heap.size w wr) (fun i _=>l.length - (intOf i).toNat)
 case atStart=>exact⟨0,Nat.zero_le _,rfl,fun j h=>by omega,Below.refl _ _⟩
 case round =>
  obtain⟨k,hk,rfl,hall,hB⟩:=hrel
  by_cases hlt:k<l.length
  ·rcases hc with rfl | ⟨b,o,rfl,hb,hc⟩
   ·simp at hlt
   obtain⟨u,hu,hpu⟩:=hc k hlt
   have c1:=(hB.cell (p:=⟨b,o+k,none⟩) hb).trans hu
   have f:=Lib.hid (invl1_any u (rk l k) wr ((hpu.below hB).mono hB.size))
   have hall':=Lib.hid hall
   have hc':=Lib.hid hc
   clear hall hc hu hpu
   have hz:=hB.size
   cases hpl:goValid (rk l k)
   ·rw [hpl] at f
    have hr:Hid (polysB l=false):=by
     show polysB l=false
     simp only [polysB,decide_eq_false_iff_not]
     intro h
     have:=h k hlt
     rw [hpl] at this
     cases this
    go_wp2_with (go_at_call 193;refine (f.out).mono ?_;rintro e w1 ⟨rfl,hb1⟩;have hz1:=hb1.size;try simp at hz1)
    go_ret
    exact⟨k,rfl,by omega,by omega,by rw [hr.out];simp,by repeat (first | exact Below.refl _ _ | assumption | apply Below.drew | refine Below.setCell ?_ (by first | omega | (simp;done) | (simp;omega)) _ | refine Below.alloc ?_ (by first | omega | (simp;done) | (simp;omega)) _ | refine Below.call (by assumption) ?_ (by first | omega | (simp;done) | (simp;omega)))⟩
   ·rw [hpl] at f
    go_wp2_with (go_at_call 193;refine (f.out).mono ?_;rintro e w1 ⟨rfl,hb1⟩;have hz1:=hb1.size;try simp at hz1)
    go_roundw
    case rel =>
     refine⟨k+1,by omega,by go_num,fun j hj=>?_,by repeat (first | exact Below.refl _ _ | assumption | apply Below.drew | refine Below.setCell ?_ (by first | omega | (simp;done) | (simp;omega)) _ | refine Below.alloc ?_ (by first | omega | (simp;done) | (simp;omega)) _ | refine Below.call (by assumption) ?_ (by first | omega | (simp;done) | (simp;omega)))⟩
     by_cases e:j=k
     ·rw [e];exact hpl
     ·exact hall'.out j (by omega)
    case measure=>simp [intOf];omega
  ·have hr:Hid (polysB l=true):=by
    show polysB l=true
    simp only [polysB,decide_eq_true_eq]
    intro j hj
    exact hall j (by omega)
   clear hall
   go_wp2
   go_ret
   exact⟨-1,rfl,by omega,by omega,by rw [hr.out];simp,hB⟩
theorem containsinvl_any (v:Value) (l:List (List Pt)) (w:World) (hr:RocksAt w.heap.size w v l) :
  Calls Tryz.prog 108 #[v,.func (.func 193) #[] #[]] w fun e w'=>e=.returned (.bool (!polysB l))∧Below w.heap.size w w':=by
 go_enter Tryz.func108,Tryz.ntmps108
 go_wp2_with (go_at_call 169;refine (indexinvl_any v l _ hr).mono ?_;rintro e w1 ⟨r,rfl,r1,r2,r3,hb⟩)
 go_ret
 exact⟨by first | rfl | exact ret_bool r3,hb⟩
theorem gvalid_any (v:Value) (l:List (List Pt)) (w:World) (hr:RocksAt w.heap.size w v l) :
  Calls Tryz.prog 106 #[v] w fun e w'=>e=.returned (.bool (regB l))∧Below w.heap.size w w':=by
 have f:=Lib.hid (containsinvl_any v l w hr)
 have HR:Hid (regB l=(decide (l.length≤32) && polysB l)):=rfl
 generalize polysB l=b at *
 obtain⟨hl,a,cap,rfl,hc⟩:=hr
 by_cases h:l.length≤32
 ·have d:decide ((l.length:Int)≤32)=true:=by rw [decide_eq_true_eq];omega
  have g:Hid (∀ w1:World,w1=w→Calls Tryz.prog 168 #[.slice a l.length (l.length+cap)] w fun e w'=>e=.returned (.bool (!b))∧Below w.heap.size w w'):=fun w1 e1=>by
   subst e1
   go_enter Tryz.func168,Tryz.ntmps168
   go_wp2_with fail
   refine f.out.mono ?_
   rintro e w2 ⟨rfl,b2⟩
   go_wp2
   go_ret
   exact⟨rfl,b2⟩
  have HV:=Lib.hid (show regB l=b by rw [HR.out];simp [h])
  go_enter Tryz.func106,Tryz.ntmps106
  go_wp2_with fail
  refine (g.out w rfl).mono ?_
  rintro e w2 ⟨rfl,b2⟩
  go_wp2
  go_ret
  exact⟨by rw [HV.out];simp,b2⟩
 ·have d:decide ((l.length:Int)≤32)=false:=by rw [decide_eq_false_iff_not];omega
  have HV:=Lib.hid (show regB l=false by rw [HR.out];simp [h])
  clear h
  go_enter Tryz.func106,Tryz.ntmps106
  go_wp2
  go_ret
  exact⟨by rw [HV.out];rfl,Below.refl _ _⟩
theorem wthn1_any (v:Value) (l:List Pt) (vq:Value) (q:List Pt) (b0:Nat) (w:World) (hc0:w.cell? ⟨b0,0,none⟩=some vq) (hq:PtsAt w.heap.size w vq q) (hp:PtsAt w.heap.size w v l) :
  Calls Tryz.prog 107 #[v,.pointer (some ⟨b0,0,none⟩)] w fun e w'=>e=.returned (.bool (!withinB l q))∧Below w.heap.size w w':=by
 have f:=Lib.hid (within_any v vq l q w hp hq)
 clear hp
 obtain⟨-,a1,c1,rfl,-⟩:=hq
 generalize withinB l q=b at *
 generalize bothE l q=e0 at *
 go_enter Tryz.func107,Tryz.ntmps107
 go_wp2_with fail
 refine f.out.mono ?_
 rintro e w2 ⟨rfl,b2⟩
 go_wp2
 go_ret
 exact⟨rfl,b2⟩
theorem indexwthn_any (v : Value) (l : List (List Pt)) (vq : Value) (q : List Pt) (b0 : Nat) (w : World) (hr : RocksAt w.heap.size w v l) (hb0 : b0 < w.heap.size) (hc0 : w.cell? ⟨b0, 0, none⟩ = some vq) (hq : PtsAt w.heap.size w vq q) :
  Calls Tryz.prog 169 #[v,.func (.func 107) #[] #[.pointer (some ⟨b0,0,none⟩)]] w (FindQ (!inAll l q) w):=by
 obtain⟨hl,a,cap,rfl,hc⟩:=hr
 go_enter Tryz.func169,Tryz.ntmps169
 go_wp2
 go_loopw [8] (fun i wr=>∃ k:Nat,k≤l.length∧i=.int .i64 k∧(∀ j,j<k→withinB (rk l j) q=true)∧Below w.heap.size w wr) (fun i _=>l.length - (intOf i).toNat)
 case atStart=>exact⟨0,Nat.zero_le _,rfl,fun j h=>by omega,Below.refl _ _⟩
 case round =>
  obtain⟨k,hk,rfl,hall,hB⟩:=hrel
  by_cases hlt:k<l.length
  ·rcases hc with rfl | ⟨b,o,rfl,hb,hc⟩
   ·simp at hlt
   obtain⟨u,hu,hpu⟩:=hc k hlt
   have c1:=(hB.cell (p:=⟨b,o+k,none⟩) hb).trans hu
   have hz:=hB.size
   have f:=Lib.hid (wthn1_any u (rk l k) vq q b0 wr ((hB.cell (p:=⟨b0,0,none⟩) hb0).trans hc0) ((hq.below hB).mono hB.size) ((hpu.below hB).mono hB.size))
   have hall':=Lib.hid hall
   have hc':=Lib.hid hc
   clear hall hc hu hpu
   cases hpl:withinB (rk l k) q
   ·rw [hpl] at f
    have hr:Hid (inAll l q=false):=by
     show inAll l q=false
     simp only [inAll,decide_eq_false_iff_not]
     intro h
     have:=h k hlt
     rw [hpl] at this
     cases this
    go_wp2_with (go_at_call 107;refine (f.out).mono ?_;rintro e w1 ⟨rfl,hb1⟩;have hz1:=hb1.size;try simp at hz1)
    go_ret
    exact⟨k,rfl,by omega,by omega,by rw [hr.out];simp,by repeat (first | exact Below.refl _ _ | assumption | apply Below.drew | refine Below.setCell ?_ (by first | omega | (simp;done) | (simp;omega)) _ | refine Below.alloc ?_ (by first | omega | (simp;done) | (simp;omega)) _ | refine Below.call (by assumption) ?_ (by first | omega | (simp;done) | (simp;omega)))⟩
   ·rw [hpl] at f
    go_wp2_with (go_at_call 107;refine (f.out).mono ?_;rintro e w1 ⟨rfl,hb1⟩;have hz1:=hb1.size;try simp at hz1)
    go_roundw
    case rel =>
     refine⟨k+1,by omega,by go_num,fun j hj=>?_,by repeat (first | exact Below.refl _ _ | assumption | apply Below.drew | refine Below.setCell ?_ (by first | omega | (simp;done) | (simp;omega)) _ | refine Below.alloc ?_ (by first | omega | (simp;done) | (simp;omega)) _ | refine Below.call (by assumption) ?_ (by first | omega | (simp;done) | (simp;omega)))⟩
     by_cases e:j=k
     ·rw [e];exact hpl
     ·exact hall'.out j (by omega)
    case measure=>simp [intOf];omega
  ·have hr:Hid (inAll l q=true):=by
    show inAll l q=true
    simp only [inAll,decide_eq_true_eq]
    intro j hj
    exact hall j (by omega)
   clear hall
   go_wp2
   go_ret
   exact⟨-1,rfl,by omega,by omega,by rw [hr.out];simp,hB⟩
theorem containswthn_any (v:Value) (l:List (List Pt)) (vq:Value) (q:List Pt) (b0:Nat) (w:World) (hr:RocksAt w.heap.size w v l) (hb0:b0<w.heap.size) (hc0:w.cell? ⟨b0,0,none⟩=some vq) (hq:PtsAt w.heap.size w vq q) :
  Calls Tryz.prog 108 #[v,.func (.func 107) #[] #[.pointer (some ⟨b0,0,none⟩)]] w fun e w'=>e=.returned (.bool (!inAll l q))∧Below w.heap.size w w':=by
 go_enter Tryz.func108,Tryz.ntmps108
 go_wp2_with (go_at_call 169;refine (indexwthn_any v l vq q b0 _ hr hb0 hc0 hq).mono ?_;rintro e w1 ⟨r,rfl,r1,r2,r3,hb⟩)
 go_ret
 exact⟨by first | rfl | exact ret_bool r3,hb⟩
noncomputable def rwB (r:List (List Pt)) (p:List Pt):Bool:=regB r && (goValid p && inAll r p)
noncomputable def rwE (r:List (List Pt)) (p:List Pt):Int:=if regB r && goValid p then 0 else 1
theorem gwithin_any (vr:Value) (r:List (List Pt)) (vp:Value) (p:List Pt) (w:World) (hr:RocksAt w.heap.size w vr r) (hp:PtsAt w.heap.size w vp p) :
  Calls Tryz.prog 53 #[vr,vp] w fun e w'=>e=.returned (.tuple #[.bool (rwB r p),.int .i64 (rwE r p)])∧Below w.heap.size w w':=by
 have f1:=fun w1 (B:Below w.heap.size w w1)=>gvalid_any vr r w1 ((hr.below B).mono B.size)
 have f2:=fun w1 (B:Below w.heap.size w w1)=>hullValid_any vp p w1 ((hp.below B).mono B.size)
 have f3:=fun w1 (B:Below w.heap.size w w1) hb hc=>containswthn_any vr r vp p w.heap.size w1 ((hr.below B).mono B.size) hb hc ((hp.below B).mono B.size)
 have H1:Hid (rwB r p=(regB r && (goValid p && inAll r p))):=rfl
 have H2:Hid (rwE r p=if regB r && goValid p then 0 else 1):=rfl
 generalize rwB r p=x at *
 generalize rwE r p=y at *
 generalize regB r=b1 at *
 generalize goValid p=b2 at *
 generalize inAll r p=b3 at *
 obtain⟨-,a1,cap1,rfl,-⟩:=hr
 obtain⟨-,a2,cap2,rfl,-⟩:=hp
 replace f1:=Lib.hid f1
 replace f2:=Lib.hid f2
 replace f3:=Lib.hid f3
 have BW:=Lib.hid (Below.refl w.heap.size w)
 go_enter Tryz.func53,Tryz.ntmps53
 go_wp2_with fail
 generalize hXX0:World.alloc w _=X0
 obtain⟨q0,hA,hzX0⟩:=box1 hXX0
 clear hXX0
 have BW:=Lib.hid hA
 clear hA
 have PB:=Lib.hid q0
 clear q0
 refine (f1.out _ BW.out).mono ?_
 rintro e w1 ⟨rfl,b1⟩
 replace BW:=Lib.hid (BW.out.trans (b1.mono BW.out.size))
 have B_X0:=Lib.hid b1
 clear b1
 have x0:=(PB.out.below B_X0.out PB.out.lt).cell (i:=0) rfl
 cases b1
 ·go_wp2
  go_ret2
  exact⟨by rw [H1.out,H2.out];rfl,BW.out⟩
 go_wp2_with fail
 refine (f2.out _ BW.out).mono ?_
 rintro e w2 ⟨rfl,b2⟩
 replace BW:=Lib.hid (BW.out.trans (b2.mono BW.out.size))
 replace B_X0:=Lib.hid (B_X0.out.trans (b2.mono B_X0.out.size))
 clear b2
 clear x0
 cases b2
 ·go_wp2
  go_ret2
  exact⟨by rw [H1.out,H2.out];rfl,BW.out⟩
 go_wp2_with fail
 refine (f3.out _ BW.out (PB.out.below B_X0.out PB.out.lt).lt ((PB.out.below B_X0.out PB.out.lt).cell (i:=0) rfl)).mono ?_
 rintro e w3 ⟨rfl,b3⟩
 replace BW:=Lib.hid (BW.out.trans (b3.mono BW.out.size))
 replace B_X0:=Lib.hid (B_X0.out.trans (b3.mono B_X0.out.size))
 clear b3
 go_wp2
 go_ret2
 exact⟨by rw [H1.out,H2.out];simp,BW.out⟩
theorem sindex_any (v : Value) (l : List Int) (x : Int) (w : World) (hl : IntsAt w.heap.size w v l) :
  Calls Tryz.prog 160 #[v,.int .i64 x] w (FindQ (decide (x ∈ l)) w):=by
 obtain⟨hl,a,cap,rfl,hc⟩:=hl
 go_enter Tryz.func160,Tryz.ntmps160
 go_wp2
 go_loopw [8] (fun i wr=>∃ k:Nat,k≤l.length∧i=.int .i64 k∧(∀ j,j<k→l.getD j 0≠x)∧wr=w) (fun i _=>l.length - (intOf i).toNat)
 case atStart=>exact⟨0,Nat.zero_le _,rfl,fun j h=>by omega,rfl⟩
 case round =>
  obtain⟨k,hk,rfl,hall,hB⟩:=hrel
  subst hB
  by_cases hlt:k<l.length
  ·rcases hc with rfl | ⟨b,o,rfl,hb,hc⟩
   ·simp at hlt
   have c1:=hc k hlt
   have hall':=Lib.hid hall
   have hc':=Lib.hid hc
   have hg:l.getD k 0 ∈ l:=by rw [List.getD,List.getElem?_eq_getElem hlt];exact List.getElem_mem hlt
   obtain⟨y,hy0⟩:∃ y,l.getD k 0=y:=⟨_,rfl⟩
   rw [hy0] at c1 hg
   have HY:=Lib.hid hy0
   clear hall hc hy0
   by_cases hy:x=y
   ·have dy:(x == y)=true:=by rw [beq_iff_eq];exact hy
    have hr:=Lib.hid (show decide (x ∈ l)=true by rw [decide_eq_true_eq,hy];exact hg)
    clear hg hy
    go_wp2
    go_ret
    exact⟨k,rfl,by omega,by omega,by rw [hr.out];simp,Below.refl _ _⟩
   ·have dy:(x == y)=false:=by rw [beq_eq_false_iff_ne];exact hy
    have hyy:=Lib.hid hy
    clear hg hy
    go_wp2
    go_roundw
    case rel =>
     refine⟨k+1,by omega,by go_num,fun j hj=>?_,by first | rfl | trivial⟩
     by_cases e:j=k
     ·rw [e,HY.out];exact fun h=>hyy.out h.symm
     ·exact hall'.out j (by omega)
    case measure=>simp [intOf];omega
  ·have hr:Hid (decide (x ∈ l)=false):=by
    show decide (x ∈ l)=false
    rw [decide_eq_false_iff_not]
    intro h
    obtain⟨j,hj,rfl⟩:=List.getElem_of_mem h
    exact hall j (by omega) (by rw [List.getD,List.getElem?_eq_getElem hj];rfl)
   clear hall
   go_wp2
   go_ret
   exact⟨-1,rfl,by omega,by omega,by rw [hr.out];simp,Below.refl _ _⟩
theorem scontains_any (v:Value) (l:List Int) (x:Int) (w:World) (hl:IntsAt w.heap.size w v l) :
  Calls Tryz.prog 95 #[v,.int .i64 x] w fun e w'=>e=.returned (.bool (decide (x ∈ l)))∧Below w.heap.size w w':=by
 go_enter Tryz.func95,Tryz.ntmps95
 go_wp2_with (go_at_call 160;refine (sindex_any _ _ _ _ hl).mono ?_;rintro e w1 ⟨r,rfl,r1,r2,r3,hb⟩)
 go_ret
 exact⟨by first | rfl | exact ret_bool r3,hb⟩
end Go.Proofs.YtpimbaaahcemhaaGreat
namespace Go.Proofs.YtpimbaaahcemhaaGreat
open Go.RowKit
attribute [local irreducible] wpQuiet
theorem usedT_length (m:Msn) (l:List Int):(usedT m l).length=m.ways.length:=by unfold usedT;exact upto_length _ _
theorem upto_getD (f:Nat→Int) {n j:Nat} (h:j<n):(upto f n).getD j 0=f j:=by simp [upto,List.getD,h]
theorem ints_cells0 {n0:Nat} {W:World} {v:Value} {l:List Int} (h:IntsAt n0 W v l) (h0:0<l.length):∃ b o cap,v=.slice (some ⟨b,o,none⟩) l.length (l.length+cap)∧b<n0∧∀ j,j<l.length→W.cell? ⟨b,o+j,none⟩=some (.int .i64 (l.getD j 0)):=by
 obtain⟨_,a,cap,e,hc⟩:=h
 rcases hc with rfl | ⟨b,o,rfl,hb,hc⟩
 ·simp at h0
 ·exact⟨b,o,cap,e,hb,hc⟩
end Go.Proofs.YtpimbaaahcemhaaGreat
namespace Go.Proofs.YtpimbaaahcemhaaGreat
open Go.RowKit
attribute [local irreducible] wpQuiet
structure TripAt (n0:Nat) (W:World) (m:Msn) (l:List Int) (vw vh vr vb va vt ve:Value):Prop where
 msn:MsnAt n0 W m vw vh vr
 bef:IntsAt n0 W vb (rdBU m l)
 aft:IntsAt n0 W va (rdAU m l)
 tim:IntsAt n0 W vt (usedT m l)
 ene:IntsAt n0 W ve (usedE m l)
theorem TripAt.up {A B:World} {m:Msn} {l:List Int} {vw vh vr vb va vt ve:Value} (h:TripAt A.heap.size A m l vw vh vr vb va vt ve) (k:Below A.heap.size A B):TripAt B.heap.size B m l vw vh vr vb va vt ve :=
 ⟨(h.msn.below k).mono k.size,(h.bef.below k).mono k.size,(h.aft.below k).mono k.size,(h.tim.below k).mono k.size,(h.ene.below k).mono k.size⟩
theorem rdBU_length (m:Msn) (l:List Int):(rdBU m l).length=m.ways.length:=by unfold rdBU;exact upto_length _ _
theorem rdB_getD {m:Msn} {l:List Int} {k:Nat} (h:k<m.ways.length):(rdBU m l).getD k 0=rdB m l k:=by rw [rdBU,upto_getD _ h]
theorem rdA_getD {m:Msn} {l:List Int} {k:Nat} (h:k<m.ways.length):(rdAU m l).getD k 0=rdA m l k:=by rw [rdAU,upto_getD _ h]
end Go.Proofs.YtpimbaaahcemhaaGreat
namespace Go.Proofs.YtpimbaaahcemhaaGreat
open Go.RowKit
attribute [local irreducible] wpQuiet
theorem usedE_length (m:Msn) (l:List Int):(usedE m l).length=m.ways.length:=by unfold usedE;exact upto_length _ _
theorem lie_eq {m:Msn} (V:VMsn m) {r:Int} (h:0≤r∧r≤100000):dskE r=0∧shE (dskL r) (atW m 0)=0∧withinB (shL (dskL r) (atW m 0)) m.home=lieB m r:=by
 have hr:radOk r=true:=by simp [radOk,h]
 have hd:dskL r=diskP r.toNat:=by simp [dskL,hr]
 have c:=cor_ok V (a:=0) (b:=0) (by have:=V.n2;omega) (by have:=V.n2;omega) h h
 obtain⟨⟨hp,-⟩,ha,-⟩:=corE_zero c
 have G:=disk_valid (n:=r.toNat) (by omega)
 have hv:goValid (diskP r.toNat)=true:=by simpa [goValid] using G
 have e2:shE (dskL r) (atW m 0)=0:=by rw [hd];simp [shE,hv,hp,ha]
 refine⟨by simp [dskE,hr],e2,?_⟩
 have e3:shL (dskL r) (atW m 0)=mvL (atW m 0) (diskP r.toNat):=by simp only [shL,e2,if_true];rw [hd]
 rw [e3]
 have hv2:goValid (mvL (atW m 0) (diskP r.toNat))=true:=by rw [goValid_mv _ G];exact ha
 simp [withinB,lieB,hv2,V.home]
end Go.Proofs.YtpimbaaahcemhaaGreat
namespace Go.Proofs.YtpimbaaahcemhaaGreat
noncomputable def ccB (m:Msn) (a:Nat) (u:Int) (b:Nat) (w:Int):Bool:=decide (corE (atW m a) u (atW m b) w=0) && clrB m a u b w
noncomputable def ccC (m:Msn) (a:Nat) (r:Int):Nat→Bool
 | 0=>true
 | j+1=>ccC m a r j && ccB m (itB m a j) (bkR m a r j) (itB m a (j+1)) (bkR m a r (j+1))
noncomputable def hwE (m:Msn) (a:Nat) (r:Int):Int:=if ccC m a r (dep m a)=false then 50 else if lieB m (bkR m a r (dep m a))=false then 52 else 0
noncomputable def kpsE (m:Msn) (i:Nat) (u v t e:Int):Int :=
 if ccB m i u (i+1) v=false then 50
 else if hwE m (i+1) v=50 then 50
 else if hwE m (i+1) v=52 then 52
 else if e+homeE m (i+1) (dep m (i+1))>m.battery then 51
 else if t+homeT m (i+1) (dep m (i+1))>m.deadline then 6
 else 0
theorem ccB_bd {m:Msn} {a b:Nat} {u w:Int} (h:ccB m a u b w=true):(0≤u∧u≤100000)∧0≤w∧w≤100000:=by
 unfold ccB at h
 rw [Bool.and_eq_true,decide_eq_true_eq] at h
 obtain⟨⟨-,-,h1,h2,h3,h4⟩,-⟩:=corE_zero h.1
 exact⟨⟨h1,h2⟩,h3,h4⟩
theorem ccC_bd {m:Msn} {a:Nat} {r:Int} (h0:0≤r∧r≤100000):∀ j,ccC m a r j=true→0≤bkR m a r j∧bkR m a r j≤100000
 | 0,_=>h0
 | j + 1, h => by
  simp only [ccC,Bool.and_eq_true] at h
  exact (ccB_bd h.2).2
theorem ccC_down {m:Msn} {a:Nat} {r:Int}:∀ n j,j≤n→ccC m a r n=true→ccC m a r j=true
 | 0,j,hj,h=>by rw [Nat.le_zero.1 hj];rfl
 | n + 1, j, hj, h => by
  rcases Nat.lt_or_eq_of_le hj with e | e
  ·simp only [ccC,Bool.and_eq_true] at h
   exact ccC_down n j (by omega) h.1
  ·rw [e];exact h
theorem hwE_or (m:Msn) (a:Nat) (r:Int):hwE m a r=50∨hwE m a r=52∨hwE m a r=0:=by
 unfold hwE
 repeat' split
 all_goals simp
theorem ccB_of {m:Msn} (V:VMsn m) {a b:Nat} (ha:a<m.ways.length) (hb:b<m.ways.length) {u w:Int} (hu:0≤u∧u≤100000) (hw:0≤w∧w≤100000):ccB m a u b w=clrB m a u b w:=by
 unfold ccB
 rw [cor_ok V ha hb hu hw]
 simp
theorem firE_all {m:Msn} (V:VMsn m) {a b:Nat} {u v:Int} (h:corE (atW m a) u (atW m b) v=0):firE (corL (atW m a) u (atW m b) v) m.rocks=0:=by
 unfold corL
 rw [if_pos h]
 have g:=goValid_of (cor_valid h)
 have o1:okRocks (corH (atW m a) u.toNat (atW m b) v.toNat) m.rocks=true:=by unfold okRocks;rw [g,Bool.true_and];exact V.rocks
 unfold firE
 rw [if_pos V.nr,if_pos o1]
theorem lie_bothE {m:Msn} (V:VMsn m) {r:Int} (h:0≤r∧r≤100000):bothE (shL (dskL r) (atW m 0)) m.home=0:=by
 have hr:radOk r=true:=by simp [radOk,h]
 have hd:dskL r=diskP r.toNat:=by simp [dskL,hr]
 have c:=cor_ok V (a:=0) (b:=0) (by have:=V.n2;omega) (by have:=V.n2;omega) h h
 obtain⟨⟨hp,-⟩,ha,-⟩:=corE_zero c
 have G:=disk_valid (n:=r.toNat) (by omega)
 have hv:goValid (diskP r.toNat)=true:=by simpa [goValid] using G
 have e2:shE (dskL r) (atW m 0)=0:=by rw [hd];simp [shE,hv,hp,ha]
 have e3:shL (dskL r) (atW m 0)=mvL (atW m 0) (diskP r.toNat):=by simp only [shL,e2,if_true];rw [hd]
 rw [e3]
 have hv2:goValid (mvL (atW m 0) (diskP r.toNat))=true:=by rw [goValid_mv _ G];exact ha
 simp [bothE,hv2,V.home]
end Go.Proofs.YtpimbaaahcemhaaGreat
namespace Go.Proofs.YtpimbaaahcemhaaGreat
open Go.RowKit
attribute [local irreducible] wpQuiet
theorem cwithin_any (n most:Int) (w:World):Calls Tryz.prog 94 #[.int .i64 n,.int .i64 most] w fun e w'=>e=.returned (.bool (wthB n most))∧w'=w:=by
 have H:Hid (wthB n most=decide (0≤n∧n≤most)):=rfl
 by_cases h:0≤n
 ·have d:decide (0≤n)=true:=by rw [decide_eq_true_eq];exact h
  by_cases h2:n≤most
  ·have d2:decide (n≤most)=true:=by rw [decide_eq_true_eq];exact h2
   have HV:=Lib.hid (show wthB n most=true by rw [H.out,decide_eq_true_eq];exact⟨h,h2⟩)
   clear h h2
   go_enter Tryz.func94,Tryz.ntmps94
   go_wp2
   go_ret
   exact⟨by rw [HV.out];rfl,rfl⟩
  ·have d2:decide (n≤most)=false:=by rw [decide_eq_false_iff_not];exact h2
   have HV:=Lib.hid (show wthB n most=false by rw [H.out,decide_eq_false_iff_not];exact fun x=>h2 x.2)
   clear h h2
   go_enter Tryz.func94,Tryz.ntmps94
   go_wp2
   go_ret
   exact⟨by rw [HV.out];rfl,rfl⟩
 ·have d:decide (0≤n)=false:=by rw [decide_eq_false_iff_not];exact h
  have HV:=Lib.hid (show wthB n most=false by rw [H.out,decide_eq_false_iff_not];exact fun x=>h x.1)
  clear h
  go_enter Tryz.func94,Tryz.ntmps94
  go_wp2
  go_ret
  exact⟨by rw [HV.out];rfl,rfl⟩
theorem radE_eq (m:Msn) (l:List Int):rdE m l=if radOkB m l=true then 0 else 1:=by unfold rdE;rfl
theorem radOk_two {m:Msn} {l:List Int} (h:radOkB m l=true):validB m=true∧stopsB m l=true:=by unfold radOkB at h;rwa [Bool.and_eq_true] at h
set_option linter.unusedSimpArgs false in
set_option linter.unusedVariables false in
set_option maxRecDepth 8000 in
set_option maxHeartbeats 6400000 in
theorem formed_any (m : Msn) (vw vh vr : Value) (c : Crt) (vs vp ve : Value) (w : World) (hm : MsnAt w.heap.size w m vw vh vr) (hc : CrtAt w.heap.size w c vs vp ve) :
  Calls Tryz.prog 41 #[.agg (msnCells m vw vh vr),.agg #[vs,vp,ve]] w fun e w'=>e=.returned (.bool (frmB m c))∧Below w.heap.size w w':=by
 have f1:=fun w1 (B:Below w.heap.size w w1)=>radii_all m vw vh vr vs c.stops w1 ((hm.below B).mono B.size) ((hc.1.below B).mono B.size)
 rw [radE_eq] at f1
 have hv2:=fun h=>radOk_two (m:=m) (l:=c.stops) h
 have HF:frmB m c=(radOkB m c.stops && decide (c.psg.length=m.ways.length - 1) && decide (c.ret.length=m.ways.length - 1) && decide (∀ j,j<c.psg.length→okP c j=true)):=rfl
 generalize frmB m c=fb at *
 obtain⟨⟨-,a1,cap1,rfl,-⟩,⟨-,a2,cap2,rfl,-⟩,⟨-,a3,cap3,rfl,-⟩⟩:=hm
 obtain⟨⟨-,aS,cS,rfl,-⟩,⟨-,ap,cp,rfl,hcp⟩,⟨-,ar,cr,rfl,hcr⟩⟩:=hc
 unfold msnCells at *
 have HCP:=Lib.hid hcp
 have HCR:=Lib.hid hcr
 replace f1:=Lib.hid f1
 replace HF:=Lib.hid HF
 clear hcp hcr
 have BW:=Lib.hid (Below.refl w.heap.size w)
 go_enter Tryz.func41,Tryz.ntmps41
 go_wp2_with fail
 generalize hXX0:World.alloc (World.alloc w _) _=X0
 obtain⟨q0,q1,hA,hzX0⟩:=box2 hXX0
 clear hXX0
 have BW:=Lib.hid hA
 clear hA
 have MB:=Lib.hid q0
 clear q0
 have CB:=Lib.hid q1
 clear q1
 clear hzX0
 obtain⟨c0,c1,c2,c3,c4,c5,c6,c7,c8,c9,c10⟩:=msn_cells (m:=m) MB.out
 have hcb:=CB.out
 have e0:=hcb.cell (i:=0) rfl
 have e1:=hcb.cell (i:=1) rfl
 have e2:=hcb.cell (i:=2) rfl
 refine (f1.out _ BW.out).mono ?_
 rintro e w1 ⟨u1,u2,rfl,-,-,b1⟩
 replace BW:=Lib.hid (BW.out.trans (b1.mono BW.out.size))
 have B_X0:=Lib.hid b1
 clear b1
 clear c0 c1 c2 c3 c4 c5 c6 c7 c8 c9 c10 hcb e0 e1 e2
 obtain⟨c0,c1,c2,c3,c4,c5,c6,c7,c8,c9,c10⟩:=msn_cells (m:=m) (MB.out.below B_X0.out MB.out.lt)
 have hcb:=(CB.out.below B_X0.out CB.out.lt)
 have e0:=hcb.cell (i:=0) rfl
 have e1:=hcb.cell (i:=1) rfl
 have e2:=hcb.cell (i:=2) rfl
 cases hok:radOkB m c.stops
 ·have HV:=Lib.hid (show fb=false by rw [HF.out,hok];rfl)
  go_wp2
  go_ret
  exact⟨by rw [HV.out];rfl,BW.out⟩
 obtain⟨hV,-⟩:=hv2 hok
 have V:=(validB_iff m).1 hV
 have n2:=V.n2
 have n41:=V.n41
 have hfb:=Lib.hid (show fb=(decide (c.psg.length=m.ways.length - 1) && decide (c.ret.length=m.ways.length - 1) && decide (∀ j,j<c.psg.length→okP c j=true)) by rw [HF.out,hok];rfl)
 clear hok hV V hv2 HF
 obtain⟨n,hn⟩:∃ n,m.ways.length - 1=n:=⟨_,rfl⟩
 have jw:IntKind.i64.wrap ((m.ways.length:Int) - 1)=(n:Int):=by rw [show (m.ways.length:Int) - 1=(n:Int) by omega];exact IntWalk.i64_in _ (by omega)
 have hn8:n≤40:=by omega
 replace hfb:=hfb.out
 rw [hn] at hfb
 replace hfb:=Lib.hid hfb
 clear hn
 by_cases h1:c.psg.length=n
 rotate_left
 ·have d1:((c.psg.length:Int) == (n:Int))=false:=by rw [beq_eq_false_iff_ne];omega
  have d1':((c.psg.length:Int) != (n:Int))=true:=by rw [bne_iff_ne];omega
  have HV:=Lib.hid (show fb=false by rw [hfb.out,decide_eq_false h1];rfl)
  clear h1
  go_wp2
  go_ret
  exact⟨by rw [HV.out];rfl,BW.out⟩
 by_cases h2:c.ret.length=n
 rotate_left
 ·have d1:((c.psg.length:Int) != (n:Int))=false:=by rw [bne_eq_false_iff_eq];omega
  have d2:((c.ret.length:Int) == (n:Int))=false:=by rw [beq_eq_false_iff_ne];omega
  have d2':((c.ret.length:Int) != (n:Int))=true:=by rw [bne_iff_ne];omega
  have HV:=Lib.hid (show fb=false by rw [hfb.out,decide_eq_false h2];simp)
  clear h1 h2
  go_wp2
  go_ret
  exact⟨by rw [HV.out];rfl,BW.out⟩
 have d1:((c.psg.length:Int) == (n:Int))=true:=by rw [beq_iff_eq];omega
 have d2:((c.ret.length:Int) == (n:Int))=true:=by rw [beq_iff_eq];omega
 have d3:((n:Int) == (n:Int))=true:=by simp
 replace hfb:=hfb.out
 rw [decide_eq_true h1,decide_eq_true h2,Bool.true_and,Bool.true_and,h1] at hfb
 have H1:=Lib.hid h1
 have H2:=Lib.hid h2
 rw [h1] at e1
 rw [h2] at e2
 clear h1 h2 d1 d2
 replace hfb:=Lib.hid hfb
 go_wp2
 have BC:=Lib.hid (Below.refl w1.heap.size w1)
 have hCB:=Lib.hid (CB.out.below B_X0.out CB.out.lt)
 clear c0 c1 c2 c3 c4 c5 c6 c7 c8 c9 c10 hcb e0 e1 e2
 go_loopw [42] (fun i wr=>∃ k:Nat,k≤n∧i=.int .i64 k∧(∀ j,j<k→okP c j=true)∧Below w1.heap.size w1 wr) (fun i _=>n - (intOf i).toNat)
 case atStart=>exact⟨0,Nat.zero_le _,rfl,fun j h=>by omega,Below.refl _ _⟩
 case round =>
  obtain⟨k,hk,rfl,hall,hB⟩:=hrel
  obtain⟨wo,hwo⟩:∃ x,x=wr:=⟨_,rfl⟩
  subst hwo
  have HA:=Lib.hid hall
  have BB:=Lib.hid (And.intro hB (BW.out.trans (hB.mono BW.out.size)))
  clear hall hB
  by_cases hlt:k<n
  ·obtain⟨b,o,rfl,hb,hc⟩:=HCP.out.resolve_left (by intro h;have:=H1.out;rw [h] at this;simp at this;omega)
   obtain⟨u,x0,hu,x1,x2,x3,x4⟩:=hc k (by rw [H1.out];exact hlt)
   obtain⟨b',o',rfl,hb',hc'⟩:=HCR.out.resolve_left (by intro h;have:=H2.out;rw [h] at this;simp at this;omega)
   have x5:=hc' k (by rw [H2.out];exact hlt)
   have hok:Hid (okP c k=(goValid (pgd c.psg k).cor && (wthB (pgd c.psg k).fr 100000 && (wthB (pgd c.psg k).tw 100000 && (wthB (pgd c.psg k).tm 1000000000 && (wthB (pgd c.psg k).en 1000000000 && wthB (c.ret.getD k 0) 1000000000)))))):=rfl
   have hno:=Lib.hid (fun h:okP c k=false=>show fb=false by
    rw [hfb.out,decide_eq_false_iff_not]
    intro h'
    rw [h' k hlt] at h
    cases h)
   generalize pgd c.psg k=p at *
   generalize c.ret.getD k 0=re at *
   replace x0:=(BB.out.2.cell (p:=⟨b,o+k*5,none⟩) hb).trans x0
   replace x1:=(BB.out.2.cell (p:=⟨b,o+k*5+1,none⟩) hb).trans x1
   replace x2:=(BB.out.2.cell (p:=⟨b,o+k*5+2,none⟩) hb).trans x2
   replace x3:=(BB.out.2.cell (p:=⟨b,o+k*5+3,none⟩) hb).trans x3
   replace x4:=(BB.out.2.cell (p:=⟨b,o+k*5+4,none⟩) hb).trans x4
   replace x5:=(BB.out.2.cell (p:=⟨b',o'+k,none⟩) hb').trans x5
   have HU:=Lib.hid ((hu.below BB.out.2).mono BB.out.2.size)
   obtain⟨au,cu,rfl⟩:=HU.out.len
   have HX5:=Lib.hid x5
   have hbz:=BB.out.2.size
   have hbb2:b'<wo.heap.size:=by omega
   have hCX:=Lib.hid (hCB.out.below BB.out.1 hCB.out.lt)
   have dk:decide ((k:Int)<(n:Int))=true:=by rw [decide_eq_true_eq];omega
   have kl:(k:Int)<(n:Int):=by omega
   have k0:(0:Int)≤(k:Int):=by omega
   have BR:=Lib.hid (Below.refl wo.heap.size wo)
   clear hc hc' hu x5
   go_upto_region 8 with fail
   generalize hXX8:World.alloc wo _=X8
   obtain⟨q0,hA,hzX8⟩:=box1 hXX8
   clear hXX8
   have BR:=Lib.hid hA
   clear hA
   have PB:=Lib.hid q0
   clear q0
   clear x0 x1 x2 x3 x4
   have hpb:=PB.out
   have y0:=hpb.cell (i:=0) rfl
   have y1:=hpb.cell (i:=1) rfl
   have y2:=hpb.cell (i:=2) rfl
   have y3:=hpb.cell (i:=3) rfl
   have y4:=hpb.cell (i:=4) rfl
   have hcx:=(hCX.out.below BR.out hCX.out.lt)
   have e2:X8.cell? ⟨w.heap.size+1,2,none⟩=some (.slice (some ⟨b',o',none⟩) n (n+cr)):=(hcx.cell (i:=2) rfl).trans (by rw [H2.out];rfl)
   have x5:=(BR.out.cell (p:=⟨b',o'+k,none⟩) hbb2).trans HX5.out
   go_wp2_with fail
   refine (hullValid_any _ p.cor X8 ((HU.out.below BR.out).mono BR.out.size)).mono ?_
   rintro e w2 ⟨rfl,b2⟩
   replace BR:=Lib.hid (BR.out.trans (b2.mono BR.out.size))
   have B_X8:=Lib.hid b2
   clear b2
   clear hpb y0 y1 y2 y3 y4 hcx e2 x5
   have hpb:=(PB.out.below B_X8.out PB.out.lt)
   have y0:=hpb.cell (i:=0) rfl
   have y1:=hpb.cell (i:=1) rfl
   have y2:=hpb.cell (i:=2) rfl
   have y3:=hpb.cell (i:=3) rfl
   have y4:=hpb.cell (i:=4) rfl
   have hcx:=(hCX.out.below BR.out hCX.out.lt)
   have e2:w2.cell? ⟨w.heap.size+1,2,none⟩=some (.slice (some ⟨b',o',none⟩) n (n+cr)):=(hcx.cell (i:=2) rfl).trans (by rw [H2.out];rfl)
   have x5:=(BR.out.cell (p:=⟨b',o'+k,none⟩) hbb2).trans HX5.out
   cases hb0:goValid p.cor
   ·skip
    have HV:=Lib.hid (hno.out (by rw [hok.out,hb0];rfl))
    go_wp2
    go_ret
    exact⟨by rw [HV.out];rfl,BB.out.2.trans (BR.out.mono BB.out.2.size)⟩
   go_wp2_with fail
   refine (cwithin_any _ _ _).mono ?_
   rintro e0 w0 ⟨rfl,hw0⟩
   rw [hw0]
   clear hw0 w0
   cases hb1:wthB p.fr 100000
   ·skip
    have HV:=Lib.hid (hno.out (by rw [hok.out,hb0,hb1];rfl))
    go_wp2
    go_ret
    exact⟨by rw [HV.out];rfl,BB.out.2.trans (BR.out.mono BB.out.2.size)⟩
   go_wp2_with fail
   refine (cwithin_any _ _ _).mono ?_
   rintro e0 w0 ⟨rfl,hw0⟩
   rw [hw0]
   clear hw0 w0
   cases hb2:wthB p.tw 100000
   ·skip
    have HV:=Lib.hid (hno.out (by rw [hok.out,hb0,hb1,hb2];rfl))
    go_wp2
    go_ret
    exact⟨by rw [HV.out];rfl,BB.out.2.trans (BR.out.mono BB.out.2.size)⟩
   go_wp2_with fail
   refine (cwithin_any _ _ _).mono ?_
   rintro e0 w0 ⟨rfl,hw0⟩
   rw [hw0]
   clear hw0 w0
   cases hb3:wthB p.tm 1000000000
   ·skip
    have HV:=Lib.hid (hno.out (by rw [hok.out,hb0,hb1,hb2,hb3];rfl))
    go_wp2
    go_ret
    exact⟨by rw [HV.out];rfl,BB.out.2.trans (BR.out.mono BB.out.2.size)⟩
   go_wp2_with fail
   refine (cwithin_any _ _ _).mono ?_
   rintro e0 w0 ⟨rfl,hw0⟩
   rw [hw0]
   clear hw0 w0
   cases hb4:wthB p.en 1000000000
   ·skip
    have HV:=Lib.hid (hno.out (by rw [hok.out,hb0,hb1,hb2,hb3,hb4];rfl))
    go_wp2
    go_ret
    exact⟨by rw [HV.out];rfl,BB.out.2.trans (BR.out.mono BB.out.2.size)⟩
   go_wp2_with fail
   refine (cwithin_any _ _ _).mono ?_
   rintro e0 w0 ⟨rfl,hw0⟩
   rw [hw0]
   clear hw0 w0
   cases hb5:wthB re 1000000000
   ·skip
    have HV:=Lib.hid (hno.out (by rw [hok.out,hb0,hb1,hb2,hb3,hb4,hb5];rfl))
    go_wp2
    go_ret
    exact⟨by rw [HV.out];rfl,BB.out.2.trans (BR.out.mono BB.out.2.size)⟩
   have HV:=Lib.hid (show okP c k=true by rw [hok.out,hb0,hb1,hb2,hb3,hb4,hb5];rfl)
   clear hpb y0 y1 y2 y3 y4 hcx e2 x5
   go_wp2
   go_roundw
   case rel =>
    refine⟨k+1,by omega,by go_num,fun j hj=>?_,BB.out.1.trans (BR.out.mono BB.out.1.size)⟩
    by_cases e:j=k
    ·rw [e];exact HV.out
    ·exact HA.out j (by omega)
   case measure=>simp [intOf];omega
  obtain rfl:k=n:=by omega
  have jj:decide ((k:Int)<(k:Int))=false:=by simp
  have HV:=Lib.hid (show fb=true by rw [hfb.out,decide_eq_true_eq];exact HA.out)
  go_wp2
  go_ret
  exact⟨by rw [HV.out];rfl,BB.out.2⟩
end Go.Proofs.YtpimbaaahcemhaaGreat
namespace Go.Proofs.YtpimbaaahcemhaaGreat
open Go.RowKit
attribute [local irreducible] wpQuiet
theorem frm_split {m:Msn} {c:Crt} (h:frmB m c=true):radOkB m c.stops=true∧c.psg.length=m.ways.length - 1∧c.ret.length=m.ways.length - 1∧∀ j,j<c.psg.length→okP c j=true:=by
 unfold frmB at h
 simp only [Bool.and_eq_true,decide_eq_true_eq] at h
 exact⟨h.1.1.1,h.1.1.2,h.1.2,h.2⟩
theorem okP_split {c:Crt} {j:Nat} (h:okP c j=true):goValid (pgd c.psg j).cor=true∧(0≤(pgd c.psg j).fr∧(pgd c.psg j).fr≤100000)∧(0≤(pgd c.psg j).tw∧(pgd c.psg j).tw≤100000)∧(0≤(pgd c.psg j).tm∧(pgd c.psg j).tm≤1000000000)∧(0≤(pgd c.psg j).en∧(pgd c.psg j).en≤1000000000)∧(0≤c.ret.getD j 0∧c.ret.getD j 0≤1000000000):=by
 unfold okP wthB at h
 simp only [Bool.and_eq_true,decide_eq_true_eq] at h
 exact h
set_option linter.unusedSimpArgs false in
set_option linter.unusedVariables false in
set_option maxRecDepth 8000 in
set_option maxHeartbeats 6400000 in
theorem before_any (m:Msn) (vw vh vr:Value) (c:Crt) (vs vp ve:Value) (w:World) (hm:MsnAt w.heap.size w m vw vh vr) (hc:CrtAt w.heap.size w c vs vp ve) (hF:frmB m c=true) (i:Nat) (hi:i<c.psg.length) :
  Calls Tryz.prog 42 #[.agg (msnCells m vw vh vr),.agg #[vs,vp,ve],.int .i64 i] w fun e w'=>e=.returned (.tuple #[.int .i64 (befR m c i),.int .i64 (befT m c i),.int .i64 (befE m c i)])∧Below w.heap.size w w':=by
 obtain⟨hok,hl1,hl2,hal⟩:=frm_split hF
 have V:=(validB_iff m).1 (radOk_two hok).1
 have n41:=V.n41
 have hid0:=V.idle
 have hww:=fun k hk=>wayB_true (waysB_at V.ways (j:=k) hk)
 have f1:=fun w1 (B:Below w.heap.size w w1)=>scontains_any vs c.stops (i:Int) w1 ((hc.1.below B).mono B.size)
 have HR:befR m c i=if i=0 then m.start else if (i:Int) ∈ c.stops then min (pgd c.psg (i - 1)).tw (wy m.ways i).fix else (pgd c.psg (i - 1)).tw:=rfl
 have HT:befT m c i=if i=0 then 0 else if (i:Int) ∈ c.stops then (pgd c.psg (i - 1)).tm+(wy m.ways i).wait else (pgd c.psg (i - 1)).tm:=rfl
 have HE:befE m c i=if i=0 then 0 else if (i:Int) ∈ c.stops then (pgd c.psg (i - 1)).en+m.idle*(wy m.ways i).wait else (pgd c.psg (i - 1)).en:=rfl
 generalize befR m c i=xR at *
 generalize befT m c i=xT at *
 generalize befE m c i=xE at *
 obtain⟨⟨-,a1,cap1,rfl,hcw⟩,⟨-,a2,cap2,rfl,-⟩,⟨-,a3,cap3,rfl,-⟩⟩:=hm
 obtain⟨⟨-,aS,cS,rfl,-⟩,⟨-,ap,cp,rfl,hcp⟩,⟨-,ar,cr,rfl,-⟩⟩:=hc
 unfold msnCells at *
 have HCW:=Lib.hid hcw
 have HCP:=Lib.hid hcp
 replace f1:=Lib.hid f1
 replace HR:=Lib.hid HR
 replace HT:=Lib.hid HT
 replace HE:=Lib.hid HE
 replace hww:=Lib.hid hww
 replace hal:=Lib.hid hal
 have BW:=Lib.hid (Below.refl w.heap.size w)
 clear hcw hcp V hF hok hl2
 by_cases hi0:i=0
 ·subst hi0
  clear hww hal
  have d0:(((0:Nat):Int) == 0)=true:=by simp
  go_enter Tryz.func42,Tryz.ntmps42
  have hwr:∀ o,(w.alloc (.cells #[.slice a1 m.ways.length (m.ways.length+cap1),.slice a2 m.home.length (m.home.length+cap2),.int .i64 m.start,.slice a3 m.rocks.length (m.rocks.length+cap3),.int .i64 m.speed,.int .i64 m.part,.int .i64 m.flow,.int .i64 m.idle,.int .i64 m.drive,.int .i64 m.battery,.int .i64 m.deadline] 26) |>.alloc o).cell? ⟨w.heap.size,2,none⟩=some (.int .i64 m.start):=fun o=>by
   have h1:=(Has.new w #[.slice a1 m.ways.length (m.ways.length+cap1),.slice a2 m.home.length (m.home.length+cap2),.int .i64 m.start,.slice a3 m.rocks.length (m.rocks.length+cap3),.int .i64 m.speed,.int .i64 m.part,.int .i64 m.flow,.int .i64 m.idle,.int .i64 m.drive,.int .i64 m.battery,.int .i64 m.deadline] 26).below ((Below.refl (w.heap.size+1) _).alloc (by simp) o) (by omega)
   exact h1.cell (i:=2) rfl
  go_wp2
  go_ret3
  exact⟨by rw [HR.out,HT.out,HE.out];rfl,by repeat (first | exact Below.refl _ _ | assumption | apply Below.drew | refine Below.setCell ?_ (by first | omega | (simp;done) | (simp;omega)) _ | refine Below.alloc ?_ (by first | omega | (simp;done) | (simp;omega)) _ | refine Below.call (by assumption) ?_ (by first | omega | (simp;done) | (simp;omega)))⟩
 obtain⟨k,rfl⟩:∃ k,i=k+1:=⟨i - 1,by omega⟩
 have hk1:k+1<m.ways.length:=by omega
 have hz:(((k+1:Nat):Int) == 0)=false:=by rw [beq_eq_false_iff_ne];omega
 have jw:IntKind.i64.wrap (((k+1:Nat):Int) - 1)=(k:Int):=by rw [show ((k+1:Nat):Int) - 1=(k:Int) by omega];exact IntWalk.i64_in _ (by omega)
 replace HR:=HR.out
 replace HT:=HT.out
 replace HE:=HE.out
 rw [if_neg (by omega),Nat.add_sub_cancel] at HR HT HE
 obtain⟨b,o,rfl,hb,hcp⟩:=HCP.out.resolve_left (by intro h;rw [h] at hi;simp at hi)
 obtain⟨u,x0,hu,x1,x2,x3,x4⟩:=hcp k (by omega)
 obtain⟨bw,ow,rfl,hbw,hcw⟩:=HCW.out.resolve_left (by intro h;rw [h] at hk1;simp at hk1)
 obtain⟨y0,y1,y2,y3,y4⟩:=hcw (k+1) hk1
 obtain⟨-,hr1,hr2,hr3,hr4,-⟩:=okP_split (hal.out k (by omega))
 obtain⟨-,-,-,-,g1,g2,g3,g4,-⟩:=hww.out (k+1) hk1
 obtain⟨au,cu,rfl⟩:=hu.len
 generalize pgd c.psg k=p at *
 obtain⟨⟨qx,qy,fx,wt,bk⟩,hq⟩:∃ q,wy m.ways (k+1)=q:=⟨_,rfl⟩
 rw [hq] at HR HT HE y0 y1 y2 y3 y4 g1 g2 g3 g4
 simp only at HR HT HE y0 y1 y2 y3 y4 g1 g2 g3 g4
 have hmul:=Int.mul_nonneg hid0.1 g3
 have hmul2:m.idle*wt≤1000*100000:=Int.mul_le_mul hid0.2 g4 g3 (by omega)
 have w1:IntKind.i64.wrap (p.tm+wt)=p.tm+wt:=IntWalk.i64_in _ (by omega)
 have w2':IntKind.i64.wrap (m.idle*wt)=m.idle*wt:=IntWalk.i64_in _ (by omega)
 have w3:IntKind.i64.wrap (p.en+m.idle*wt)=p.en+m.idle*wt:=IntWalk.i64_in _ (by omega)
 replace HR:=Lib.hid HR
 replace HT:=Lib.hid HT
 replace HE:=Lib.hid HE
 have kl:((k+1:Nat):Int)<m.ways.length:=by omega
 have kl0:(0:Int)≤((k+1:Nat):Int):=by omega
 have kp:(k:Int)<c.psg.length:=by omega
 have kp0:(0:Int)≤(k:Int):=by omega
 have kl':(k:Int)+1<m.ways.length:=by omega
 have kl0':(0:Int)≤(k:Int)+1:=by omega
 have jk:IntKind.i64.wrap (k:Int)=k:=IntWalk.i64_in _ (by omega)
 clear hcw hcp hww hal hq hmul hmul2 hu hi0 HCW HCP hl1
 go_enter Tryz.func42,Tryz.ntmps42
 go_upto_region 3 with fail
 generalize hXX0:World.alloc (World.alloc w _) _=X0
 obtain⟨q0,q1,hA,hzX0⟩:=box2 hXX0
 clear hXX0
 have BW:=Lib.hid hA
 clear hA
 have MB:=Lib.hid q0
 clear q0
 have CB:=Lib.hid q1
 clear q1
 clear hzX0
 have m0:=MB.out.cell (i:=0) rfl
 have e1:=CB.out.cell (i:=1) rfl
 replace x0:=(BW.out.cell (p:=⟨b,o+k*5,none⟩) hb).trans x0
 replace x1:=(BW.out.cell (p:=⟨b,o+k*5+1,none⟩) hb).trans x1
 replace x2:=(BW.out.cell (p:=⟨b,o+k*5+2,none⟩) hb).trans x2
 replace x3:=(BW.out.cell (p:=⟨b,o+k*5+3,none⟩) hb).trans x3
 replace x4:=(BW.out.cell (p:=⟨b,o+k*5+4,none⟩) hb).trans x4
 replace y0:=(BW.out.cell (p:=⟨bw,ow+(k+1)*5,none⟩) hbw).trans y0
 replace y1:=(BW.out.cell (p:=⟨bw,ow+(k+1)*5+1,none⟩) hbw).trans y1
 replace y2:=(BW.out.cell (p:=⟨bw,ow+(k+1)*5+2,none⟩) hbw).trans y2
 replace y3:=(BW.out.cell (p:=⟨bw,ow+(k+1)*5+3,none⟩) hbw).trans y3
 replace y4:=(BW.out.cell (p:=⟨bw,ow+(k+1)*5+4,none⟩) hbw).trans y4
 go_upto_region 3 with fail
 go_cut [9,10] from 15 (fun b1 b2 wx=>∃ x y,b1=.pointer (some ⟨x,0,none⟩)∧b2=.pointer (some ⟨y,0,none⟩)∧x≠y∧X0.heap.size≤x∧X0.heap.size≤y∧Has wx x #[.slice au p.cor.length (p.cor.length+cu),.int .i64 p.fr,.int .i64 p.tw,.int .i64 p.tm,.int .i64 p.en] 48∧Has wx y #[.int .i64 qx,.int .i64 qy,.int .i64 fx,.int .i64 wt,.int .i64 bk] 65∧Below X0.heap.size X0 wx)
 case first =>
  refine (wpIn_wide (n:=9)).1 ?_
  refine wpIn_region_sched (lets_wide _) 14 (fun X=>Below X0.heap.size X0 X) (by kernel_rfl) (by kernel_rfl) (by kernel_rfl) fun hH inv0=>?_
  refine sched_take hH (i:=0) (v:=.pointer (some ⟨w.heap.size+1,1,none⟩)) (drop_get rfl) (by omega) inv0 (by kernel_rfl) (by kernel_rfl) rfl (fun X hX=>?_) fun inv1=>?_
  ·go_simp
  simp only [Act.put,List.setIfInBounds_toArray,List.set_cons_zero,List.set_cons_succ]
  clear inv0
  refine sched_take hH (i:=1) (v:=.slice (some ⟨b,o,none⟩) c.psg.length (c.psg.length+cp)) (drop_get rfl) (by omega) inv1 (by kernel_rfl) (by kernel_rfl) rfl (fun X hX=>?_) fun inv2=>?_
  ·have re1:=(hX.cell (p:=⟨w.heap.size+1,1,none⟩) (World.block_lt_of_cell? _ _ e1)).trans e1;go_simp
  simp only [Act.put,List.setIfInBounds_toArray,List.set_cons_zero,List.set_cons_succ]
  clear inv1
  refine sched_take hH (i:=2) (v:=.int .i64 ((k+1:Nat):Int)) (drop_get rfl) (by omega) inv2 (by kernel_rfl) (by kernel_rfl) rfl (fun X hX=>?_) fun inv3=>?_
  ·go_simp
  simp only [Act.put,List.setIfInBounds_toArray,List.set_cons_zero,List.set_cons_succ]
  clear inv2
  refine sched_take hH (i:=3) (v:=.int .i64 (k:Int)) (drop_get rfl) (by omega) inv3 (by kernel_rfl) (by kernel_rfl) rfl (fun X hX=>?_) fun inv4=>?_
  ·go_simp
  simp only [Act.put,List.setIfInBounds_toArray,List.set_cons_zero,List.set_cons_succ]
  clear inv3
  refine sched_take hH (i:=4) (v:=.pointer (some ⟨b,o+k*5,none⟩)) (drop_get rfl) (by omega) inv4 (by kernel_rfl) (by kernel_rfl) rfl (fun X hX=>?_) fun inv5=>?_
  ·go_simp
  simp only [Act.put,List.setIfInBounds_toArray,List.set_cons_zero,List.set_cons_succ]
  clear inv4
  refine sched_take hH (i:=5) (v:=.agg #[.slice au p.cor.length (p.cor.length+cu),.int .i64 p.fr,.int .i64 p.tw,.int .i64 p.tm,.int .i64 p.en]) (drop_get rfl) (by omega) inv5 (by kernel_rfl) (by kernel_rfl) rfl (fun X hX=>?_) fun inv6=>?_
  ·have rx0:=(hX.cell (p:=⟨b,o+k*5,none⟩) (World.block_lt_of_cell? _ _ x0)).trans x0;have rx1:=(hX.cell (p:=⟨b,o+k*5+1,none⟩) (World.block_lt_of_cell? _ _ x1)).trans x1;have rx2:=(hX.cell (p:=⟨b,o+k*5+2,none⟩) (World.block_lt_of_cell? _ _ x2)).trans x2;have rx3:=(hX.cell (p:=⟨b,o+k*5+3,none⟩) (World.block_lt_of_cell? _ _ x3)).trans x3;have rx4:=(hX.cell (p:=⟨b,o+k*5+4,none⟩) (World.block_lt_of_cell? _ _ x4)).trans x4;go_simp
  simp only [Act.put,List.setIfInBounds_toArray,List.set_cons_zero,List.set_cons_succ]
  clear inv5
  refine sched_take hH (i:=6) (v:=.pointer (some ⟨w.heap.size,0,none⟩)) (drop_get rfl) (by omega) inv6 (by kernel_rfl) (by kernel_rfl) rfl (fun X hX=>?_) fun inv7=>?_
  ·go_simp
  simp only [Act.put,List.setIfInBounds_toArray,List.set_cons_zero,List.set_cons_succ]
  clear inv6
  refine sched_take hH (i:=7) (v:=.slice (some ⟨bw,ow,none⟩) m.ways.length (m.ways.length+cap1)) (drop_get rfl) (by omega) inv7 (by kernel_rfl) (by kernel_rfl) rfl (fun X hX=>?_) fun inv8=>?_
  ·have rm0:=(hX.cell (p:=⟨w.heap.size,0,none⟩) (World.block_lt_of_cell? _ _ m0)).trans m0;go_simp
  simp only [Act.put,List.setIfInBounds_toArray,List.set_cons_zero,List.set_cons_succ]
  clear inv7
  refine sched_take hH (i:=8) (v:=.int .i64 ((k+1:Nat):Int)) (drop_get rfl) (by omega) inv8 (by kernel_rfl) (by kernel_rfl) rfl (fun X hX=>?_) fun inv9=>?_
  ·go_simp
  simp only [Act.put,List.setIfInBounds_toArray,List.set_cons_zero,List.set_cons_succ]
  clear inv8
  refine sched_take hH (i:=9) (v:=.pointer (some ⟨bw,ow+(k+1)*5,none⟩)) (drop_get rfl) (by omega) inv9 (by kernel_rfl) (by kernel_rfl) rfl (fun X hX=>?_) fun inv10=>?_
  ·go_simp
  simp only [Act.put,List.setIfInBounds_toArray,List.set_cons_zero,List.set_cons_succ]
  clear inv9
  refine sched_take hH (i:=10) (v:=.agg #[.int .i64 qx,.int .i64 qy,.int .i64 fx,.int .i64 wt,.int .i64 bk]) (drop_get rfl) (by omega) inv10 (by kernel_rfl) (by kernel_rfl) rfl (fun X hX=>?_) fun inv11=>?_
  ·have ry0:=(hX.cell (p:=⟨bw,ow+(k+1)*5,none⟩) (World.block_lt_of_cell? _ _ y0)).trans y0;have ry1:=(hX.cell (p:=⟨bw,ow+(k+1)*5+1,none⟩) (World.block_lt_of_cell? _ _ y1)).trans y1;have ry2:=(hX.cell (p:=⟨bw,ow+(k+1)*5+2,none⟩) (World.block_lt_of_cell? _ _ y2)).trans y2;have ry3:=(hX.cell (p:=⟨bw,ow+(k+1)*5+3,none⟩) (World.block_lt_of_cell? _ _ y3)).trans y3;have ry4:=(hX.cell (p:=⟨bw,ow+(k+1)*5+4,none⟩) (World.block_lt_of_cell? _ _ y4)).trans y4;go_simp
  simp only [Act.put,List.setIfInBounds_toArray,List.set_cons_zero,List.set_cons_succ]
  clear inv10
  clear inv11 hH
  have hS0:Below X0.heap.size X0 X0.drew:=Below.drew (Below.refl _ _)
  have hz0:=hS0.size
  generalize X0.drew=X0 at *
  refine sched_all (rs:=[11,12]) (by kernel_rfl) (by simp) hS0 (by simp) (fun i hi'=>?_)
  simp only [List.mem_cons,List.not_mem_nil,or_false] at hi'
  rcases hi' with rfl | rfl
  ·skip
   refine okOp_run (drop_get rfl) rfl (v:=.pointer (some ⟨X0.heap.size,0,none⟩)) (w':=X0.alloc (.cells #[.slice none 0 0,.int .i64 0,.int .i64 0,.int .i64 0,.int .i64 0] 48)) (by go_simp) ?_
   simp only [Act.put,List.setIfInBounds_toArray,List.set_cons_zero,List.set_cons_succ]
   have hNX0:=Has.new X0 #[.slice none 0 0,.int .i64 0,.int .i64 0,.int .i64 0,.int .i64 0] 48
   have hS1:=hS0.alloc (by omega) (.cells #[.slice none 0 0,.int .i64 0,.int .i64 0,.int .i64 0,.int .i64 0] 48)
   have hz1:X0.heap.size<(X0.alloc (.cells #[.slice none 0 0,.int .i64 0,.int .i64 0,.int .i64 0,.int .i64 0] 48)).heap.size:=by simp
   generalize X0.alloc (.cells #[.slice none 0 0,.int .i64 0,.int .i64 0,.int .i64 0,.int .i64 0] 48)=X1 at *
   refine sched_all (rs:=[12]) (by kernel_rfl) (by simp) hS1 (by simp) (fun i hi'=>?_)
   simp only [List.mem_cons,List.not_mem_nil,or_false] at hi'
   subst hi'
   refine okOp_run (drop_get rfl) rfl (v:=.pointer (some ⟨X1.heap.size,0,none⟩)) (w':=X1.alloc (.cells #[.int .i64 0,.int .i64 0,.int .i64 0,.int .i64 0,.int .i64 0] 65)) (by go_simp) ?_
   simp only [Act.put,List.setIfInBounds_toArray,List.set_cons_zero,List.set_cons_succ]
   have hNX1:=Has.new X1 #[.int .i64 0,.int .i64 0,.int .i64 0,.int .i64 0,.int .i64 0] 65
   replace hNX0:=hNX0.below ((Below.refl X1.heap.size X1).alloc (Nat.le_refl _) (.cells #[.int .i64 0,.int .i64 0,.int .i64 0,.int .i64 0,.int .i64 0] 65)) hNX0.lt
   have hS2:=hS1.alloc (by omega) (.cells #[.int .i64 0,.int .i64 0,.int .i64 0,.int .i64 0,.int .i64 0] 65)
   have hz2:X1.heap.size<(X1.alloc (.cells #[.int .i64 0,.int .i64 0,.int .i64 0,.int .i64 0,.int .i64 0] 65)).heap.size:=by simp
   generalize X1.alloc (.cells #[.int .i64 0,.int .i64 0,.int .i64 0,.int .i64 0,.int .i64 0] 65)=X2 at *
   refine sched_all (rs:=[13]) (by kernel_rfl) (by simp) hS2 (by simp) (fun i hi'=>?_)
   simp only [List.mem_cons,List.not_mem_nil,or_false] at hi'
   subst hi'
   refine okOp_row (drop_get rfl) rfl rfl (g:=X0.heap.size) (cells:=#[.slice au p.cor.length (p.cor.length+cu),.int .i64 p.fr,.int .i64 p.tw,.int .i64 p.tm,.int .i64 p.en]) rfl rfl hNX0 (by kernel_rfl) rfl (by simp [Value.oneCell']) ?_
   simp only [Act.put,List.setIfInBounds_toArray,List.set_cons_zero,List.set_cons_succ]
   have hP:=Has.put (cells:=#[.slice au p.cor.length (p.cor.length+cu),.int .i64 p.fr,.int .i64 p.tw,.int .i64 p.tm,.int .i64 p.en]) hNX0
   have hO:=Has.keep (cells:=#[.slice au p.cor.length (p.cor.length+cu),.int .i64 p.fr,.int .i64 p.tw,.int .i64 p.tm,.int .i64 p.en]) (C:=X0.heap.size) hNX1 (by omega)
   have hS3:=Below.setRow hS2 (C:=X0.heap.size) (by omega) #[.slice au p.cor.length (p.cor.length+cu),.int .i64 p.fr,.int .i64 p.tw,.int .i64 p.tm,.int .i64 p.en]
   generalize X2.setRow X0.heap.size #[.slice au p.cor.length (p.cor.length+cu),.int .i64 p.fr,.int .i64 p.tw,.int .i64 p.tm,.int .i64 p.en]=X3 at *
   refine sched_done (by kernel_rfl) hS3 ?_
   simp only [List.drop_succ_cons,List.drop_zero]
   refine wpListIn_row rfl rfl (g:=X1.heap.size) (cells:=#[.int .i64 qx,.int .i64 qy,.int .i64 fx,.int .i64 wt,.int .i64 bk]) rfl rfl hO (by kernel_rfl) rfl (by simp [Value.oneCell']) ?_
   have hP2:=Has.put (cells:=#[.int .i64 qx,.int .i64 qy,.int .i64 fx,.int .i64 wt,.int .i64 bk]) hO
   have hP1:=Has.keep (cells:=#[.int .i64 qx,.int .i64 qy,.int .i64 fx,.int .i64 wt,.int .i64 bk]) (C:=X1.heap.size) hP (by omega)
   have hS4:=Below.setRow hS3 (C:=X1.heap.size) (by omega) #[.int .i64 qx,.int .i64 qy,.int .i64 fx,.int .i64 wt,.int .i64 bk]
   generalize X3.setRow X1.heap.size #[.int .i64 qx,.int .i64 qy,.int .i64 fx,.int .i64 wt,.int .i64 bk]=X4 at *
   gi_wp2
   go_meet
   exact⟨_,_,rfl,rfl,by omega,by omega,by omega,hP1,hP2,hS4⟩
  ·skip
   refine okOp_run (drop_get rfl) rfl (v:=.pointer (some ⟨X0.heap.size,0,none⟩)) (w':=X0.alloc (.cells #[.int .i64 0,.int .i64 0,.int .i64 0,.int .i64 0,.int .i64 0] 65)) (by go_simp) ?_
   simp only [Act.put,List.setIfInBounds_toArray,List.set_cons_zero,List.set_cons_succ]
   have hNX0:=Has.new X0 #[.int .i64 0,.int .i64 0,.int .i64 0,.int .i64 0,.int .i64 0] 65
   have hS1:=hS0.alloc (by omega) (.cells #[.int .i64 0,.int .i64 0,.int .i64 0,.int .i64 0,.int .i64 0] 65)
   have hz1:X0.heap.size<(X0.alloc (.cells #[.int .i64 0,.int .i64 0,.int .i64 0,.int .i64 0,.int .i64 0] 65)).heap.size:=by simp
   generalize X0.alloc (.cells #[.int .i64 0,.int .i64 0,.int .i64 0,.int .i64 0,.int .i64 0] 65)=X1 at *
   refine sched_all (rs:=[11]) (by kernel_rfl) (by simp) hS1 (by simp) (fun i hi'=>?_)
   simp only [List.mem_cons,List.not_mem_nil,or_false] at hi'
   subst hi'
   refine okOp_run (drop_get rfl) rfl (v:=.pointer (some ⟨X1.heap.size,0,none⟩)) (w':=X1.alloc (.cells #[.slice none 0 0,.int .i64 0,.int .i64 0,.int .i64 0,.int .i64 0] 48)) (by go_simp) ?_
   simp only [Act.put,List.setIfInBounds_toArray,List.set_cons_zero,List.set_cons_succ]
   have hNX1:=Has.new X1 #[.slice none 0 0,.int .i64 0,.int .i64 0,.int .i64 0,.int .i64 0] 48
   replace hNX0:=hNX0.below ((Below.refl X1.heap.size X1).alloc (Nat.le_refl _) (.cells #[.slice none 0 0,.int .i64 0,.int .i64 0,.int .i64 0,.int .i64 0] 48)) hNX0.lt
   have hS2:=hS1.alloc (by omega) (.cells #[.slice none 0 0,.int .i64 0,.int .i64 0,.int .i64 0,.int .i64 0] 48)
   have hz2:X1.heap.size<(X1.alloc (.cells #[.slice none 0 0,.int .i64 0,.int .i64 0,.int .i64 0,.int .i64 0] 48)).heap.size:=by simp
   generalize X1.alloc (.cells #[.slice none 0 0,.int .i64 0,.int .i64 0,.int .i64 0,.int .i64 0] 48)=X2 at *
   refine sched_all (rs:=[13]) (by kernel_rfl) (by simp) hS2 (by simp) (fun i hi'=>?_)
   simp only [List.mem_cons,List.not_mem_nil,or_false] at hi'
   subst hi'
   refine okOp_row (drop_get rfl) rfl rfl (g:=X1.heap.size) (cells:=#[.slice au p.cor.length (p.cor.length+cu),.int .i64 p.fr,.int .i64 p.tw,.int .i64 p.tm,.int .i64 p.en]) rfl rfl hNX1 (by kernel_rfl) rfl (by simp [Value.oneCell']) ?_
   simp only [Act.put,List.setIfInBounds_toArray,List.set_cons_zero,List.set_cons_succ]
   have hP:=Has.put (cells:=#[.slice au p.cor.length (p.cor.length+cu),.int .i64 p.fr,.int .i64 p.tw,.int .i64 p.tm,.int .i64 p.en]) hNX1
   have hO:=Has.keep (cells:=#[.slice au p.cor.length (p.cor.length+cu),.int .i64 p.fr,.int .i64 p.tw,.int .i64 p.tm,.int .i64 p.en]) (C:=X1.heap.size) hNX0 (by omega)
   have hS3:=Below.setRow hS2 (C:=X1.heap.size) (by omega) #[.slice au p.cor.length (p.cor.length+cu),.int .i64 p.fr,.int .i64 p.tw,.int .i64 p.tm,.int .i64 p.en]
   generalize X2.setRow X1.heap.size #[.slice au p.cor.length (p.cor.length+cu),.int .i64 p.fr,.int .i64 p.tw,.int .i64 p.tm,.int .i64 p.en]=X3 at *
   refine sched_done (by kernel_rfl) hS3 ?_
   simp only [List.drop_succ_cons,List.drop_zero]
   refine wpListIn_row rfl rfl (g:=X0.heap.size) (cells:=#[.int .i64 qx,.int .i64 qy,.int .i64 fx,.int .i64 wt,.int .i64 bk]) rfl rfl hO (by kernel_rfl) rfl (by simp [Value.oneCell']) ?_
   have hP2:=Has.put (cells:=#[.int .i64 qx,.int .i64 qy,.int .i64 fx,.int .i64 wt,.int .i64 bk]) hO
   have hP1:=Has.keep (cells:=#[.int .i64 qx,.int .i64 qy,.int .i64 fx,.int .i64 wt,.int .i64 bk]) (C:=X0.heap.size) hP (by omega)
   have hS4:=Below.setRow hS3 (C:=X0.heap.size) (by omega) #[.int .i64 qx,.int .i64 qy,.int .i64 fx,.int .i64 wt,.int .i64 bk]
   generalize X3.setRow X0.heap.size #[.int .i64 qx,.int .i64 qy,.int .i64 fx,.int .i64 wt,.int .i64 bk]=X4 at *
   gi_wp2
   go_meet
   exact⟨_,_,rfl,rfl,by omega,by omega,by omega,hP1,hP2,hS4⟩
 case rest =>
  obtain⟨bx,by',rfl,rfl,hxy,hbx,hby,HX0,HY0,hC⟩:=hcut
  replace BW:=Lib.hid (BW.out.trans (hC.mono BW.out.size))
  have B_X0:=Lib.hid hC
  clear hC
  have BX:=Lib.hid HX0
  have BY:=Lib.hid HY0
  clear HX0 HY0
  clear m0 e1 x0 x1 x2 x3 x4 y0 y1 y2 y3 y4
  have z2:=Low.fact (BX.out.cell (i:=2) rfl)
  have z3:=Low.fact (BX.out.cell (i:=3) rfl)
  have z4:=Low.fact (BX.out.cell (i:=4) rfl)
  go_wp2
  (refine wp_region_low (by kernel_rfl) (by kernel_rfl) ?_;(iterate 9 (apply quiet_want;(case hw=>rfl);(case hval=>(intro w1 hw1;have hcx:=Low.cells hw1;simp only [Oper.quietAt];go_simp;first | done | (first | fail) | rfl | exact⟨rfl,rfl⟩));simp only [Act.put,List.setIfInBounds_toArray,List.set_cons_zero,List.set_cons_succ]));refine wpQuiet_nil ?_;intro w2 hw2)
  obtain⟨wa,hwa⟩:∃ x,x=w2:=⟨_,rfl⟩
  subst hwa
  have hA:Below wc.heap.size wc wa:=hw2.out
  clear hw2 z2 z3 z4
  replace BW:=Lib.hid (BW.out.trans (hA.mono BW.out.size))
  replace B_X0:=Lib.hid (B_X0.out.trans (hA.mono B_X0.out.size))
  have B_wc:=Lib.hid hA
  clear hA
  have e0:=(CB.out.below B_X0.out CB.out.lt).cell (i:=0) rfl
  go_wp2_with fail
  refine (f1.out _ BW.out).mono ?_
  rintro e w1 ⟨rfl,b1⟩
  replace BW:=Lib.hid (BW.out.trans (b1.mono BW.out.size))
  replace B_X0:=Lib.hid (B_X0.out.trans (b1.mono B_X0.out.size))
  replace B_wc:=Lib.hid (B_wc.out.trans (b1.mono B_wc.out.size))
  clear b1
  clear e0
  cases hmem:decide (((k+1:Nat):Int) ∈ c.stops)
  ·have hm2:¬ ((k+1:Nat):Int) ∈ c.stops:=by simpa using hmem
   have HV:=Lib.hid (And.intro (HR.out.trans (if_neg hm2)) (And.intro (HT.out.trans (if_neg hm2)) (HE.out.trans (if_neg hm2))))
   clear hm2 hmem
   go_wp2
   go_ret3
   exact⟨by rw [HV.out.1,HV.out.2.1,HV.out.2.2];rfl,BW.out⟩
  have hm2:((k+1:Nat):Int) ∈ c.stops:=by simpa using hmem
  have HV:=Lib.hid (And.intro (HR.out.trans (if_pos hm2)) (And.intro (HT.out.trans (if_pos hm2)) (HE.out.trans (if_pos hm2))))
  clear hm2 hmem
  have z1:=Low.fact ((BY.out.below B_wc.out BY.out.lt).cell (i:=2) rfl)
  have z2:=Low.fact ((BY.out.below B_wc.out BY.out.lt).cell (i:=3) rfl)
  have z3:=Low.fact ((MB.out.below B_X0.out MB.out.lt).cell (i:=7) rfl)
  obtain⟨mi,hmi⟩:∃ x,min p.tw fx=x:=⟨_,rfl⟩
  go_wp2
  (refine wp_region_low (by kernel_rfl) (by kernel_rfl) ?_;(iterate 18 (apply quiet_want;(case hw=>rfl);(case hval=>(intro w1 hw1;have hcx:=Low.cells hw1;simp only [Oper.quietAt];go_simp;first | done | (first | fail) | rfl | exact⟨rfl,rfl⟩));simp only [Act.put,List.setIfInBounds_toArray,List.set_cons_zero,List.set_cons_succ]));refine wpQuiet_nil ?_;intro w2 hw2)
  have BZ:=Lib.hid (BW.out.trans (hw2.out.mono BW.out.size))
  go_wp2
  go_ret3
  exact⟨by rw [HV.out.1,HV.out.2.1,HV.out.2.2,hmi];rfl,BZ.out⟩
end Go.Proofs.YtpimbaaahcemhaaGreat
