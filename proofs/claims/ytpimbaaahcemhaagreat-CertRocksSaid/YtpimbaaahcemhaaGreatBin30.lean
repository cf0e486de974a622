/- Plans: what the legs of a mission with stops come to. No program here. | Certificates: what they are, and how they lie in memory. | slices of integ .. -/
import Derived.Test.YtpimbaaahcemhaaGreatBin03
import Derived.Test.YtpimbaaahcemhaaGreatBin19
import Derived.Test.YtpimbaaahcemhaaGreatBin25
import Derived.Test.YtpimbaaahcemhaaGreatBin13
import Derived.Test.YtpimbaaahcemhaaGreatBin26
import Derived.Test.YtpimbaaahcemhaaGreatBin12
import Derived.Test.YtpimbaaahcemhaaGreatBin10
import Derived.Test.YtpimbaaahcemhaaGreatBin28
import Derived.Test.YtpimbaaahcemhaaGreatBin29
import Derived.Test.YtpimbaaahcemhaaGreatBin21
import Derived.Test.YtpimbaaahcemhaaGreatBin27
import Derived.Test.YtpimbaaahcemhaaGreatBin17
namespace Go.Proofs.YtpimbaaahcemhaaGreat
def atW (m:Msn) (k:Nat):Pt:=⟨(wy m.ways k).x,(wy m.ways k).y⟩
noncomputable def clrB (m:Msn) (a:Nat) (u:Int) (b:Nat) (w:Int):Bool:=!firB (corL (atW m a) u (atW m b) w) m.rocks
def bkR (m:Msn) (a:Nat) (r:Int):Nat→Int
 | 0=>r
 | j+1=>bkR m a r j+gLeg m (itB m a j) (itB m a (j+1))
noncomputable def lieB (m:Msn) (r:Int):Bool:=decide ((cornersP (mvL (atW m 0) (diskP r.toNat)) m.home).length=(mvL (atW m 0) (diskP r.toNat)).length)
theorem atW_near {m:Msn} (V:VMsn m) {k:Nat} (hk:k<m.ways.length):-300000≤(atW m k).x∧(atW m k).x≤300000∧-300000≤(atW m k).y∧(atW m k).y≤300000:=way_near V.ways hk
theorem cor_ok {m:Msn} (V:VMsn m) {a b:Nat} (ha:a<m.ways.length) (hb:b<m.ways.length) {u w:Int} (hu:0≤u∧u≤100000) (hw:0≤w∧w≤100000):corE (atW m a) u (atW m b) w=0:=by
 have p:=atW_near V ha
 have q:=atW_near V hb
 exact cor_near (by omega) (by omega) hu hw
end Go.Proofs.YtpimbaaahcemhaaGreat
namespace Go.Proofs.YtpimbaaahcemhaaGreat
open Go.RowKit
structure Psg where
 cor:List Pt
 fr:Int
 tw:Int
 tm:Int
 en:Int
structure Crt where
 stops:List Int
 psg:List Psg
 ret:List Int
def pgd (l:List Psg) (j:Nat):Psg:=l.getD j ⟨[],0,0,0,0⟩
def PsgAt (n0:Nat) (W:World) (b o:Nat) (p:Psg):Prop :=
 ∃ u,W.cell? ⟨b,o,none⟩=some u∧PtsAt n0 W u p.cor∧W.cell? ⟨b,o+1,none⟩=some (.int .i64 p.fr)∧W.cell? ⟨b,o+2,none⟩=some (.int .i64 p.tw)∧W.cell? ⟨b,o+3,none⟩=some (.int .i64 p.tm)∧W.cell? ⟨b,o+4,none⟩=some (.int .i64 p.en)
theorem PsgAt.below {n0:Nat} {A B:World} (h:Below n0 A B) {b o:Nat} {p:Psg} (hb:b<n0) (hp:PsgAt n0 A b o p):PsgAt n0 B b o p:=by
 obtain⟨u,c0,hu,c1,c2,c3,c4⟩:=hp
 exact⟨u,(h.cell (p:=⟨b,o,none⟩) hb).trans c0,hu.below h,(h.cell (p:=⟨b,o+1,none⟩) hb).trans c1,(h.cell (p:=⟨b,o+2,none⟩) hb).trans c2,(h.cell (p:=⟨b,o+3,none⟩) hb).trans c3,(h.cell (p:=⟨b,o+4,none⟩) hb).trans c4⟩
theorem PsgAt.mono {n0 n1:Nat} {W:World} {b o:Nat} {p:Psg} (hp:PsgAt n0 W b o p) (h:n0≤n1):PsgAt n1 W b o p:=by
 obtain⟨u,c0,hu,c⟩:=hp
 exact⟨u,c0,hu.mono h,c⟩
def PsgsAt (n0:Nat) (W:World) (v:Value) (l:List Psg):Prop :=
 l.length≤70368744177663∧∃ a cap,v=.slice a l.length (l.length+cap)∧(l=[]∨∃ b o,a=some ⟨b,o,none⟩∧b<n0∧∀ j,j<l.length→PsgAt n0 W b (o+j*5) (pgd l j))
theorem PsgsAt.below {n0:Nat} {A B:World} (h:Below n0 A B) {v:Value} {l:List Psg} (hp:PsgsAt n0 A v l):PsgsAt n0 B v l:=by
 obtain⟨hl,a,cap,e,hc⟩:=hp
 refine⟨hl,a,cap,e,hc.imp id ?_⟩
 rintro ⟨b,o,e1,hb,hc⟩
 exact⟨b,o,e1,hb,fun j hj=>(hc j hj).below h hb⟩
theorem PsgsAt.mono {n0 n1:Nat} {W:World} {v:Value} {l:List Psg} (hp:PsgsAt n0 W v l) (h:n0≤n1):PsgsAt n1 W v l:=by
 obtain⟨hl,a,cap,e,hc⟩:=hp
 refine⟨hl,a,cap,e,hc.imp id ?_⟩
 rintro ⟨b,o,e1,hb,hc⟩
 exact⟨b,o,e1,by omega,fun j hj=>(hc j hj).mono h⟩
def CrtAt (n0:Nat) (W:World) (c:Crt) (vs vp vr:Value):Prop:=IntsAt n0 W vs c.stops∧PsgsAt n0 W vp c.psg∧IntsAt n0 W vr c.ret
theorem CrtAt.below {n0:Nat} {A B:World} (h:Below n0 A B) {c:Crt} {vs vp vr:Value} (hp:CrtAt n0 A c vs vp vr):CrtAt n0 B c vs vp vr:=⟨hp.1.below h,hp.2.1.below h,hp.2.2.below h⟩
theorem CrtAt.mono {n0 n1:Nat} {W:World} {c:Crt} {vs vp vr:Value} (hp:CrtAt n0 W c vs vp vr) (h:n0≤n1):CrtAt n1 W c vs vp vr:=⟨hp.1.mono h,hp.2.1.mono h,hp.2.2.mono h⟩
def wthB (n most:Int):Bool:=decide (0≤n∧n≤most)
noncomputable def okP (c:Crt) (j:Nat):Bool :=
 goValid (pgd c.psg j).cor && (wthB (pgd c.psg j).fr 100000 && (wthB (pgd c.psg j).tw 100000 && (wthB (pgd c.psg j).tm 1000000000 && (wthB (pgd c.psg j).en 1000000000 && wthB (c.ret.getD j 0) 1000000000))))
noncomputable def frmB (m:Msn) (c:Crt):Bool :=
 radOkB m c.stops && decide (c.psg.length=m.ways.length - 1) && decide (c.ret.length=m.ways.length - 1) && decide (∀ j,j<c.psg.length→okP c j=true)
def befR (m:Msn) (c:Crt) (i:Nat):Int:=if i=0 then m.start else if (i:Int) ∈ c.stops then min (pgd c.psg (i - 1)).tw (wy m.ways i).fix else (pgd c.psg (i - 1)).tw
def befT (m:Msn) (c:Crt) (i:Nat):Int:=if i=0 then 0 else if (i:Int) ∈ c.stops then (pgd c.psg (i - 1)).tm+(wy m.ways i).wait else (pgd c.psg (i - 1)).tm
def befE (m:Msn) (c:Crt) (i:Nat):Int:=if i=0 then 0 else if (i:Int) ∈ c.stops then (pgd c.psg (i - 1)).en+m.idle*(wy m.ways i).wait else (pgd c.psg (i - 1)).en
noncomputable def regB (r:List (List Pt)):Bool:=decide (r.length≤32) && polysB r
noncomputable def inAll (r:List (List Pt)) (p:List Pt):Bool:=decide (∀ j,j<r.length→withinB (rk r j) p=true)
end Go.Proofs.YtpimbaaahcemhaaGreat
namespace Go.Proofs.YtpimbaaahcemhaaGreat
open Go.RowKit
attribute [local irreducible] wpQuiet
theorem invl1_any (v:Value) (l:List Pt) (w:World) (hp:PtsAt w.heap.size w v l) :
  Calls Tryz.prog 193 #[v] w fun e w'=>e=.returned (.bool (!goValid l))∧Below w.heap.size w w':=by
 have f:=Lib.hid (hullValid_any v l w hp)
 clear hp
 generalize goValid l=b at *
 go_enter Tryz.func193,Tryz.ntmps193
 go_wp2_with (go_at_call 93;refine (f.out).mono ?_;rintro e w1 ⟨rfl,hb1⟩;have hz1:=hb1.size;try simp at hz1)
 go_ret
 exact⟨rfl,by repeat (first | exact Below.refl _ _ | assumption | apply Below.drew | refine Below.setCell ?_ (by first | omega | (simp;done) | (simp;omega)) _ | refine Below.alloc ?_ (by first | omega | (simp;done) | (simp;omega)) _ | refine Below.call (by assumption) ?_ (by first | omega | (simp;done) | (simp;omega)))⟩
theorem indexinvl_any (v : Value) (l : List (List Pt)) (w : World) (hr : RocksAt w.heap.size w v l) :
  Calls Tryz.prog 169 #[v,.func (.func 193) #[] #[]] w (FindQ (!polysB l) w):=by
 obtain⟨hl,a,cap,rfl,hc⟩:=hr
 go_enter Tryz.func169,Tryz.ntmps169
 go_wp2
 go_loopw [8] (fun i wr=>∃ k:Nat,k≤l.length∧i=.int .i64 k∧(∀ j,j<k→goValid (rk l j)=true)∧Below w.heap.size w wr) (fun i _=>l.length - (intOf i).toNat)
 case atStart=>exact⟨0,Nat.zero_le _,rfl,fun j h=>by omega,Below.refl _ _⟩
 case round =>
  obtain⟨k,hk,rfl,hall,hB⟩:=hrel
  by_cases hlt:k<l.length
  ·rcases hc with rfl | ⟨b,o,rfl,hb,hc⟩
   ·simp at hlt
   obtain⟨u,hu,hpu⟩:=hc k hlt
   have c1:=(hB.cell (p:=⟨b,o+k,none⟩) hb).trans hu
   have f:=Lib.hid (invl1_any u (rk l k) wr ((hpu.below hB).mono hB.size))
   have hall':=Lib.hid hall
   have hc':=Lib.hid hc
   clear hall hc hu hpu
   have hz:=hB.size
   cases hpl:goValid (rk l k)
   ·rw [hpl] at f
    have hr:Hid (polysB l=false):=by
     show polysB l=false
     simp only [polysB,decide_eq_false_iff_not]
     intro h
     have:=h k hlt
     rw [hpl] at this
     cases this
    go_wp2_with (go_at_call 193;refine (f.out).mono ?_;rintro e w1 ⟨rfl,hb1⟩;have hz1:=hb1.size;try simp at hz1)
    go_ret
    exact⟨k,rfl,by omega,by omega,by rw [hr.out];simp,by repeat (first | exact Below.refl _ _ | assumption | apply Below.drew | refine Below.setCell ?_ (by first | omega | (simp;done) | (simp;omega)) _ | refine Below.alloc ?_ (by first | omega | (simp;done) | (simp;omega)) _ | refine Below.call (by assumption) ?_ (by first | omega | (simp;done) | (simp;omega)))⟩
   ·rw [hpl] at f
    go_wp2_with (go_at_call 193;refine (f.out).mono ?_;rintro e w1 ⟨rfl,hb1⟩;have hz1:=hb1.size;try simp at hz1)
    go_roundw
    case rel =>
     refine⟨k+1,by omega,by go_num,fun j hj=>?_,by repeat (first | exact Below.refl _ _ | assumption | apply Below.drew | refine Below.setCell ?_ (by first | omega | (simp;done) | (simp;omega)) _ | refine Below.alloc ?_ (by first | omega | (simp;done) | (simp;omega)) _ | refine Below.call (by assumption) ?_ (by first | omega | (simp;done) | (simp;omega)))⟩
     by_cases e:j=k
     ·rw [e];exact hpl
     ·exact hall'.out j (by omega)
    case measure=>simp [intOf];omega
  ·have hr:Hid (polysB l=true):=by
    show polysB l=true
    simp only [polysB,decide_eq_true_eq]
    intro j hj
    exact hall j (by omega)
   clear hall
   go_wp2
   go_ret
   exact⟨-1,rfl,by omega,by omega,by rw [hr.out];simp,hB⟩
theorem containsinvl_any (v:Value) (l:List (List Pt)) (w:World) (hr:RocksAt w.heap.size w v l) :
  Calls Tryz.prog 108 #[v,.func (.func 193) #[] #[]] w fun e w'=>e=.returned (.bool (!polysB l))∧Below w.heap.size w w':=by
 go_enter Tryz.func108,Tryz.ntmps108
 go_wp2_with (go_at_call 169;refine (indexinvl_any v l _ hr).mono ?_;rintro e w1 ⟨r,rfl,r1,r2,r3,hb⟩)
 go_ret
 exact⟨by first | rfl | exact ret_bool r3,hb⟩
theorem gvalid_any (v:Value) (l:List (List Pt)) (w:World) (hr:RocksAt w.heap.size w v l) :
  Calls Tryz.prog 106 #[v] w fun e w'=>e=.returned (.bool (regB l))∧Below w.heap.size w w':=by
 have f:=Lib.hid (containsinvl_any v l w hr)
 have HR:Hid (regB l=(decide (l.length≤32) && polysB l)):=rfl
 generalize polysB l=b at *
 obtain⟨hl,a,cap,rfl,hc⟩:=hr
 by_cases h:l.length≤32
 ·have d:decide ((l.length:Int)≤32)=true:=by rw [decide_eq_true_eq];omega
  have g:Hid (∀ w1:World,w1=w→Calls Tryz.prog 168 #[.slice a l.length (l.length+cap)] w fun e w'=>e=.returned (.bool (!b))∧Below w.heap.size w w'):=fun w1 e1=>by
   subst e1
   go_enter Tryz.func168,Tryz.ntmps168
   go_wp2_with fail
   refine f.out.mono ?_
   rintro e w2 ⟨rfl,b2⟩
   go_wp2
   go_ret
   exact⟨rfl,b2⟩
  have HV:=Lib.hid (show regB l=b by rw [HR.out];simp [h])
  go_enter Tryz.func106,Tryz.ntmps106
  go_wp2_with fail
  refine (g.out w rfl).mono ?_
  rintro e w2 ⟨rfl,b2⟩
  go_wp2
  go_ret
  exact⟨by rw [HV.out];simp,b2⟩
 ·have d:decide ((l.length:Int)≤32)=false:=by rw [decide_eq_false_iff_not];omega
  have HV:=Lib.hid (show regB l=false by rw [HR.out];simp [h])
  clear h
  go_enter Tryz.func106,Tryz.ntmps106
  go_wp2
  go_ret
  exact⟨by rw [HV.out];rfl,Below.refl _ _⟩
theorem wthn1_any (v:Value) (l:List Pt) (vq:Value) (q:List Pt) (b0:Nat) (w:World) (hc0:w.cell? ⟨b0,0,none⟩=some vq) (hq:PtsAt w.heap.size w vq q) (hp:PtsAt w.heap.size w v l) :
  Calls Tryz.prog 107 #[v,.pointer (some ⟨b0,0,none⟩)] w fun e w'=>e=.returned (.bool (!withinB l q))∧Below w.heap.size w w':=by
 have f:=Lib.hid (within_any v vq l q w hp hq)
 clear hp
 obtain⟨-,a1,c1,rfl,-⟩:=hq
 generalize withinB l q=b at *
 generalize bothE l q=e0 at *
 go_enter Tryz.func107,Tryz.ntmps107
 go_wp2_with fail
 refine f.out.mono ?_
 rintro e w2 ⟨rfl,b2⟩
 go_wp2
 go_ret
 exact⟨rfl,b2⟩
theorem indexwthn_any (v : Value) (l : List (List Pt)) (vq : Value) (q : List Pt) (b0 : Nat) (w : World) (hr : RocksAt w.heap.size w v l) (hb0 : b0 < w.heap.size) (hc0 : w.cell? ⟨b0, 0, none⟩ = some vq) (hq : PtsAt w.heap.size w vq q) :
  Calls Tryz.prog 169 #[v,.func (.func 107) #[] #[.pointer (some ⟨b0,0,none⟩)]] w (FindQ (!inAll l q) w):=by
 obtain⟨hl,a,cap,rfl,hc⟩:=hr
 go_enter Tryz.func169,Tryz.ntmps169
 go_wp2
 go_loopw [8] (fun i wr=>∃ k:Nat,k≤l.length∧i=.int .i64 k∧(∀ j,j<k→withinB (rk l j) q=true)∧Below w.heap.size w wr) (fun i _=>l.length - (intOf i).toNat)
 case atStart=>exact⟨0,Nat.zero_le _,rfl,fun j h=>by omega,Below.refl _ _⟩
 case round =>
  obtain⟨k,hk,rfl,hall,hB⟩:=hrel
  by_cases hlt:k<l.length
  ·rcases hc with rfl | ⟨b,o,rfl,hb,hc⟩
   ·simp at hlt
   obtain⟨u,hu,hpu⟩:=hc k hlt
   have c1:=(hB.cell (p:=⟨b,o+k,none⟩) hb).trans hu
   have hz:=hB.size
   have f:=Lib.hid (wthn1_any u (rk l k) vq q b0 wr ((hB.cell (p:=⟨b0,0,none⟩) hb0).trans hc0) ((hq.below hB).mono hB.size) ((hpu.below hB).mono hB.size))
   have hall':=Lib.hid hall
   have hc':=Lib.hid hc
   clear hall hc hu hpu
   cases hpl:withinB (rk l k) q
   ·rw [hpl] at f
    have hr:Hid (inAll l q=false):=by
     show inAll l q=false
     simp only [inAll,decide_eq_false_iff_not]
     intro h
     have:=h k hlt
     rw [hpl] at this
     cases this
    go_wp2_with (go_at_call 107;refine (f.out).mono ?_;rintro e w1 ⟨rfl,hb1⟩;have hz1:=hb1.size;try simp at hz1)
    go_ret
    exact⟨k,rfl,by omega,by omega,by rw [hr.out];simp,by repeat (first | exact Below.refl _ _ | assumption | apply Below.drew | refine Below.setCell ?_ (by first | omega | (simp;done) | (simp;omega)) _ | refine Below.alloc ?_ (by first | omega | (simp;done) | (simp;omega)) _ | refine Below.call (by assumption) ?_ (by first | omega | (simp;done) | (simp;omega)))⟩
   ·rw [hpl] at f
    go_wp2_with (go_at_call 107;refine (f.out).mono ?_;rintro e w1 ⟨rfl,hb1⟩;have hz1:=hb1.size;try simp at hz1)
    go_roundw
    case rel =>
     refine⟨k+1,by omega,by go_num,fun j hj=>?_,by repeat (first | exact Below.refl _ _ | assumption | apply Below.drew | refine Below.setCell ?_ (by first | omega | (simp;done) | (simp;omega)) _ | refine Below.alloc ?_ (by first | omega | (simp;done) | (simp;omega)) _ | refine Below.call (by assumption) ?_ (by first | omega | (simp;done) | (simp;omega)))⟩
     by_cases e:j=k
     ·rw [e];exact hpl
     ·exact hall'.out j (by omega)
    case measure=>simp [intOf];omega
  ·have hr:Hid (inAll l q=true):=by
    show inAll l q=true
    simp only [inAll,decide_eq_true_eq]
    intro j hj
    exact hall j (by omega)
   clear hall
   go_wp2
   go_ret
   exact⟨-1,rfl,by omega,by omega,by rw [hr.out];simp,hB⟩
theorem containswthn_any (v:Value) (l:List (List Pt)) (vq:Value) (q:List Pt) (b0:Nat) (w:World) (hr:RocksAt w.heap.size w v l) (hb0:b0<w.heap.size) (hc0:w.cell? ⟨b0,0,none⟩=some vq) (hq:PtsAt w.heap.size w vq q) :
  Calls Tryz.prog 108 #[v,.func (.func 107) #[] #[.pointer (some ⟨b0,0,none⟩)]] w fun e w'=>e=.returned (.bool (!inAll l q))∧Below w.heap.size w w':=by
 go_enter Tryz.func108,Tryz.ntmps108
 go_wp2_with (go_at_call 169;refine (indexwthn_any v l vq q b0 _ hr hb0 hc0 hq).mono ?_;rintro e w1 ⟨r,rfl,r1,r2,r3,hb⟩)
 go_ret
 exact⟨by first | rfl | exact ret_bool r3,hb⟩
noncomputable def rwB (r:List (List Pt)) (p:List Pt):Bool:=regB r && (goValid p && inAll r p)
noncomputable def rwE (r:List (List Pt)) (p:List Pt):Int:=if regB r && goValid p then 0 else 1
theorem gwithin_any (vr:Value) (r:List (List Pt)) (vp:Value) (p:List Pt) (w:World) (hr:RocksAt w.heap.size w vr r) (hp:PtsAt w.heap.size w vp p) :
  Calls Tryz.prog 53 #[vr,vp] w fun e w'=>e=.returned (.tuple #[.bool (rwB r p),.int .i64 (rwE r p)])∧Below w.heap.size w w':=by
 have f1:=fun w1 (B:Below w.heap.size w w1)=>gvalid_any vr r w1 ((hr.below B).mono B.size)
 have f2:=fun w1 (B:Below w.heap.size w w1)=>hullValid_any vp p w1 ((hp.below B).mono B.size)
 have f3:=fun w1 (B:Below w.heap.size w w1) hb hc=>containswthn_any vr r vp p w.heap.size w1 ((hr.below B).mono B.size) hb hc ((hp.below B).mono B.size)
 have H1:Hid (rwB r p=(regB r && (goValid p && inAll r p))):=rfl
 have H2:Hid (rwE r p=if regB r && goValid p then 0 else 1):=rfl
 generalize rwB r p=x at *
 generalize rwE r p=y at *
 generalize regB r=b1 at *
 generalize goValid p=b2 at *
 generalize inAll r p=b3 at *
 obtain⟨-,a1,cap1,rfl,-⟩:=hr
 obtain⟨-,a2,cap2,rfl,-⟩:=hp
 replace f1:=Lib.hid f1
 replace f2:=Lib.hid f2
 replace f3:=Lib.hid f3
 have BW:=Lib.hid (Below.refl w.heap.size w)
 go_enter Tryz.func53,Tryz.ntmps53
 go_wp2_with fail
 generalize hXX0:World.alloc w _=X0
 obtain⟨q0,hA,hzX0⟩:=box1 hXX0
 clear hXX0
 have BW:=Lib.hid hA
 clear hA
 have PB:=Lib.hid q0
 clear q0
 refine (f1.out _ BW.out).mono ?_
 rintro e w1 ⟨rfl,b1⟩
 replace BW:=Lib.hid (BW.out.trans (b1.mono BW.out.size))
 have B_X0:=Lib.hid b1
 clear b1
 have x0:=(PB.out.below B_X0.out PB.out.lt).cell (i:=0) rfl
 cases b1
 ·go_wp2
  go_ret2
  exact⟨by rw [H1.out,H2.out];rfl,BW.out⟩
 go_wp2_with fail
 refine (f2.out _ BW.out).mono ?_
 rintro e w2 ⟨rfl,b2⟩
 replace BW:=Lib.hid (BW.out.trans (b2.mono BW.out.size))
 replace B_X0:=Lib.hid (B_X0.out.trans (b2.mono B_X0.out.size))
 clear b2
 clear x0
 cases b2
 ·go_wp2
  go_ret2
  exact⟨by rw [H1.out,H2.out];rfl,BW.out⟩
 go_wp2_with fail
 refine (f3.out _ BW.out (PB.out.below B_X0.out PB.out.lt).lt ((PB.out.below B_X0.out PB.out.lt).cell (i:=0) rfl)).mono ?_
 rintro e w3 ⟨rfl,b3⟩
 replace BW:=Lib.hid (BW.out.trans (b3.mono BW.out.size))
 replace B_X0:=Lib.hid (B_X0.out.trans (b3.mono B_X0.out.size))
 clear b3
 go_wp2
 go_ret2
 exact⟨by rw [H1.out,H2.out];simp,BW.out⟩
theorem sindex_any (v : Value) (l : List Int) (x : Int) (w : World) (hl : IntsAt w.heap.size w v l) :
  Calls Tryz.prog 160 #[v,.int .i64 x] w (FindQ (decide (x ∈ l)) w):=by
 obtain⟨hl,a,cap,rfl,hc⟩:=hl
 go_enter Tryz.func160,Tryz.ntmps160
 go_wp2
 go_loopw [8] (fun i wr=>∃ k:Nat,k≤l.length∧i=.int .i64 k∧(∀ j,j<k→l.getD j 0≠x)∧wr=w) (fun i _=>l.length - (intOf i).toNat)
 case atStart=>exact⟨0,Nat.zero_le _,rfl,fun j h=>by omega,rfl⟩
 case round =>
  obtain⟨k,hk,rfl,hall,hB⟩:=hrel
  subst hB
  by_cases hlt:k<l.length
  ·rcases hc with rfl | ⟨b,o,rfl,hb,hc⟩
   ·simp at hlt
   have c1:=hc k hlt
   have hall':=Lib.hid hall
   have hc':=Lib.hid hc
   have hg:l.getD k 0 ∈ l:=by rw [List.getD,List.getElem?_eq_getElem hlt];exact List.getElem_mem hlt
   obtain⟨y,hy0⟩:∃ y,l.getD k 0=y:=⟨_,rfl⟩
   rw [hy0] at c1 hg
   have HY:=Lib.hid hy0
   clear hall hc hy0
   by_cases hy:x=y
   ·have dy:(x == y)=true:=by rw [beq_iff_eq];exact hy
    have hr:=Lib.hid (show decide (x ∈ l)=true by rw [decide_eq_true_eq,hy];exact hg)
    clear hg hy
    go_wp2
    go_ret
    exact⟨k,rfl,by omega,by omega,by rw [hr.out];simp,Below.refl _ _⟩
   ·have dy:(x == y)=false:=by rw [beq_eq_false_iff_ne];exact hy
    have hyy:=Lib.hid hy
    clear hg hy
    go_wp2
    go_roundw
    case rel =>
     refine⟨k+1,by omega,by go_num,fun j hj=>?_,by first | rfl | trivial⟩
     by_cases e:j=k
     ·rw [e,HY.out];exact fun h=>hyy.out h.symm
     ·exact hall'.out j (by omega)
    case measure=>simp [intOf];omega
  ·have hr:Hid (decide (x ∈ l)=false):=by
    show decide (x ∈ l)=false
    rw [decide_eq_false_iff_not]
    intro h
    obtain⟨j,hj,rfl⟩:=List.getElem_of_mem h
    exact hall j (by omega) (by rw [List.getD,List.getElem?_eq_getElem hj];rfl)
   clear hall
   go_wp2
   go_ret
   exact⟨-1,rfl,by omega,by omega,by rw [hr.out];simp,Below.refl _ _⟩
theorem scontains_any (v:Value) (l:List Int) (x:Int) (w:World) (hl:IntsAt w.heap.size w v l) :
  Calls Tryz.prog 95 #[v,.int .i64 x] w fun e w'=>e=.returned (.bool (decide (x ∈ l)))∧Below w.heap.size w w':=by
 go_enter Tryz.func95,Tryz.ntmps95
 go_wp2_with (go_at_call 160;refine (sindex_any _ _ _ _ hl).mono ?_;rintro e w1 ⟨r,rfl,r1,r2,r3,hb⟩)
 go_ret
 exact⟨by first | rfl | exact ret_bool r3,hb⟩
end Go.Proofs.YtpimbaaahcemhaaGreat
namespace Go.Proofs.YtpimbaaahcemhaaGreat
open Go.RowKit
attribute [local irreducible] wpQuiet
theorem usedT_length (m:Msn) (l:List Int):(usedT m l).length=m.ways.length:=by unfold usedT;exact upto_length _ _
theorem upto_getD (f:Nat→Int) {n j:Nat} (h:j<n):(upto f n).getD j 0=f j:=by simp [upto,List.getD,h]
theorem ints_cells0 {n0:Nat} {W:World} {v:Value} {l:List Int} (h:IntsAt n0 W v l) (h0:0<l.length):∃ b o cap,v=.slice (some ⟨b,o,none⟩) l.length (l.length+cap)∧b<n0∧∀ j,j<l.length→W.cell? ⟨b,o+j,none⟩=some (.int .i64 (l.getD j 0)):=by
 obtain⟨_,a,cap,e,hc⟩:=h
 rcases hc with rfl | ⟨b,o,rfl,hb,hc⟩
 ·simp at h0
 ·exact⟨b,o,cap,e,hb,hc⟩
end Go.Proofs.YtpimbaaahcemhaaGreat
namespace Go.Proofs.YtpimbaaahcemhaaGreat
open Go.RowKit
attribute [local irreducible] wpQuiet
structure TripAt (n0:Nat) (W:World) (m:Msn) (l:List Int) (vw vh vr vb va vt ve:Value):Prop where
 msn:MsnAt n0 W m vw vh vr
 bef:IntsAt n0 W vb (rdBU m l)
 aft:IntsAt n0 W va (rdAU m l)
 tim:IntsAt n0 W vt (usedT m l)
 ene:IntsAt n0 W ve (usedE m l)
theorem TripAt.up {A B:World} {m:Msn} {l:List Int} {vw vh vr vb va vt ve:Value} (h:TripAt A.heap.size A m l vw vh vr vb va vt ve) (k:Below A.heap.size A B):TripAt B.heap.size B m l vw vh vr vb va vt ve :=
 ⟨(h.msn.below k).mono k.size,(h.bef.below k).mono k.size,(h.aft.below k).mono k.size,(h.tim.below k).mono k.size,(h.ene.below k).mono k.size⟩
theorem rdBU_length (m:Msn) (l:List Int):(rdBU m l).length=m.ways.length:=by unfold rdBU;exact upto_length _ _
theorem rdB_getD {m:Msn} {l:List Int} {k:Nat} (h:k<m.ways.length):(rdBU m l).getD k 0=rdB m l k:=by rw [rdBU,upto_getD _ h]
theorem rdA_getD {m:Msn} {l:List Int} {k:Nat} (h:k<m.ways.length):(rdAU m l).getD k 0=rdA m l k:=by rw [rdAU,upto_getD _ h]
end Go.Proofs.YtpimbaaahcemhaaGreat
namespace Go.Proofs.YtpimbaaahcemhaaGreat
open Go.RowKit
attribute [local irreducible] wpQuiet
theorem usedE_length (m:Msn) (l:List Int):(usedE m l).length=m.ways.length:=by unfold usedE;exact upto_length _ _
theorem lie_eq {m:Msn} (V:VMsn m) {r:Int} (h:0≤r∧r≤100000):dskE r=0∧shE (dskL r) (atW m 0)=0∧withinB (shL (dskL r) (atW m 0)) m.home=lieB m r:=by
 have hr:radOk r=true:=by simp [radOk,h]
 have hd:dskL r=diskP r.toNat:=by simp [dskL,hr]
 have c:=cor_ok V (a:=0) (b:=0) (by have:=V.n2;omega) (by have:=V.n2;omega) h h
 obtain⟨⟨hp,-⟩,ha,-⟩:=corE_zero c
 have G:=disk_valid (n:=r.toNat) (by omega)
 have hv:goValid (diskP r.toNat)=true:=by simpa [goValid] using G
 have e2:shE (dskL r) (atW m 0)=0:=by rw [hd];simp [shE,hv,hp,ha]
 refine⟨by simp [dskE,hr],e2,?_⟩
 have e3:shL (dskL r) (atW m 0)=mvL (atW m 0) (diskP r.toNat):=by simp only [shL,e2,if_true];rw [hd]
 rw [e3]
 have hv2:goValid (mvL (atW m 0) (diskP r.toNat))=true:=by rw [goValid_mv _ G];exact ha
 simp [withinB,lieB,hv2,V.home]
end Go.Proofs.YtpimbaaahcemhaaGreat
namespace Go.Proofs.YtpimbaaahcemhaaGreat
noncomputable def ccB (m:Msn) (a:Nat) (u:Int) (b:Nat) (w:Int):Bool:=decide (corE (atW m a) u (atW m b) w=0) && clrB m a u b w
noncomputable def ccC (m:Msn) (a:Nat) (r:Int):Nat→Bool
 | 0=>true
 | j+1=>ccC m a r j && ccB m (itB m a j) (bkR m a r j) (itB m a (j+1)) (bkR m a r (j+1))
noncomputable def hwE (m:Msn) (a:Nat) (r:Int):Int:=if ccC m a r (dep m a)=false then 50 else if lieB m (bkR m a r (dep m a))=false then 52 else 0
noncomputable def kpsE (m:Msn) (i:Nat) (u v t e:Int):Int :=
 if ccB m i u (i+1) v=false then 50
 else if hwE m (i+1) v=50 then 50
 else if hwE m (i+1) v=52 then 52
 else if e+homeE m (i+1) (dep m (i+1))>m.battery then 51
 else if t+homeT m (i+1) (dep m (i+1))>m.deadline then 6
 else 0
theorem ccB_bd {m:Msn} {a b:Nat} {u w:Int} (h:ccB m a u b w=true):(0≤u∧u≤100000)∧0≤w∧w≤100000:=by
 unfold ccB at h
 rw [Bool.and_eq_true,decide_eq_true_eq] at h
 obtain⟨⟨-,-,h1,h2,h3,h4⟩,-⟩:=corE_zero h.1
 exact⟨⟨h1,h2⟩,h3,h4⟩
theorem ccC_bd {m:Msn} {a:Nat} {r:Int} (h0:0≤r∧r≤100000):∀ j,ccC m a r j=true→0≤bkR m a r j∧bkR m a r j≤100000
 | 0,_=>h0
 | j + 1, h => by
  simp only [ccC,Bool.and_eq_true] at h
  exact (ccB_bd h.2).2
theorem ccC_down {m:Msn} {a:Nat} {r:Int}:∀ n j,j≤n→ccC m a r n=true→ccC m a r j=true
 | 0,j,hj,h=>by rw [Nat.le_zero.1 hj];rfl
 | n + 1, j, hj, h => by
  rcases Nat.lt_or_eq_of_le hj with e | e
  ·simp only [ccC,Bool.and_eq_true] at h
   exact ccC_down n j (by omega) h.1
  ·rw [e];exact h
theorem hwE_or (m:Msn) (a:Nat) (r:Int):hwE m a r=50∨hwE m a r=52∨hwE m a r=0:=by
 unfold hwE
 repeat' split
 all_goals simp
theorem ccB_of {m:Msn} (V:VMsn m) {a b:Nat} (ha:a<m.ways.length) (hb:b<m.ways.length) {u w:Int} (hu:0≤u∧u≤100000) (hw:0≤w∧w≤100000):ccB m a u b w=clrB m a u b w:=by
 unfold ccB
 rw [cor_ok V ha hb hu hw]
 simp
theorem firE_all {m:Msn} (V:VMsn m) {a b:Nat} {u v:Int} (h:corE (atW m a) u (atW m b) v=0):firE (corL (atW m a) u (atW m b) v) m.rocks=0:=by
 unfold corL
 rw [if_pos h]
 have g:=goValid_of (cor_valid h)
 have o1:okRocks (corH (atW m a) u.toNat (atW m b) v.toNat) m.rocks=true:=by unfold okRocks;rw [g,Bool.true_and];exact V.rocks
 unfold firE
 rw [if_pos V.nr,if_pos o1]
theorem lie_bothE {m:Msn} (V:VMsn m) {r:Int} (h:0≤r∧r≤100000):bothE (shL (dskL r) (atW m 0)) m.home=0:=by
 have hr:radOk r=true:=by simp [radOk,h]
 have hd:dskL r=diskP r.toNat:=by simp [dskL,hr]
 have c:=cor_ok V (a:=0) (b:=0) (by have:=V.n2;omega) (by have:=V.n2;omega) h h
 obtain⟨⟨hp,-⟩,ha,-⟩:=corE_zero c
 have G:=disk_valid (n:=r.toNat) (by omega)
 have hv:goValid (diskP r.toNat)=true:=by simpa [goValid] using G
 have e2:shE (dskL r) (atW m 0)=0:=by rw [hd];simp [shE,hv,hp,ha]
 have e3:shL (dskL r) (atW m 0)=mvL (atW m 0) (diskP r.toNat):=by simp only [shL,e2,if_true];rw [hd]
 rw [e3]
 have hv2:goValid (mvL (atW m 0) (diskP r.toNat))=true:=by rw [goValid_mv _ G];exact ha
 simp [bothE,hv2,V.home]
end Go.Proofs.YtpimbaaahcemhaaGreat
namespace Go.Proofs.YtpimbaaahcemhaaGreat
open Go.RowKit
attribute [local irreducible] wpQuiet
theorem cwithin_any (n most:Int) (w:World):Calls Tryz.prog 94 #[.int .i64 n,.int .i64 most] w fun e w'=>e=.returned (.bool (wthB n most))∧w'=w:=by
 have H:Hid (wthB n most=decide (0≤n∧n≤most)):=rfl
 by_cases h:0≤n
 ·have d:decide (0≤n)=true:=by rw [decide_eq_true_eq];exact h
  by_cases h2:n≤most
  ·have d2:decide (n≤most)=true:=by rw [decide_eq_true_eq];exact h2
   have HV:=Lib.hid (show wthB n most=true by rw [H.out,decide_eq_true_eq];exact⟨h,h2⟩)
   clear h h2
   go_enter Tryz.func94,Tryz.ntmps94
   go_wp2
   go_ret
   exact⟨by rw [HV.out];rfl,rfl⟩
  ·have d2:decide (n≤most)=false:=by rw [decide_eq_false_iff_not];exact h2
   have HV:=Lib.hid (show wthB n most=false by rw [H.out,decide_eq_false_iff_not];exact fun x=>h2 x.2)
   clear h h2
   go_enter Tryz.func94,Tryz.ntmps94
   go_wp2
   go_ret
   exact⟨by rw [HV.out];rfl,rfl⟩
 ·have d:decide (0≤n)=false:=by rw [decide_eq_false_iff_not];exact h
  have HV:=Lib.hid (show wthB n most=false by rw [H.out,decide_eq_false_iff_not];exact fun x=>h x.1)
  clear h
  go_enter Tryz.func94,Tryz.ntmps94
  go_wp2
  go_ret
  exact⟨by rw [HV.out];rfl,rfl⟩
theorem radE_eq (m:Msn) (l:List Int):rdE m l=if radOkB m l=true then 0 else 1:=by unfold rdE;rfl
theorem radOk_two {m:Msn} {l:List Int} (h:radOkB m l=true):validB m=true∧stopsB m l=true:=by unfold radOkB at h;rwa [Bool.and_eq_true] at h
set_option linter.unusedSimpArgs false in
set_option linter.unusedVariables false in
set_option maxRecDepth 8000 in
set_option maxHeartbeats 6400000 in
theorem formed_any (m : Msn) (vw vh vr : Value) (c : Crt) (vs vp ve : Value) (w : World) (hm : MsnAt w.heap.size w m vw vh vr) (hc : CrtAt w.heap.size w c vs vp ve) :
  Calls Tryz.prog 41 #[.agg (msnCells m vw vh vr),.agg #[vs,vp,ve]] w fun e w'=>e=.returned (.bool (frmB m c))∧Below w.heap.size w w':=by
 have f1:=fun w1 (B:Below w.heap.size w w1)=>radii_all m vw vh vr vs c.stops w1 ((hm.below B).mono B.size) ((hc.1.below B).mono B.size)
 rw [radE_eq] at f1
 have hv2:=fun h=>radOk_two (m:=m) (l:=c.stops) h
 have HF:frmB m c=(radOkB m c.stops && decide (c.psg.length=m.ways.length - 1) && decide (c.ret.length=m.ways.length - 1) && decide (∀ j,j<c.psg.length→okP c j=true)):=rfl
 generalize frmB m c=fb at *
 obtain⟨⟨-,a1,cap1,rfl,-⟩,⟨-,a2,cap2,rfl,-⟩,⟨-,a3,cap3,rfl,-⟩⟩:=hm
 obtain⟨⟨-,aS,cS,rfl,-⟩,⟨-,ap,cp,rfl,hcp⟩,⟨-,ar,cr,rfl,hcr⟩⟩:=hc
 unfold msnCells at *
 have HCP:=Lib.hid hcp
 have HCR:=Lib.hid hcr
 replace f1:=Lib.hid f1
 replace HF:=Lib.hid HF
 clear hcp hcr
 have BW:=Lib.hid (Below.refl w.heap.size w)
 go_enter Tryz.func41,Tryz.ntmps41
 go_wp2_with fail
 generalize hXX0:World.alloc (World.alloc w _) _=X0
 obtain⟨q0,q1,hA,hzX0⟩:=box2 hXX0
 clear hXX0
 have BW:=Lib.hid hA
 clear hA
 have MB:=Lib.hid q0
 clear q0
 have CB:=Lib.hid q1
 clear q1
 clear hzX0
 obtain⟨c0,c1,c2,c3,c4,c5,c6,c7,c8,c9,c10⟩:=msn_cells (m:=m) MB.out
 have hcb:=CB.out
 have e0:=hcb.cell (i:=0) rfl
 have e1:=hcb.cell (i:=1) rfl
 have e2:=hcb.cell (i:=2) rfl
 refine (f1.out _ BW.out).mono ?_
 rintro e w1 ⟨u1,u2,rfl,-,-,b1⟩
 replace BW:=Lib.hid (BW.out.trans (b1.mono BW.out.size))
 have B_X0:=Lib.hid b1
 clear b1
 clear c0 c1 c2 c3 c4 c5 c6 c7 c8 c9 c10 hcb e0 e1 e2
 obtain⟨c0,c1,c2,c3,c4,c5,c6,c7,c8,c9,c10⟩:=msn_cells (m:=m) (MB.out.below B_X0.out MB.out.lt)
 have hcb:=(CB.out.below B_X0.out CB.out.lt)
 have e0:=hcb.cell (i:=0) rfl
 have e1:=hcb.cell (i:=1) rfl
 have e2:=hcb.cell (i:=2) rfl
 cases hok:radOkB m c.stops
 ·have HV:=Lib.hid (show fb=false by rw [HF.out,hok];rfl)
  go_wp2
  go_ret
  exact⟨by rw [HV.out];rfl,BW.out⟩
 obtain⟨hV,-⟩:=hv2 hok
 have V:=(validB_iff m).1 hV
 have n2:=V.n2
 have n41:=V.n41
 have hfb:=Lib.hid (show fb=(decide (c.psg.length=m.ways.length - 1) && decide (c.ret.length=m.ways.length - 1) && decide (∀ j,j<c.psg.length→okP c j=true)) by rw [HF.out,hok];rfl)
 clear hok hV V hv2 HF
 obtain⟨n,hn⟩:∃ n,m.ways.length - 1=n:=⟨_,rfl⟩
 have jw:IntKind.i64.wrap ((m.ways.length:Int) - 1)=(n:Int):=by rw [show (m.ways.length:Int) - 1=(n:Int) by omega];exact IntWalk.i64_in _ (by omega)
 have hn8:n≤40:=by omega
 replace hfb:=hfb.out
 rw [hn] at hfb
 replace hfb:=Lib.hid hfb
 clear hn
 by_cases h1:c.psg.length=n
 rotate_left
 ·have d1:((c.psg.length:Int) == (n:Int))=false:=by rw [beq_eq_false_iff_ne];omega
  have d1':((c.psg.length:Int) != (n:Int))=true:=by rw [bne_iff_ne];omega
  have HV:=Lib.hid (show fb=false by rw [hfb.out,decide_eq_false h1];rfl)
  clear h1
  go_wp2
  go_ret
  exact⟨by rw [HV.out];rfl,BW.out⟩
 by_cases h2:c.ret.length=n
 rotate_left
 ·have d1:((c.psg.length:Int) != (n:Int))=false:=by rw [bne_eq_false_iff_eq];omega
  have d2:((c.ret.length:Int) == (n:Int))=false:=by rw [beq_eq_false_iff_ne];omega
  have d2':((c.ret.length:Int) != (n:Int))=true:=by rw [bne_iff_ne];omega
  have HV:=Lib.hid (show fb=false by rw [hfb.out,decide_eq_false h2];simp)
  clear h1 h2
  go_wp2
  go_ret
  exact⟨by rw [HV.out];rfl,BW.out⟩
 have d1:((c.psg.length:Int) == (n:Int))=true:=by rw [beq_iff_eq];omega
 have d2:((c.ret.length:Int) == (n:Int))=true:=by rw [beq_iff_eq];omega
 have d3:((n:Int) == (n:Int))=true:=by simp
 replace hfb:=hfb.out
 rw [decide_eq_true h1,decide_eq_true h2,Bool.true_and,Bool.true_and,h1] at hfb
 have H1:=Lib.hid h1
 have H2:=Lib.hid h2
 rw [h1] at e1
 rw [h2] at e2
 clear h1 h2 d1 d2
 replace hfb:=Lib.hid hfb
 go_wp2
 have BC:=Lib.hid (Below.refl w1.heap.size w1)
 have hCB:=Lib.hid (CB.out.below B_X0.out CB.out.lt)
 clear c0 c1 c2 c3 c4 c5 c6 c7 c8 c9 c10 hcb e0 e1 e2
 go_loopw [42] (fun i wr=>∃ k:Nat,k≤n∧i=.int .i64 k∧(∀ j,j<k→okP c j=true)∧Below w1.heap.size w1 wr) (fun i _=>n - (intOf i).toNat)
 case atStart=>exact⟨0,Nat.zero_le _,rfl,fun j h=>by omega,Below.refl _ _⟩
 case round =>
  obtain⟨k,hk,rfl,hall,hB⟩:=hrel
  obtain⟨wo,hwo⟩:∃ x,x=wr:=⟨_,rfl⟩
  subst hwo
  have HA:=Lib.hid hall
  have BB:=Lib.hid (And.intro hB (BW.out.trans (hB.mono BW.out.size)))
  clear hall hB
  by_cases hlt:k<n
  ·obtain⟨b,o,rfl,hb,hc⟩:=HCP.out.resolve_left (by intro h;have:=H1.out;rw [h] at this;simp at this;omega)
   obtain⟨u,x0,hu,x1,x2,x3,x4⟩:=hc k (by rw [H1.out];exact hlt)
   obtain⟨b',o',rfl,hb',hc'⟩:=HCR.out.resolve_left (by intro h;have:=H2.out;rw [h] at this;simp at this;omega)
   have x5:=hc' k (by rw [H2.out];exact hlt)
   have hok:Hid (okP c k=(goValid (pgd c.psg k).cor && (wthB (pgd c.psg k).fr 100000 && (wthB (pgd c.psg k).tw 100000 && (wthB (pgd c.psg k).tm 1000000000 && (wthB (pgd c.psg k).en 1000000000 && wthB (c.ret.getD k 0) 1000000000)))))):=rfl
   have hno:=Lib.hid (fun h:okP c k=false=>show fb=false by
    rw [hfb.out,decide_eq_false_iff_not]
    intro h'
    rw [h' k hlt] at h
    cases h)
   generalize pgd c.psg k=p at *
   generalize c.ret.getD k 0=re at *
   replace x0:=(BB.out.2.cell (p:=⟨b,o+k*5,none⟩) hb).trans x0
   replace x1:=(BB.out.2.cell (p:=⟨b,o+k*5+1,none⟩) hb).trans x1
   replace x2:=(BB.out.2.cell (p:=⟨b,o+k*5+2,none⟩) hb).trans x2
   replace x3:=(BB.out.2.cell (p:=⟨b,o+k*5+3,none⟩) hb).trans x3
   replace x4:=(BB.out.2.cell (p:=⟨b,o+k*5+4,none⟩) hb).trans x4
   replace x5:=(BB.out.2.cell (p:=⟨b',o'+k,none⟩) hb').trans x5
   have HU:=Lib.hid ((hu.below BB.out.2).mono BB.out.2.size)
   obtain⟨au,cu,rfl⟩:=HU.out.len
   have HX5:=Lib.hid x5
   have hbz:=BB.out.2.size
   have hbb2:b'<wo.heap.size:=by omega
   have hCX:=Lib.hid (hCB.out.below BB.out.1 hCB.out.lt)
   have dk:decide ((k:Int)<(n:Int))=true:=by rw [decide_eq_true_eq];omega
   have kl:(k:Int)<(n:Int):=by omega
   have k0:(0:Int)≤(k:Int):=by omega
   have BR:=Lib.hid (Below.refl wo.heap.size wo)
   clear hc hc' hu x5
   go_upto_region 8 with fail
   generalize hXX8:World.alloc wo _=X8
   obtain⟨q0,hA,hzX8⟩:=box1 hXX8
   clear hXX8
   have BR:=Lib.hid hA
   clear hA
   have PB:=Lib.hid q0
   clear q0
   clear x0 x1 x2 x3 x4
   have hpb:=PB.out
   have y0:=hpb.cell (i:=0) rfl
   have y1:=hpb.cell (i:=1) rfl
   have y2:=hpb.cell (i:=2) rfl
   have y3:=hpb.cell (i:=3) rfl
   have y4:=hpb.cell (i:=4) rfl
   have hcx:=(hCX.out.below BR.out hCX.out.lt)
   have e2:X8.cell? ⟨w.heap.size+1,2,none⟩=some (.slice (some ⟨b',o',none⟩) n (n+cr)):=(hcx.cell (i:=2) rfl).trans (by rw [H2.out];rfl)
   have x5:=(BR.out.cell (p:=⟨b',o'+k,none⟩) hbb2).trans HX5.out
   go_wp2_with fail
   refine (hullValid_any _ p.cor X8 ((HU.out.below BR.out).mono BR.out.size)).mono ?_
   rintro e w2 ⟨rfl,b2⟩
   replace BR:=Lib.hid (BR.out.trans (b2.mono BR.out.size))
   have B_X8:=Lib.hid b2
   clear b2
   clear hpb y0 y1 y2 y3 y4 hcx e2 x5
   have hpb:=(PB.out.below B_X8.out PB.out.lt)
   have y0:=hpb.cell (i:=0) rfl
   have y1:=hpb.cell (i:=1) rfl
   have y2:=hpb.cell (i:=2) rfl
   have y3:=hpb.cell (i:=3) rfl
   have y4:=hpb.cell (i:=4) rfl
   have hcx:=(hCX.out.below BR.out hCX.out.lt)
   have e2:w2.cell? ⟨w.heap.size+1,2,none⟩=some (.slice (some ⟨b',o',none⟩) n (n+cr)):=(hcx.cell (i:=2) rfl).trans (by rw [H2.out];rfl)
   have x5:=(BR.out.cell (p:=⟨b',o'+k,none⟩) hbb2).trans HX5.out
   cases hb0:goValid p.cor
   ·skip
    have HV:=Lib.hid (hno.out (by rw [hok.out,hb0];rfl))
    go_wp2
    go_ret
    exact⟨by rw [HV.out];rfl,BB.out.2.trans (BR.out.mono BB.out.2.size)⟩
   go_wp2_with fail
   refine (cwithin_any _ _ _).mono ?_
   rintro e0 w0 ⟨rfl,hw0⟩
   rw [hw0]
   clear hw0 w0
   cases hb1:wthB p.fr 100000
   ·skip
    have HV:=Lib.hid (hno.out (by rw [hok.out,hb0,hb1];rfl))
    go_wp2
    go_ret
    exact⟨by rw [HV.out];rfl,BB.out.2.trans (BR.out.mono BB.out.2.size)⟩
   go_wp2_with fail
   refine (cwithin_any _ _ _).mono ?_
   rintro e0 w0 ⟨rfl,hw0⟩
   rw [hw0]
   clear hw0 w0
   cases hb2:wthB p.tw 100000
   ·skip
    have HV:=Lib.hid (hno.out (by rw [hok.out,hb0,hb1,hb2];rfl))
    go_wp2
    go_ret
    exact⟨by rw [HV.out];rfl,BB.out.2.trans (BR.out.mono BB.out.2.size)⟩
   go_wp2_with fail
   refine (cwithin_any _ _ _).mono ?_
   rintro e0 w0 ⟨rfl,hw0⟩
   rw [hw0]
   clear hw0 w0
   cases hb3:wthB p.tm 1000000000
   ·skip
    have HV:=Lib.hid (hno.out (by rw [hok.out,hb0,hb1,hb2,hb3];rfl))
    go_wp2
    go_ret
    exact⟨by rw [HV.out];rfl,BB.out.2.trans (BR.out.mono BB.out.2.size)⟩
   go_wp2_with fail
   refine (cwithin_any _ _ _).mono ?_
   rintro e0 w0 ⟨rfl,hw0⟩
   rw [hw0]
   clear hw0 w0
   cases hb4:wthB p.en 1000000000
   ·skip
    have HV:=Lib.hid (hno.out (by rw [hok.out,hb0,hb1,hb2,hb3,hb4];rfl))
    go_wp2
    go_ret
    exact⟨by rw [HV.out];rfl,BB.out.2.trans (BR.out.mono BB.out.2.size)⟩
   go_wp2_with fail
   refine (cwithin_any _ _ _).mono ?_
   rintro e0 w0 ⟨rfl,hw0⟩
   rw [hw0]
   clear hw0 w0
   cases hb5:wthB re 1000000000
   ·skip
    have HV:=Lib.hid (hno.out (by rw [hok.out,hb0,hb1,hb2,hb3,hb4,hb5];rfl))
    go_wp2
    go_ret
    exact⟨by rw [HV.out];rfl,BB.out.2.trans (BR.out.mono BB.out.2.size)⟩
   have HV:=Lib.hid (show okP c k=true by rw [hok.out,hb0,hb1,hb2,hb3,hb4,hb5];rfl)
   clear hpb y0 y1 y2 y3 y4 hcx e2 x5
   go_wp2
   go_roundw
   case rel =>
    refine⟨k+1,by omega,by go_num,fun j hj=>?_,BB.out.1.trans (BR.out.mono BB.out.1.size)⟩
    by_cases e:j=k
    ·rw [e];exact HV.out
    ·exact HA.out j (by omega)
   case measure=>simp [intOf];omega
  obtain rfl:k=n:=by omega
  have jj:decide ((k:Int)<(k:Int))=false:=by simp
  have HV:=Lib.hid (show fb=true by rw [hfb.out,decide_eq_true_eq];exact HA.out)
  go_wp2
  go_ret
  exact⟨by rw [HV.out];rfl,BB.out.2⟩
end Go.Proofs.YtpimbaaahcemhaaGreat
namespace Go.Proofs.YtpimbaaahcemhaaGreat
open Go.RowKit
attribute [local irreducible] wpQuiet
noncomputable def cvB (c:Crt) (i:Int) (r:List (List Pt)):Bool:=if 0≤i∧i<c.psg.length then rwB r (pgd c.psg i.toNat).cor else false
noncomputable def cvE (c:Crt) (i:Int) (r:List (List Pt)):Int:=if 0≤i∧i<c.psg.length then rwE r (pgd c.psg i.toNat).cor else 1
set_option linter.unusedSimpArgs false in
set_option linter.unusedVariables false in
set_option maxRecDepth 8000 in
set_option maxHeartbeats 3200000 in
theorem covers_any (c:Crt) (vs vp ve vr:Value) (i:Int) (r:List (List Pt)) (w:World) (hc:CrtAt w.heap.size w c vs vp ve) (hr:RocksAt w.heap.size w vr r) :
  Calls Tryz.prog 15 #[.agg #[vs,vp,ve],.int .i64 i,vr] w fun e w'=>e=.returned (.tuple #[.bool (cvB c i r),.int .i64 (cvE c i r)])∧Below w.heap.size w w':=by
 have f1:=fun vq q w1 (B:Below w.heap.size w w1) h=>gwithin_any vr r vq q w1 ((hr.below B).mono B.size) h
 have H1:cvB c i r=if 0≤i∧i<c.psg.length then rwB r (pgd c.psg i.toNat).cor else false:=rfl
 have H2:cvE c i r=if 0≤i∧i<c.psg.length then rwE r (pgd c.psg i.toNat).cor else 1:=rfl
 generalize cvB c i r=x at *
 generalize cvE c i r=y at *
 obtain⟨⟨-,aS,cS,rfl,-⟩,⟨-,ap,cp,rfl,hcp⟩,⟨-,ar,cr,rfl,-⟩⟩:=hc
 obtain⟨-,a4,c4,rfl,-⟩:=hr
 replace f1:=Lib.hid f1
 have BW:=Lib.hid (Below.refl w.heap.size w)
 by_cases h1:i<0
 ·have d1:decide (i<0)=true:=by rw [decide_eq_true_eq];exact h1
  have HV:=Lib.hid (And.intro (show x=false by rw [H1,if_neg (by omega)]) (show y=1 by rw [H2,if_neg (by omega)]))
  clear H1 H2 h1 hcp
  go_enter Tryz.func15,Tryz.ntmps15
  go_wp2
  go_ret2
  exact⟨by rw [HV.out.1,HV.out.2];rfl,by repeat (first | exact Below.refl _ _ | assumption | apply Below.drew | refine Below.setCell ?_ (by first | omega | (simp;done) | (simp;omega)) _ | refine Below.alloc ?_ (by first | omega | (simp;done) | (simp;omega)) _ | refine Below.call (by assumption) ?_ (by first | omega | (simp;done) | (simp;omega)))⟩
 have d1:decide (i<0)=false:=by rw [decide_eq_false_iff_not];exact h1
 by_cases h2:i<c.psg.length
 rotate_left
 ·have d2:decide (i≥(c.psg.length:Int))=true:=by rw [decide_eq_true_eq];omega
  have HV:=Lib.hid (And.intro (show x=false by rw [H1,if_neg (by omega)]) (show y=1 by rw [H2,if_neg (by omega)]))
  clear H1 H2 h1 h2 hcp
  go_enter Tryz.func15,Tryz.ntmps15
  go_wp2_with fail
  have e1:(w.alloc (.cells #[.slice aS c.stops.length (c.stops.length+cS),.slice ap c.psg.length (c.psg.length+cp),.slice ar c.ret.length (c.ret.length+cr)] 30)).cell? ⟨w.heap.size,1,none⟩=some (.slice ap c.psg.length (c.psg.length+cp)):=(Has.new w #[.slice aS c.stops.length (c.stops.length+cS),.slice ap c.psg.length (c.psg.length+cp),.slice ar c.ret.length (c.ret.length+cr)] 30).cell (i:=1) rfl
  go_wp2
  go_ret2
  exact⟨by rw [HV.out.1,HV.out.2];rfl,by repeat (first | exact Below.refl _ _ | assumption | apply Below.drew | refine Below.setCell ?_ (by first | omega | (simp;done) | (simp;omega)) _ | refine Below.alloc ?_ (by first | omega | (simp;done) | (simp;omega)) _ | refine Below.call (by assumption) ?_ (by first | omega | (simp;done) | (simp;omega)))⟩
 have d2:decide (i≥(c.psg.length:Int))=false:=by rw [decide_eq_false_iff_not];omega
 obtain⟨k,rfl⟩:∃ k:Nat,i=k:=⟨i.toNat,by omega⟩
 have hk:k<c.psg.length:=by omega
 have HV:=Lib.hid (And.intro (show x=rwB r (pgd c.psg k).cor by rw [H1,if_pos ⟨by omega,h2⟩,Int.toNat_natCast]) (show y=rwE r (pgd c.psg k).cor by rw [H2,if_pos ⟨by omega,h2⟩,Int.toNat_natCast]))
 obtain⟨b,o,rfl,hb,hcp⟩:=hcp.resolve_left (by intro h;rw [h] at hk;simp at hk)
 obtain⟨u,x0,hu,-⟩:=hcp k hk
 obtain⟨au,cu,rfl⟩:=hu.len
 have f2:=Lib.hid (fun w1 B=>f1.out _ _ w1 B ((hu.below B).mono B.size))
 generalize rwB r (pgd c.psg k).cor=x' at *
 generalize rwE r (pgd c.psg k).cor=y' at *
 generalize (pgd c.psg k).cor=cl at *
 have k0:(0:Int)≤(k:Int):=by omega
 clear hcp hu H1 H2 f1 h1
 go_enter Tryz.func15,Tryz.ntmps15
 go_upto_region 1 with fail
 generalize hXX0:World.alloc w _=X0
 obtain⟨q0,hA,hzX0⟩:=box1 hXX0
 clear hXX0
 have BW:=Lib.hid hA
 clear hA
 have CB:=Lib.hid q0
 clear q0
 clear hzX0
 have e1:=CB.out.cell (i:=1) rfl
 replace x0:=(BW.out.cell (p:=⟨b,o+k*5,none⟩) hb).trans x0
 go_wp2_with fail
 refine (f2.out _ BW.out).mono ?_
 rintro e w1 ⟨rfl,b1⟩
 replace BW:=Lib.hid (BW.out.trans (b1.mono BW.out.size))
 have B_X0:=Lib.hid b1
 clear b1
 clear x0 e1
 go_wp2
 go_ret2
 exact⟨by rw [HV.out.1,HV.out.2];rfl,BW.out⟩
set_option linter.unusedSimpArgs false in
set_option linter.unusedVariables false in
set_option maxRecDepth 8000 in
set_option maxHeartbeats 3200000 in
theorem csame_any (c:Crt) (vs vp ve us up ue:Value) (w:World) (hc:CrtAt w.heap.size w c vs vp ve) (hd:CrtAt w.heap.size w c us up ue) :
  Calls Tryz.prog 12 #[.agg #[vs,vp,ve],.agg #[us,up,ue]] w fun e w'=>e=.returned (.bool true)∧Below w.heap.size w w':=by
 have f1:=fun w1 (B:Below w.heap.size w w1)=>same32_any vs us c.stops c.stops w1 ((hc.1.below B).mono B.size) ((hd.1.below B).mono B.size)
 have f2:=fun w1 (B:Below w.heap.size w w1)=>same32_any ve ue c.ret c.ret w1 ((hc.2.2.below B).mono B.size) ((hd.2.2.below B).mono B.size)
 have f3:=fun vx vy (p:List Pt) w1 hx hy=>samepts_any vx vy p p w1 hx hy
 rw [decide_eq_true rfl] at f1 f2
 simp only [decide_true] at f3
 obtain⟨⟨-,aS,cS,rfl,-⟩,⟨hpl,ap,cp,rfl,hcp⟩,⟨-,ar,cr,rfl,-⟩⟩:=hc
 obtain⟨⟨-,aS',cS',rfl,-⟩,⟨-,ap',cp',rfl,hdp⟩,⟨-,ar',cr',rfl,-⟩⟩:=hd
 have HCP:=Lib.hid hcp
 have HDP:=Lib.hid hdp
 replace f1:=Lib.hid f1
 replace f2:=Lib.hid f2
 replace f3:=Lib.hid f3
 clear hcp hdp
 obtain⟨n,hn⟩:∃ n,c.psg.length=n:=⟨_,rfl⟩
 have HN:=Lib.hid hn
 have hnb:n≤70368744177663:=by rw [← hn];exact hpl
 rw [hn]
 clear hn hpl
 have BW:=Lib.hid (Below.refl w.heap.size w)
 have dn:((n:Int) == (n:Int))=true:=by simp
 go_enter Tryz.func12,Tryz.ntmps12
 go_wp2_with fail
 generalize hXX0:World.alloc (World.alloc w _) _=X0
 obtain⟨q0,q1,hA,hzX0⟩:=box2 hXX0
 clear hXX0
 have BW:=Lib.hid hA
 clear hA
 have CB:=Lib.hid q0
 clear q0
 have DB:=Lib.hid q1
 clear q1
 clear hzX0
 have hc:=CB.out
 have c0:=hc.cell (i:=0) rfl
 have c1:=hc.cell (i:=1) rfl
 have c2:=hc.cell (i:=2) rfl
 have hd:=DB.out
 have d0:=hd.cell (i:=0) rfl
 have d1:=hd.cell (i:=1) rfl
 have d2:=hd.cell (i:=2) rfl
 refine (f1.out _ BW.out).mono ?_
 rintro e w1 ⟨rfl,b1⟩
 replace BW:=Lib.hid (BW.out.trans (b1.mono BW.out.size))
 have B_X0:=Lib.hid b1
 clear b1
 clear hc c0 c1 c2 hd d0 d1 d2
 have hc:=(CB.out.below B_X0.out CB.out.lt)
 have c0:=hc.cell (i:=0) rfl
 have c1:=hc.cell (i:=1) rfl
 have c2:=hc.cell (i:=2) rfl
 have hd:=(DB.out.below B_X0.out DB.out.lt)
 have d0:=hd.cell (i:=0) rfl
 have d1:=hd.cell (i:=1) rfl
 have d2:=hd.cell (i:=2) rfl
 go_wp2_with fail
 refine (f2.out _ BW.out).mono ?_
 rintro e w2 ⟨rfl,b2⟩
 replace BW:=Lib.hid (BW.out.trans (b2.mono BW.out.size))
 replace B_X0:=Lib.hid (B_X0.out.trans (b2.mono B_X0.out.size))
 clear b2
 clear hc c0 c1 c2 hd d0 d1 d2
 have hc:=(CB.out.below B_X0.out CB.out.lt)
 have c0:=hc.cell (i:=0) rfl
 have c1:=hc.cell (i:=1) rfl
 have c2:=hc.cell (i:=2) rfl
 have hd:=(DB.out.below B_X0.out DB.out.lt)
 have d0:=hd.cell (i:=0) rfl
 have d1:=hd.cell (i:=1) rfl
 have d2:=hd.cell (i:=2) rfl
 go_wp2
 have hCB:=Lib.hid (CB.out.below B_X0.out CB.out.lt)
 have hDB:=Lib.hid (DB.out.below B_X0.out DB.out.lt)
 clear hc c0 c1 c2 hd d0 d1 d2
 go_loopw [5] (fun i wr=>∃ k:Nat,k≤n∧i=.int .i64 k∧Below w2.heap.size w2 wr) (fun i _=>n - (intOf i).toNat)
 case atStart=>exact⟨0,Nat.zero_le _,rfl,Below.refl _ _⟩
 case round =>
  obtain⟨k,hk,rfl,hB⟩:=hrel
  obtain⟨wo,hwo⟩:∃ x,x=wr:=⟨_,rfl⟩
  subst hwo
  have BB:=Lib.hid hB
  replace BW:=Lib.hid (BW.out.trans (hB.mono BW.out.size))
  clear hB
  have hCO:=Lib.hid (hCB.out.below BB.out hCB.out.lt)
  have hDO:=Lib.hid (hDB.out.below BB.out hDB.out.lt)
  have BR:=Lib.hid (Below.refl wo.heap.size wo)
  by_cases hlt:k<n
  ·obtain⟨b,o,rfl,hb,hc⟩:=HCP.out.resolve_left (by intro h;have:=HN.out;rw [h] at this;simp at this;omega)
   obtain⟨b',o',rfl,hb',hd⟩:=HDP.out.resolve_left (by intro h;have:=HN.out;rw [h] at this;simp at this;omega)
   obtain⟨u,x0,hu,x1,x2,x3,x4⟩:=hc k (by rw [HN.out];exact hlt)
   obtain⟨v,y0,hv,y1,y2,y3,y4⟩:=hd k (by rw [HN.out];exact hlt)
   generalize pgd c.psg k=p at *
   have HU:=Lib.hid ((hu.below BW.out).mono BW.out.size)
   have HV:=Lib.hid ((hv.below BW.out).mono BW.out.size)
   obtain⟨au,cu,rfl⟩:=HU.out.len
   obtain⟨av,cv,rfl⟩:=HV.out.len
   replace x0:=(BW.out.cell (p:=⟨b,o+k*5,none⟩) hb).trans x0
   have Y0:=Lib.hid ((BW.out.cell (p:=⟨b',o'+k*5,none⟩) hb').trans y0)
   replace x1:=(BW.out.cell (p:=⟨b,o+k*5+1,none⟩) hb).trans x1
   have Y1:=Lib.hid ((BW.out.cell (p:=⟨b',o'+k*5+1,none⟩) hb').trans y1)
   replace x2:=(BW.out.cell (p:=⟨b,o+k*5+2,none⟩) hb).trans x2
   have Y2:=Lib.hid ((BW.out.cell (p:=⟨b',o'+k*5+2,none⟩) hb').trans y2)
   replace x3:=(BW.out.cell (p:=⟨b,o+k*5+3,none⟩) hb).trans x3
   have Y3:=Lib.hid ((BW.out.cell (p:=⟨b',o'+k*5+3,none⟩) hb').trans y3)
   replace x4:=(BW.out.cell (p:=⟨b,o+k*5+4,none⟩) hb).trans x4
   have Y4:=Lib.hid ((BW.out.cell (p:=⟨b',o'+k*5+4,none⟩) hb').trans y4)
   have dk:decide ((k:Int)<(n:Int))=true:=by rw [decide_eq_true_eq];omega
   have kl:(k:Int)<(n:Int):=by omega
   have k0:(0:Int)≤(k:Int):=by omega
   have hbz:=Nat.lt_of_lt_of_le hb' BW.out.size
   clear hc hd hu hv y0 y1 y2 y3 y4
   have hc:=hCO.out
   have c0:=hc.cell (i:=0) rfl
   have c1:=hc.cell (i:=1) rfl
   have c2:=hc.cell (i:=2) rfl
   have hd:=hDO.out
   have d0:=hd.cell (i:=0) rfl
   have d1:=hd.cell (i:=1) rfl
   have d2:=hd.cell (i:=2) rfl
   go_upto_region 7 with fail
   generalize hXX6:World.alloc wo _=X6
   obtain⟨q0,hA,hzX6⟩:=box1 hXX6
   clear hXX6
   replace BW:=Lib.hid (BW.out.trans (hA.mono BW.out.size))
   have BR:=Lib.hid hA
   clear hA
   have PB:=Lib.hid q0
   clear q0
   clear hc c0 c1 c2 hd d0 d1 d2
   have hc:=(hCO.out.below BR.out hCO.out.lt)
   have c0:=hc.cell (i:=0) rfl
   have c1:=hc.cell (i:=1) rfl
   have c2:=hc.cell (i:=2) rfl
   have hd:=(hDO.out.below BR.out hDO.out.lt)
   have d0:=hd.cell (i:=0) rfl
   have d1:=hd.cell (i:=1) rfl
   have d2:=hd.cell (i:=2) rfl
   clear x0 x1 x2 x3 x4
   have y0:=(BR.out.cell (p:=⟨b',o'+k*5,none⟩) hbz).trans Y0.out
   have y1:=(BR.out.cell (p:=⟨b',o'+k*5+1,none⟩) hbz).trans Y1.out
   have y2:=(BR.out.cell (p:=⟨b',o'+k*5+2,none⟩) hbz).trans Y2.out
   have y3:=(BR.out.cell (p:=⟨b',o'+k*5+3,none⟩) hbz).trans Y3.out
   have y4:=(BR.out.cell (p:=⟨b',o'+k*5+4,none⟩) hbz).trans Y4.out
   go_upto_region 8 with fail
   generalize hXX7:World.alloc X6 _=X7
   obtain⟨q0,hA,hzX7⟩:=box1 hXX7
   clear hXX7
   replace BW:=Lib.hid (BW.out.trans (hA.mono BW.out.size))
   replace BR:=Lib.hid (BR.out.trans (hA.mono BR.out.size))
   have B_X6:=Lib.hid hA
   clear hA
   have QB:=Lib.hid q0
   clear q0
   clear y0 y1 y2 y3 y4
   replace QB:=QB.out
   rw [hzX6] at QB
   replace QB:=Lib.hid QB
   clear hc c0 c1 c2 hd d0 d1 d2
   have hp:=(PB.out.below B_X6.out PB.out.lt)
   have x0:=hp.cell (i:=0) rfl
   have x1:=hp.cell (i:=1) rfl
   have x2:=hp.cell (i:=2) rfl
   have x3:=hp.cell (i:=3) rfl
   have x4:=hp.cell (i:=4) rfl
   have hq:=QB.out
   have y0:=hq.cell (i:=0) rfl
   have y1:=hq.cell (i:=1) rfl
   have y2:=hq.cell (i:=2) rfl
   have y3:=hq.cell (i:=3) rfl
   have y4:=hq.cell (i:=4) rfl
   go_wp2_with fail
   refine (f3.out _ _ p.cor X7 ((HU.out.below BR.out).mono BR.out.size) ((HV.out.below BR.out).mono BR.out.size)).mono ?_
   rintro e w3 ⟨rfl,b3⟩
   replace BW:=Lib.hid (BW.out.trans (b3.mono BW.out.size))
   replace BR:=Lib.hid (BR.out.trans (b3.mono BR.out.size))
   replace B_X6:=Lib.hid (B_X6.out.trans (b3.mono B_X6.out.size))
   have B_X7:=Lib.hid b3
   clear b3
   clear hp x0 x1 x2 x3 x4 hq y0 y1 y2 y3 y4
   have hp:=(PB.out.below B_X6.out PB.out.lt)
   have x0:=hp.cell (i:=0) rfl
   have x1:=hp.cell (i:=1) rfl
   have x2:=hp.cell (i:=2) rfl
   have x3:=hp.cell (i:=3) rfl
   have x4:=hp.cell (i:=4) rfl
   have hq:=(QB.out.below B_X7.out QB.out.lt)
   have y0:=hq.cell (i:=0) rfl
   have y1:=hq.cell (i:=1) rfl
   have y2:=hq.cell (i:=2) rfl
   have y3:=hq.cell (i:=3) rfl
   have y4:=hq.cell (i:=4) rfl
   have e1:(p.fr == p.fr)=true:=by simp
   have e2:(p.tw == p.tw)=true:=by simp
   have e3:(p.tm == p.tm)=true:=by simp
   have e4:(p.en == p.en)=true:=by simp
   go_wp2
   go_roundw
   case rel=>exact⟨k+1,by omega,by go_num,BB.out.trans (BR.out.mono BB.out.size)⟩
   case measure=>simp [intOf];omega
  obtain rfl:k=n:=by omega
  have jj:decide ((k:Int)<(k:Int))=false:=by simp
  have hc:=hCO.out
  have c0:=hc.cell (i:=0) rfl
  have c1:=hc.cell (i:=1) rfl
  have c2:=hc.cell (i:=2) rfl
  have hd:=hDO.out
  have d0:=hd.cell (i:=0) rfl
  have d1:=hd.cell (i:=1) rfl
  have d2:=hd.cell (i:=2) rfl
  go_wp2
  go_ret
  exact⟨rfl,BW.out⟩
end Go.Proofs.YtpimbaaahcemhaaGreat
