/- Plans: what the legs of a mission with stops come to. No program here. | package tryst: has, disk. | package plan: trip.clear, trip.back. | package .. -/
import Derived.Test.YthipcinibldgnaaGreatBin21
import Derived.Test.YthipcinibldgnaaGreatBin19
import Derived.Test.YthipcinibldgnaaGreatBin18
open Go.Value renaming int->O,pointer->qP
open Go.Ending renaming returned->qR
open Go.IntKind renaming wrap->qW,i64->qL
open Go.Lib renaming hid->qH
open Go.RowKit.Below renaming refl->qK
open Go.World renaming alloc->qV,block_lt_of_cell?->qO
open Nat renaming le_refl->qN
open And renaming intro->qI
open Go.Act renaming put->qJ
set_option linter.unusedSimpArgs false
set_option linter.unusedVariables false
set_option maxRecDepth 8000
set_option maxHeartbeats 6400000
namespace Go.Proofs.YthipcinibldgnaaGreat
def atW (m:Msn) (k:Nat):Pt:=⟨(wy m.ways k).x,(wy m.ways k).y⟩
noncomputable def clrB (m:Msn) (a:Nat) (u:Int) (b:Nat) (w:Int):Bool:=!firB (corL (atW m a) u (atW m b) w) m.rocks
def bkR (m:Msn) (a:Nat) (r:Int):Nat->Int
 | 0=>r
 | j+1=>bkR m a r j+gLeg m (itB m a j) (itB m a (j+1))
noncomputable def bkC (m:Msn) (a:Nat) (r:Int):Nat->Bool
 | 0=>true
 | j+1=>bkC m a r j && clrB m (itB m a j) (bkR m a r j) (itB m a (j+1)) (bkR m a r (j+1))
noncomputable def lieB (m:Msn) (r:Int):Bool:=decide ((cornersP (mvL (atW m 0) (Z4 r.toNat)) m.home).length=(mvL (atW m 0) (Z4 r.toNat)).length)
noncomputable def kindV (m:Msn) (l:List Int) (k:Nat):Int :=
 if clrB m k (rdA m l k) (k+1) (rdB m l (k+1))=false then 1
 else if bkC m (k+1) (rdB m l (k+1)) (dep m (k+1))=false then 5
 else if lieB m (bkR m (k+1) (rdB m l (k+1)) (dep m (k+1)))=false then 2
 else if usE m l (k+1)+homeE m (k+1) (dep m (k+1))>m.battery then 3
 else if usT m l (k+1)+homeT m (k+1) (dep m (k+1))>m.deadline then 4
 else 0
noncomputable def leadF (m:Msn) (l:List Int):Nat->Nat->Nat
 | 0,k=>k
 | n+1,k=>if kindV m l k=0 then leadF m l n (k+1) else k
noncomputable def leadN (m:Msn) (l:List Int):Nat:=leadF m l (m.ways.length-1) 0
noncomputable def leadV (m:Msn) (l:List Int):Int:=leadN m l
noncomputable def leadK (m:Msn) (l:List Int):Int:=if leadN m l<m.ways.length-1 then kindV m l (leadN m l) else 0
theorem Z4v (m:Msn) (l:List Int):∀ n k,k<=leadF m l n k/\leadF m l n k<=k+n/\(∀ j,k<=j->j<leadF m l n k->kindV m l j=0)/\(leadF m l n k<k+n->kindV m l (leadF m l n k)≠0)
 | 0,k=>⟨qN _,qN _,fun j h1 h2=>by simp only [leadF] at h2;omega,fun h=>by simp only [leadF] at h;omega⟩
 | n + 1, k => by
  simp only [leadF];by_cases h:kindV m l k=0
  ·rw [if_pos h]
   obtain⟨a,b,c,d⟩:=Z4v m l n (k+1);refine⟨by omega,by omega,fun j h1 h2=>?_,fun h2=>d (by omega)⟩
   rcases Nat.lt_or_eq_of_le h1 with e | e
   ·exact c j e h2
   ·rw [<- e];exact h
  ·rw [if_neg h]
   exact⟨qN _,by omega,fun j h1 h2=>by omega,fun _=>h⟩
theorem Z11 (m:Msn) (l:List Int):leadN m l<=m.ways.length-1/\(∀ j,j<leadN m l->kindV m l j=0)/\(leadN m l<m.ways.length-1->kindV m l (leadN m l)≠0):=by
 obtain⟨a,b,c,d⟩:=Z4v m l (m.ways.length-1) 0;exact⟨by unfold leadN;omega,fun j h=>c j (Nat.zero_le _) h,fun h=>d (by unfold leadN at h;omega)⟩
theorem Z38 {m:Msn} {l:List Int} {n:Nat} (h:n<=m.ways.length-1) (h1:∀ j,j<n->kindV m l j=0) (h2:n<m.ways.length-1->kindV m l n≠0):leadN m l=n:=by
 obtain⟨a,b,c⟩:=Z11 m l;rcases Nat.lt_trichotomy (leadN m l) n with e | e | e
 ·exact (c (by omega) (h1 _ e)).elim
 ·exact e
 ·exact (h2 (by omega) (b _ e)).elim
theorem Z5e (m:Msn) (l:List Int) (k:Nat):0<=kindV m l k/\kindV m l k<=5:=by
 unfold kindV
 repeat' split
 all_goals omega
theorem Z5U (m:Msn):∀ k,onsTo m k=sumG m k
 | 0=>rfl
 | k+1=>by rw [onsTo,sumG,Z5U m k]
theorem Z86 (m:Msn) (a:Nat) (r:Int):∀ j,bkR m a r j=r+homeP m a j
 | 0=>by simp [bkR,homeP]
 | j+1=>by simp only [bkR,homeP,Z86 m a r j];omega
theorem Z2B {m:Msn} (V:VMsn m) {a:Nat} (ha:a<m.ways.length) (i:Nat):∀ j,i<=j->j<=dep m a->homeP m a i<=homeP m a j
 | 0,h,_=>by rw [Nat.le_zero.1 h];exact Int.le_refl _
 | j + 1, h, hj => by
  rcases Nat.lt_or_eq_of_le h with e | e
  ·have ih:=Z2B V ha i j (by omega) (by omega)
   have g:=ZW V.leg V.ways (Z0o V.ways ha (j:=j) (by omega)) (Z0o V.ways ha (j:=j+1) hj)
   simp only [homeP];omega
  ·rw [e];exact Int.le_refl _
theorem bk_bd {m:Msn} (V:VMsn m) (l:List Int) {a:Nat} (ha:a<m.ways.length) {j:Nat} (hj:j<=dep m a):0<=bkR m a (rdB m l a) j/\bkR m a (rdB m l a) j<=100000:=by
 have r:=rd_bd V l a ha;have h:=Zbv V.leg V.ways V.start V.grown ha;have c:=Z2B V ha 0 j (Nat.zero_le _) hj;have b:=Z2B V ha j (dep m a) hj (qN _);rw [Z5U] at h;rw [Z86];have:homeP m a 0=0:=rfl;omega
theorem Z0U {m:Msn} (V:VMsn m) {k:Nat} (hk:k<m.ways.length):-300000<=(atW m k).x/\(atW m k).x<=300000/\-300000<=(atW m k).y/\(atW m k).y<=300000:=Z0c V.ways hk
theorem Z4H {m:Msn} (V:VMsn m) {a b:Nat} (ha:a<m.ways.length) (hb:b<m.ways.length) {u w:Int} (hu:0<=u/\u<=100000) (hw:0<=w/\w<=100000):corE (atW m a) u (atW m b) w=0:=by
 have p:=Z0U V ha;have q:=Z0U V hb;exact Zc2 (by omega) (by omega) hu hw
section
attribute [local irreducible] wpQuiet
open Go.RowKit
theorem Z0E (m:Msn) (l:List Int):(rdAU m l).length=m.ways.length:=by unfold rdAU;exact Zq _ _
theorem Z0N (m:Msn) (l:List Int):(usedT m l).length=m.ways.length:=by unfold usedT;exact Zq _ _
theorem Z0W (f:Nat->Int) {n j:Nat} (h:j<n):(upto f n).getD j 0=f j:=by simp [upto,List.getD,h]
theorem ZI {n0:Nat} {W:World} {v:Value} {l:List Int} (h:Z8 n0 W v l) (h0:0<l.length):∃ b o cap,v=.slice (some ⟨b,o,none⟩) l.length (l.length+cap)/\b<n0/\∀ j,j<l.length->W.cell? ⟨b,o+j,none⟩=some (O qL (l.getD j 0)):=by
 obtain⟨_,a,cap,e,c⟩:=h;rcases c with rfl | ⟨b,o,rfl,d,c⟩
 ·simp at h0
 ·exact⟨b,o,cap,e,d,c⟩
structure TripAt (n0:Nat) (W:World) (m:Msn) (l:List Int) (vw vh vr vb va vt ve:Value):Prop where
 msn:MsnAt n0 W m vw vh vr
 bef:Z8 n0 W vb (rdBU m l)
 aft:Z8 n0 W va (rdAU m l)
 tim:Z8 n0 W vt (usedT m l)
 ene:Z8 n0 W ve (usedE m l)
theorem TripAt.up {A B:World} {m:Msn} {l:List Int} {vw vh vr vb va vt ve:Value} (h:TripAt A.heap.size A m l vw vh vr vb va vt ve) (k:Below A.heap.size A B):TripAt B.heap.size B m l vw vh vr vb va vt ve :=
 ⟨(h.msn.below k).mono k.size,(h.bef.below k).mono k.size,(h.aft.below k).mono k.size,(h.tim.below k).mono k.size,(h.ene.below k).mono k.size⟩
theorem ZG (m:Msn) (l:List Int):(rdBU m l).length=m.ways.length:=by unfold rdBU;exact Zq _ _
theorem Z1H {m:Msn} {l:List Int} {k:Nat} (h:k<m.ways.length):(rdBU m l).getD k 0=rdB m l k:=by rw [rdBU,Z0W _ h]
theorem Z4Y {m:Msn} {l:List Int} {k:Nat} (h:k<m.ways.length):(rdAU m l).getD k 0=rdA m l k:=by rw [rdAU,Z0W _ h]
theorem Z4j (m:Msn) (l:List Int) (vw vh vr vb va vt ve:Value) (w:World) (T:TripAt w.heap.size w m l vw vh vr vb va vt ve) (a b:Nat) (u v:Int) (ha:a<m.ways.length) (hb:b<m.ways.length) (n41:m.ways.length<=41) :
  Calls Tryz.prog 87 #[.agg (tripCells m vw vh vr vb va vt ve),O qL a,O qL u,O qL b,O qL v] w fun e w'=>e=qR (.bool (clrB m a u b v))/\Below w.heap.size w w':=by
 have f1:=fun w1=>Z0z ⟨(wy m.ways a).x,(wy m.ways a).y⟩ ⟨(wy m.ways b).x,(wy m.ways b).y⟩ u v w1
 have f2:=fun vc w1 (B:Below w.heap.size w w1) h=>Z1w vc vr (corL ⟨(wy m.ways a).x,(wy m.ways a).y⟩ u ⟨(wy m.ways b).x,(wy m.ways b).y⟩ v) m.rocks w1 h (((T.msn.2.2).below B).mono B.size)
 unfold clrB atW;obtain⟨⟨-,a1,c1,rfl,o⟩,⟨-,a2,c2,rfl,-⟩,⟨-,a3,c3,rfl,-⟩⟩:=T.msn;obtain⟨-,ab,cb,rfl,-⟩:=T.bef;obtain⟨-,aa,ca,rfl,-⟩:=T.aft;obtain⟨-,at',ct,rfl,-⟩:=T.tim;obtain⟨-,ae,ce,rfl,-⟩:=T.ene;obtain⟨H,G,rfl,I,o⟩:=o.resolve_left (by intro h;rw [h] at ha;simp at ha)
 obtain⟨Z,Y,-⟩:=o a ha;obtain⟨W,x4,-⟩:=o b hb;clear T o;unfold tripCells at *;generalize corL ⟨(wy m.ways a).x,(wy m.ways a).y⟩ u ⟨(wy m.ways b).x,(wy m.ways b).y⟩ v=cl at *;generalize corE ⟨(wy m.ways a).x,(wy m.ways a).y⟩ u ⟨(wy m.ways b).x,(wy m.ways b).y⟩ v=ce at *;simp only at f1;obtain⟨px,h1⟩:∃ x,(wy m.ways a).x=x:=⟨_,rfl⟩;obtain⟨py,h2⟩:∃ x,(wy m.ways a).y=x:=⟨_,rfl⟩;obtain⟨qx,h3⟩:∃ x,(wy m.ways b).x=x:=⟨_,rfl⟩;obtain⟨qy,h4⟩:∃ x,(wy m.ways b).y=x:=⟨_,rfl⟩;rw [h1,h2,h3,h4] at f1;rw [h1] at Z;rw [h2] at Y;rw [h3] at W;rw [h4] at x4;clear h1 h2 h3 h4;generalize firB cl m.rocks=fb at *;generalize firI cl m.rocks=fi at *;generalize firE cl m.rocks=fe at *;replace f1:=qH f1;replace f2:=qH f2;have ha':(a:Int)<m.ways.length:=by omega
 have hb':(b:Int)<m.ways.length:=by omega
 have ha0:(0:Int)<=a:=by omega
 have hb0:(0:Int)<=b:=by omega
 have d:=qH (qK w.heap.size w);go_enter Tryz.func87,Tryz.ntmps87;go_upto_region 1 with fail
 generalize K:qV w _=X0;obtain⟨q0,hA,hzX0⟩:=box1 K;clear K;have d:=qH hA;clear hA;have RB:=qH q0;clear q0;replace Z:=cY d.out Z I;replace Y:=cY d.out Y I;replace W:=cY d.out W I;replace x4:=cY d.out x4 I;have x0:=cX 0 RB.out rfl;refine (wpIn_wide (n:=9)).1 ?_;refine Zi (Zk _) 21 (fun X=>Below X0.heap.size X0 X) (by kernel_rfl) (by kernel_rfl) (by kernel_rfl) fun hH inv0=>?_
 have hD:=Below.drew (qK X0.heap.size X0);generalize hXX1:X0.drew=X1 at *;clear hXX1;replace d:=zAd d hD;have c:=qH hD;clear hD;refine sk hH 0 (qP (some ⟨w.heap.size,0,none⟩)) (Zd rfl) inv0 (fun X hX=>?_) fun U=>?_
 ·go_simp
 simp only [pT];clear inv0;refine sk hH 1 (qP (some ⟨w.heap.size,0,none⟩)) (Zd rfl) U (fun X hX=>?_) fun S=>?_
 ·go_simp
 simp only [pT];clear U;refine sk hH 2 (.slice (some ⟨H,G,none⟩) m.ways.length (m.ways.length+c1)) (Zd rfl) S (fun X hX=>?_) fun L=>?_
 ·have r0:=(hX.cell (p:=⟨w.heap.size,0,none⟩) (qO _ _ x0)).trans x0;go_simp
 simp only [pT];clear S;refine sk hH 3 (O qL (a:Int)) (Zd rfl) L (fun X hX=>?_) fun R=>?_
 ·go_simp
 simp only [pT];clear L;refine sk hH 4 (qP (some ⟨H,G+a*5,none⟩)) (Zd rfl) R (fun X hX=>?_) fun M=>?_
 ·go_simp
 simp only [pT];clear R;refine sk hH 5 (qP (some ⟨H,G+a*5,none⟩)) (Zd rfl) M (fun X hX=>?_) fun Q=>?_
 ·go_simp
 simp only [pT];clear M;refine sk hH 6 (.agg #[O qL px,O qL py]) (Zd rfl) Q (fun X hX=>?_) fun J=>?_
 ·have r0:=(hX.cell (p:=⟨H,G+a*5,none⟩) (qO _ _ Z)).trans Z;have r1:=(hX.cell (p:=⟨H,G+a*5+1,none⟩) (qO _ _ Y)).trans Y;go_simp
 simp only [pT];clear Q;refine sk hH 7 (O qL u) (Zd rfl) J (fun X hX=>?_) fun N=>?_
 ·go_simp
 simp only [pT];clear J;refine sk hH 8 (qP (some ⟨w.heap.size,0,none⟩)) (Zd rfl) N (fun X hX=>?_) fun P=>?_
 ·go_simp
 simp only [pT];clear N;refine sk hH 9 (qP (some ⟨w.heap.size,0,none⟩)) (Zd rfl) P (fun X hX=>?_) fun D=>?_
 ·go_simp
 simp only [pT];clear P;refine sk hH 10 (.slice (some ⟨H,G,none⟩) m.ways.length (m.ways.length+c1)) (Zd rfl) D (fun X hX=>?_) fun F=>?_
 ·have r0:=(hX.cell (p:=⟨w.heap.size,0,none⟩) (qO _ _ x0)).trans x0;go_simp
 simp only [pT];clear D;refine sk hH 11 (O qL (b:Int)) (Zd rfl) F (fun X hX=>?_) fun g=>?_
 ·go_simp
 simp only [pT];clear F;refine sk hH 12 (qP (some ⟨H,G+b*5,none⟩)) (Zd rfl) g (fun X hX=>?_) fun E=>?_
 ·go_simp
 simp only [pT];clear g;refine sk hH 13 (qP (some ⟨H,G+b*5,none⟩)) (Zd rfl) E (fun X hX=>?_) fun k=>?_
 ·go_simp
 simp only [pT];clear E;refine sk hH 14 (.agg #[O qL qx,O qL qy]) (Zd rfl) k (fun X hX=>?_) fun q=>?_
 ·have r0:=(hX.cell (p:=⟨H,G+b*5,none⟩) (qO _ _ W)).trans W;have r1:=(hX.cell (p:=⟨H,G+b*5+1,none⟩) (qO _ _ x4)).trans x4;go_simp
 simp only [pT];clear k;refine sk hH 15 (O qL v) (Zd rfl) q (fun X hX=>?_) fun t=>?_
 ·go_simp
 simp only [pT];clear q;have C:=HeadInv.put2 t (j:=16) (by kernel_rfl) (by omega)
 clear t;refine sa1 (r:=16) c.out ?_;refine Zo (Zd rfl) rfl (f:=44) (args:=#[.agg #[O qL px,O qL py],O qL u,.agg #[O qL qx,O qL qy],O qL v]) (by go_simp) (f1.out X1) ?_
 rintro e w1 ⟨v1,rfl,p1,b1⟩;refine⟨_,rfl,?_⟩;simp only [pT];replace d:=zAd d b1;replace c:=zAd c b1;clear b1;have P1:=qH p1;clear p1;refine sk hH 17 (.tuple #[v1,O qL ce]) (Zd rfl) C (fun X hX=>?_) fun s=>?_
 ·go_simp
 simp only [pT];clear C;refine sk hH 18 v1 (Zd rfl) s (fun X hX=>?_) fun z=>?_
 ·go_simp
 simp only [pT];clear s;refine sk hH 19 (O qL ce) (Zd rfl) z (fun X hX=>?_) fun A=>?_
 ·go_simp
 simp only [pT];clear z;refine sk hH 20 v1 (Zd rfl) A (fun X hX=>?_) fun V=>?_
 ·go_simp
 simp only [pT];clear A V hH;refine Zj (by kernel_rfl) c.out ?_
 simp only [List.drop_succ_cons,List.drop_zero];obtain⟨g1,d1,hv1⟩:=P1.out.len;subst hv1;clear x0 Z Y W x4;have W:=(zCj RB c).cell (i:=3) rfl;gi_wp2;go_wp2_with fail;refine (f2.out _ _ d.out P1.out).mono ?_;rintro e w2 ⟨rfl,b2⟩;replace d:=zAd d b2;replace c:=zAd c b2;have B_w1:=qH b2;clear b2;cases fb
 all_goals
  go_wp2;go_ret;exact⟨rfl,d.out⟩
theorem Z9j (m : Msn) (l : List Int) (vw vh vr vb va vt ve : Value) (w : World) (T : TripAt w.heap.size w m l vw vh vr vb va vt ve) (V : VMsn m) (k : Nat) (hk : k < m.ways.length) :
  Calls Tryz.prog 82 #[.agg (tripCells m vw vh vr vb va vt ve),O qL k] w fun e w'=>e=qR (.tuple #[.bool (bkC m k (rdB m l k) (dep m k)),O qL (bkR m k (rdB m l k) (dep m k))])/\Below w.heap.size w w':=by
 have hV:=(Zm m).2 V;have n41:=V.n41;have N:=fun g (B:Below w.heap.size w g)=>Z3r m vw vh vr k g ((T.msn.below B).mono B.size)
 rw [(Z0Y hV hk).1,(Z0Y hV hk).2] at N;have fl:=fun g (B:Below w.heap.size w g) (i j:Nat) hi s=>Z1T (m:=m) (a:=i) (b:=j) hV hi s ▸ Z1U m vw vh vr i j g ((T.msn.below B).mono B.size)
 have fc:=fun g (B:Below w.heap.size w g) (i j:Nat) u v hi s=>Z4j m l vw vh vr vb va vt ve g (T.up B) i j u v hi s n41
 have P:=fun j (s:j<=dep m k)=>bk_bd V l hk s
 have p:=fun j (s:j<=dep m k)=>Z0o V.ways hk s
 have F:=fun i j hi s=>ZW V.leg V.ways (i:=i) (j:=j) hi s
 have hd:=Z2V V.ways hk;obtain⟨bb,ob,cb,rfl,hbb,G⟩:=ZI T.bef (by rw [ZG];omega)
 simp only [ZG] at G fc ⊢;have xb:=(G k hk).trans (by rw [Z1H hk])
 obtain⟨⟨-,a1,c1,rfl,-⟩,⟨-,a2,c2,rfl,-⟩,⟨-,a3,c3,rfl,-⟩⟩:=T.msn;obtain⟨-,aa,ca,rfl,-⟩:=T.aft;obtain⟨-,at',ct,rfl,-⟩:=T.tim;obtain⟨-,ae,ce,rfl,-⟩:=T.ene;have q:(intL (upto (itB m k) (dep m k+1))).length=dep m k+1:=by simp [intL,upto]
 obtain⟨n,hn⟩:∃ n,dep m k=n:=⟨_,rfl⟩;simp only [hn] at N P p hd q ⊢;clear T G hV V hn;unfold tripCells Zc at *;replace N:=qH N;replace fl:=qH fl;replace fc:=qH fc;replace P:=qH P;replace p:=qH p;replace F:=qH F;have C:=qH q;clear q;have hk':(k:Int)<m.ways.length:=by omega
 have hk0:(0:Int)<=k:=by omega
 have hr0:Hid (bkR m k (rdB m l k) 0=rdB m l k):=rfl;generalize hrr:rdB m l k=r0 at *;clear hrr;have H:=qH (qK w.heap.size w);go_enter Tryz.func82,Tryz.ntmps82;go_wp2_with fail;generalize t:qV w _=X0;obtain⟨J,hA,hzX0⟩:=box1 t;clear t;have H:=qH hA;clear hA;have RB:=qH J;clear J;refine (N.out _ H.out).mono ?_;rintro e g ⟨v1,rfl,E,b1⟩;replace H:=zAd H b1;have R:=qH b1;clear b1;obtain⟨b2,o2,cap4,hv1,X,Q⟩:=Z12 E C.out;subst hv1;clear E;replace xb:=cY H.out xb hbb;have RX:=qH (zCj RB R);have x11:=cX 11 RX.out rfl;have BX:=qH H.out;have z:=qH Q;clear Q;have hz1:=RX.out.lt;go_wp2;clear x11 xb
 go_loopw [8,9,10] (fun r c i wr=>∃ j:Nat,j<=n/\r=O qL (bkR m k r0 j)/\c=.bool (bkC m k r0 j)/\i=O qL ((j:Int)+1)/\Below g.heap.size g wr) (fun _ _ i _=>n+1-(intOf i).toNat)
 case atStart=>exact⟨0,Nat.zero_le _,rfl,rfl,rfl,qK _ _⟩
 case round =>
  obtain⟨j,s,rfl,rfl,rfl,hB⟩:=hrel;obtain⟨wo,hwo⟩:∃ x,x=wr:=⟨_,rfl⟩;subst hwo;have BO:=BX.out.trans (hB.mono BX.out.size);have f:=qH (qI hB BO);clear hB BO;by_cases hjn:j<n
  ·have Z:=p.out j (by omega)
   have Y:=p.out (j+1) (by omega)
   have r1:=P.out j (by omega)
   have r2:=P.out (j+1) (by omega)
   have U:=z.out j (by omega)
   have I:=z.out (j+1) (by omega)
   rw [Z1m (by omega)] at U I
   replace U:=cY f.out.1 U X;replace I:=cY f.out.1 I X;have o:=RX.out.below f.out.1 RX.out.lt;have gl:=qH (fun w2 (B:Low wo w2)=>fl.out w2 (f.out.2.trans (B.out.mono f.out.2.size)) _ _ Z Y)
   have gc:=qH (fun w2 (B:Low wo w2)=>fc.out w2 (f.out.2.trans (B.out.mono f.out.2.size)) _ _ (bkR m k r0 j) (bkR m k r0 (j+1)) Z Y)
   have s1:Hid (bkR m k r0 (j+1)=bkR m k r0 j+gLeg m (itB m k j) (itB m k (j+1))):=rfl;have s2:Hid (bkC m k r0 (j+1)=(bkC m k r0 j && clrB m (itB m k j) (bkR m k r0 j) (itB m k (j+1)) (bkR m k r0 (j+1)))):=rfl;have gb:=F.out _ _ Z Y;have jl:(j:Int)+1<(n:Int)+1:=by omega
   have jl1:(j:Int)<(n:Int)+1:=by omega
   have jl0:(0:Int)<=(j:Int)+1:=by omega
   have jw:qW qL (j:Int)=(j:Int):=zW2;obtain⟨ra,hra⟩:∃ x,bkR m k r0 j=x:=⟨_,rfl⟩;obtain⟨rc,D⟩:∃ x,bkR m k r0 (j+1)=x:=⟨_,rfl⟩;obtain⟨ca,hca⟩:∃ x,bkC m k r0 j=x:=⟨_,rfl⟩;simp only [hra,D,hca] at r1 r2 gc s1 s2 ⊢;generalize itB m k j=E at *;generalize itB m k (j+1)=p2 at *;generalize gLeg m E p2=gg at *;generalize dLeg m E p2=dd at *;generalize tLeg m E p2=tt at *;generalize clrB m E ra p2 rc=cc at *;have rw1:qW qL (ra+gg)=rc:=by rw [<- s1.out];exact zW2
   have z1:=Low.fact U;have z2:=Low.fact I;have y:=qH (qI s1.out s2.out);clear s1 s2 U I Z Y r1 r2 gb;go_wp2;have J:=Low.fact (cX 0 o rfl);have q1:=Low.fact (cX 1 o rfl);have q2:=Low.fact (cX 2 o rfl);have q3:=Low.fact (cX 3 o rfl);have q4:=Low.fact (cX 4 o rfl);have q5:=Low.fact (cX 5 o rfl);have q6:=Low.fact (cX 6 o rfl);have q7:=Low.fact (cX 7 o rfl);have q8:=Low.fact (cX 8 o rfl);have q9:=Low.fact (cX 9 o rfl);have L:=Low.fact (cX 10 o rfl);have S:=Low.fact (cX 11 o rfl);have K:=Low.fact (cX 12 o rfl);have W:=Low.fact (cX 13 o rfl);have M:=Low.fact (cX 14 o rfl)
   (refine Zg (by kernel_rfl) (by kernel_rfl) ?_;(iterate 21 (apply qw3;(case hw=>rfl);(case hval=>(intro g hw1 hcx;simp only [Oper.quietAt];go_simp;first | done | (first | (go_at_call 20;exact Low.calls hw1 (gl.out _ hw1))) | rfl | exact⟨rfl,rfl⟩));simp only [pT]));refine wpQuiet_nil ?_;intro w2 hw2)
   clear gl;obtain⟨wa,hwa⟩:∃ x,x=w2:=⟨_,rfl⟩;subst hwa;have hw:=qH hw2;clear hw2;cases ca
   ·have d:=qH (qI (f.out.1.trans (hw.out.out.mono f.out.1.size)) (f.out.2.trans (hw.out.out.mono f.out.2.size)))
    clear gc;go_wp2
    (refine Zg (by kernel_rfl) (by kernel_rfl) ?_;(iterate 2 (apply qw3;(case hw=>rfl);(case hval=>(intro g hw1 hcx;simp only [Oper.quietAt];go_simp;first | done | rfl | exact⟨rfl,rfl⟩));simp only [pT]));(iterate 15 (apply Zr;(case hw=>rfl);simp only [pT]));(iterate 2 (apply qw3;(case hw=>rfl);(case hval=>(intro g hw1 hcx;simp only [Oper.quietAt];go_simp;first | done | rfl | exact⟨rfl,rfl⟩));simp only [pT]));refine wpQuiet_nil ?_;intro w2 hw2)
    have A:=qH (qI (d.out.1.trans (hw2.out.mono d.out.1.size)) (d.out.2.trans (hw2.out.mono d.out.2.size)));go_wp2;go_roundw
    case rel=>exact⟨j+1,by omega,by rw [D],by rw [y.out.2];rfl,by go_num,A.out.1⟩
    case measure=>simp [intOf];omega
   ·have gc2:=qH (fun w3 (B:Low wa w3)=>gc.out w3 (hw.out.out.trans (B.out.mono hw.out.out.size)))
    have d:=qH (qI (f.out.1.trans (hw.out.out.mono f.out.1.size)) (f.out.2.trans (hw.out.out.mono f.out.2.size)));replace z1:=Low.fact (z1 _ hw.out);replace z2:=Low.fact (z2 _ hw.out);replace J:=Low.fact (J _ hw.out);replace q1:=Low.fact (q1 _ hw.out);replace q2:=Low.fact (q2 _ hw.out);replace q3:=Low.fact (q3 _ hw.out);replace q4:=Low.fact (q4 _ hw.out);replace q5:=Low.fact (q5 _ hw.out);replace q6:=Low.fact (q6 _ hw.out);replace q7:=Low.fact (q7 _ hw.out);replace q8:=Low.fact (q8 _ hw.out);replace q9:=Low.fact (q9 _ hw.out);replace L:=Low.fact (L _ hw.out);replace S:=Low.fact (S _ hw.out);replace K:=Low.fact (K _ hw.out);replace W:=Low.fact (W _ hw.out);replace M:=Low.fact (M _ hw.out);clear gc;go_wp2
    (refine Zg (by kernel_rfl) (by kernel_rfl) ?_;(iterate 19 (apply qw3;(case hw=>rfl);(case hval=>(intro g hw1 hcx;simp only [Oper.quietAt];go_simp;first | done | (first | (go_at_call 87;exact Low.calls hw1 (gc2.out _ hw1))) | rfl | exact⟨rfl,rfl⟩));simp only [pT]));refine wpQuiet_nil ?_;intro w2 hw2)
    have A:=qH (qI (d.out.1.trans (hw2.out.mono d.out.1.size)) (d.out.2.trans (hw2.out.mono d.out.2.size)));go_wp2;go_roundw
    case rel=>exact⟨j+1,by omega,by rw [D],by rw [y.out.2];rfl,by go_num,A.out.1⟩
    case measure=>simp [intOf];omega
  ·obtain rfl:j=n:=by omega
   go_wp2;go_ret2;exact⟨rfl,f.out.2⟩
theorem Z0O (m:Msn) (l:List Int):(usedE m l).length=m.ways.length:=by unfold usedE;exact Zq _ _
theorem Z7H {m:Msn} (V:VMsn m) {r:Int} (h:0<=r/\r<=100000):dskE r=0/\shE (dskL r) (atW m 0)=0/\withinB (shL (dskL r) (atW m 0)) m.home=lieB m r:=by
 have e:radOk r=true:=by simp [radOk,h]
 have j:dskL r=Z4 r.toNat:=by simp [dskL,e]
 have c:=Z4H V (a:=0) (b:=0) (by have:=V.n2;omega) (by have:=V.n2;omega) h h
 obtain⟨⟨l,-⟩,g,-⟩:=Z0A c;have G:=Z0t (n:=r.toNat) (by omega)
 have o:Zb (Z4 r.toNat)=true:=by simpa [Zb] using G
 have f:shE (dskL r) (atW m 0)=0:=by rw [j];simp [shE,o,l,g]
 refine⟨by simp [dskE,e],f,?_⟩
 have k:shL (dskL r) (atW m 0)=mvL (atW m 0) (Z4 r.toNat):=by simp only [shL,f,if_true];rw [j]
 rw [k];have d:Zb (mvL (atW m 0) (Z4 r.toNat))=true:=by rw [Z0D _ G];exact g
 simp [withinB,lieB,d,V.home]
theorem ZcS (m:Msn) (l:List Int) (vw vh vr vb va vt ve:Value) (w:World) (T:TripAt w.heap.size w m l vw vh vr vb va vt ve) (V:VMsn m) (r:Int) (hr:0<=r/\r<=100000) (Br Bt:Nat) (HR:Has w Br #[O qL r] 3) (HT:Has w Bt (tripCells m vw vh vr vb va vt ve) 87) :
  Calls Tryz.prog 83 #[qP (some ⟨Br,0,none⟩),qP (some ⟨Bt,0,none⟩)] w fun e w'=>e=qR (.bool (lieB m r))/\Below w.heap.size w w':=by
 obtain⟨D,o,t⟩:=Z7H V hr;have n:=fun c=>Z3F r c
 have g:=fun v c h=>Z10 v (dskL r) ⟨(wy m.ways 0).x,(wy m.ways 0).y⟩ c h
 have j:=fun v c (B:Below w.heap.size w c) h=>Z2t v vh (shL (dskL r) ⟨(wy m.ways 0).x,(wy m.ways 0).y⟩) m.home c h ((T.msn.2.1.below B).mono B.size)
 unfold atW at o t;rw [D] at n;rw [o] at g;rw [t] at j;generalize shL (dskL r) ⟨(wy m.ways 0).x,(wy m.ways 0).y⟩=sl at *;generalize bothE sl m.home=be at *;generalize dskL r=dl at *;have q:0<m.ways.length:=by have:=V.n2;omega
 obtain⟨⟨-,W,c1,rfl,b⟩,⟨-,a2,c2,rfl,-⟩,⟨-,U,c3,rfl,-⟩⟩:=T.msn;obtain⟨-,ab,cb,rfl,-⟩:=T.bef;obtain⟨-,Z,ca,rfl,-⟩:=T.aft;obtain⟨-,M,ct,rfl,-⟩:=T.tim;obtain⟨-,ae,S,rfl,-⟩:=T.ene;obtain⟨Q,ow,rfl,f,b⟩:=b.resolve_left (by intro h;rw [h] at q;simp at q)
 obtain⟨H,F,-⟩:=b 0 q;rw [Nat.zero_mul,Nat.add_zero] at H F;clear T b D o t V;unfold tripCells at *;simp only at g;generalize (wy m.ways 0).x=px at *;generalize (wy m.ways 0).y=py at *;generalize lieB m r=fb at *;replace n:=qH n;replace g:=qH g;replace j:=qH j;have P:(0:Int)<m.ways.length:=by omega
 have a:=qH (qK w.heap.size w);replace HR:=qH HR;replace HT:=qH HT;have u:=cX 0 HR.out rfl;go_enter Tryz.func83,Tryz.ntmps83;go_wp2_with fail;refine (n.out w).mono ?_;rintro e c ⟨v1,rfl,A,K⟩;have a:=qH K;clear K;have J:=qH A;clear A;obtain⟨R,k1,s⟩:=J.out.len;subst s;clear u;have u:=(zCj HT a).cell (i:=0) rfl;have I:=(zCj HT a).cell (i:=1) rfl;have L:=cY a.out H f;have N:=cY a.out F f;go_wp2_with fail;refine (g.out _ c J.out).mono ?_;rintro e w2 ⟨Y,rfl,C,p⟩;replace a:=zAd a p;have d:=qH p;clear p;have G:=qH C;clear C;obtain⟨X,k2,z⟩:=G.out.len;subst z;clear u I L N;have I:=(zCj HT a).cell (i:=1) rfl;go_wp2_with fail;refine (j.out _ _ a.out G.out).mono ?_;rintro e w3 ⟨rfl,k⟩;replace a:=zAd a k;replace d:=zAd d k;have E:=qH k;clear k;go_wp2;go_ret;exact⟨rfl,a.out⟩
theorem ZcT (m:Msn) (l:List Int) (vw vh vr vb va vt ve:Value) (w:World) (T:TripAt w.heap.size w m l vw vh vr vb va vt ve) (k:Nat) (hk:k+1<m.ways.length) (n41:m.ways.length<=41) (Bt Bl Be:Nat) (HT:Has w Bt (tripCells m vw vh vr vb va vt ve) 87) (HL:Has w Bl #[O qL k] 3) (HE:Has w Be #[O qL ((k+1:Nat):Int)] 3) :
  Calls Tryz.prog 86 #[qP (some ⟨Bt,0,none⟩),qP (some ⟨Bl,0,none⟩),qP (some ⟨Be,0,none⟩)] w fun e w'=>e=qR (.bool (clrB m k (rdA m l k) (k+1) (rdB m l (k+1))))/\Below w.heap.size w w':=by
 have c:=fun w1 (B:Low w w1)=>Z4j m l vw vh vr vb va vt ve w1 (T.up B.out) k (k+1) (rdA m l k) (rdB m l (k+1)) (by omega) hk n41
 obtain⟨⟨-,I,X,rfl,-⟩,⟨-,a2,Y,rfl,-⟩,⟨-,D,Q,rfl,-⟩⟩:=T.msn;obtain⟨V,G,U,rfl,g,b⟩:=ZI T.bef (by rw [ZG];omega)
 obtain⟨R,oa,Z,rfl,y,a⟩:=ZI T.aft (by rw [Z0E];omega)
 obtain⟨-,o,W,rfl,-⟩:=T.tim;obtain⟨-,ae,C,rfl,-⟩:=T.ene;simp only [ZG,Z0E] at b a c HT ⊢;have H:=Low.fact ((a k (by omega)).trans (by rw [Z4Y (by omega)]))
 have q:=Low.fact ((b (k+1) hk).trans (by rw [Z1H hk]))
 clear T b a;unfold tripCells at *;generalize rdA m l k=ra at *;generalize rdB m l (k+1)=rb at *;generalize clrB m k ra (k+1) rb=fb at *;obtain⟨K,d⟩:∃ K,k+1=K:=⟨_,rfl⟩;rw [d] at HE q hk;simp only [d] at c;have x:(k:Int)<m.ways.length:=by omega
 have t:(K:Int)<m.ways.length:=by omega
 have j:(0:Int)<=k:=by omega
 have u:(0:Int)<=K:=by omega
 replace c:=qH c;clear d;have P:=Low.fact (cX 0 HT rfl);have N:=Low.fact (cX 1 HT rfl);have A:=Low.fact (cX 2 HT rfl);have F:=Low.fact (cX 3 HT rfl);have E:=Low.fact (cX 4 HT rfl);have J:=Low.fact (cX 5 HT rfl);have q6:=Low.fact (cX 6 HT rfl);have L:=Low.fact (cX 7 HT rfl);have M:=Low.fact (cX 8 HT rfl);have S:=Low.fact (cX 9 HT rfl);have v:=Low.fact (cX 10 HT rfl);have r:=Low.fact (cX 11 HT rfl);have p:=Low.fact (cX 12 HT rfl);have s:=Low.fact (cX 13 HT rfl);have z:=Low.fact (cX 14 HT rfl);have f:=Low.fact (cX 0 HL rfl);have n:=Low.fact (cX 0 HE rfl);clear HT HL HE;go_enter Tryz.func86,Tryz.ntmps86;go_wp2
 (refine Zg (by kernel_rfl) (by kernel_rfl) ?_;(iterate 15 (apply qw3;(case hw=>rfl);(case hval=>(intro w1 hw1 hcx;simp only [Oper.quietAt];go_simp;first | done | (first | (go_at_call 87;exact Low.calls hw1 (c.out _ hw1))) | rfl | exact⟨rfl,rfl⟩));simp only [pT]));refine wpQuiet_nil ?_;intro w2 hw2)
 go_wp2;go_ret;exact⟨rfl,hw2⟩
theorem ZcU (w:World) (c:Bool) (Bc:Nat) (HC:Has w Bc #[.bool c] 4) :
  Calls Tryz.prog 88 #[qP (some ⟨Bc,0,none⟩)] w fun e w'=>e=qR (.bool c)/\Below w.heap.size w w':=by
 have y:=cX 0 HC rfl;have B:=qK w.heap.size w;go_enter Tryz.func88,Tryz.ntmps88;go_wp2;go_ret;exact⟨rfl,B⟩
theorem ZcV (m:Msn) (l:List Int) (vw vh vr vb va vt ve:Value) (w:World) (T:TripAt w.heap.size w m l vw vh vr vb va vt ve) (V:VMsn m) (k:Nat) (hk:k<m.ways.length) (x:Int) (hx:0<=x/\x<=100000000000000) (Bt Be Bx:Nat) (HT:Has w Bt (tripCells m vw vh vr vb va vt ve) 87) (HE:Has w Be #[O qL k] 3) (HX:Has w Bx #[O qL x] 3) :
  Calls Tryz.prog 89 #[qP (some ⟨Bt,0,none⟩),qP (some ⟨Be,0,none⟩),qP (some ⟨Bx,0,none⟩)] w fun e w'=>e=qR (.bool (decide (usE m l k+x<=m.battery)))/\Below w.heap.size w w':=by
 have c:=Z1l V l k hk;have n41:=V.n41;obtain⟨⟨-,t,z,rfl,-⟩,⟨-,F,C,rfl,-⟩,⟨-,p,q,rfl,-⟩⟩:=T.msn;obtain⟨-,I,s,rfl,-⟩:=T.bef;obtain⟨-,E,D,rfl,-⟩:=T.aft;obtain⟨-,j,v,rfl,-⟩:=T.tim;obtain⟨A,B,y,rfl,n,a⟩:=ZI T.ene (by rw [Z0O];omega)
 simp only [Z0O] at a HT ⊢;have d:=Low.fact ((a k hk).trans (by rw [usedE,Z0W _ hk]))
 clear T a;unfold tripCells at *;obtain⟨u,b⟩:∃ u,usE m l k=u:=⟨_,rfl⟩;simp only [b] at d c ⊢;have g:(k:Int)<m.ways.length:=by omega
 have f:(0:Int)<=k:=by omega
 have hw:qW qL (u+x)=u+x:=zW2;clear b c V;have H:=Low.fact (cX 9 HT rfl);have G:=Low.fact (cX 14 HT rfl);have o:=Low.fact (cX 0 HE rfl);have r:=Low.fact (cX 0 HX rfl);clear HT HE HX;go_enter Tryz.func89,Tryz.ntmps89;go_wp2
 (refine Zg (by kernel_rfl) (by kernel_rfl) ?_;(iterate 12 (apply qw3;(case hw=>rfl);(case hval=>(intro w1 hw1 hcx;simp only [Oper.quietAt];go_simp;first | done | rfl | exact⟨rfl,rfl⟩));simp only [pT]));refine wpQuiet_nil ?_;intro w2 hw2)
 go_wp2;go_ret;exact⟨rfl,hw2⟩
theorem ZcR (m:Msn) (l:List Int) (vw vh vr vb va vt ve:Value) (w:World) (T:TripAt w.heap.size w m l vw vh vr vb va vt ve) (V:VMsn m) (k:Nat) (hk:k<m.ways.length) (x:Int) (hx:0<=x/\x<=100000000000000) (Bt Be Bx:Nat) (HT:Has w Bt (tripCells m vw vh vr vb va vt ve) 87) (HE:Has w Be #[O qL k] 3) (HX:Has w Bx #[O qL x] 3) :
  Calls Tryz.prog 90 #[qP (some ⟨Bt,0,none⟩),qP (some ⟨Be,0,none⟩),qP (some ⟨Bx,0,none⟩)] w fun e w'=>e=qR (.bool (decide (usT m l k+x<=m.deadline)))/\Below w.heap.size w w':=by
 have c:=Z1l V l k hk;have n41:=V.n41;obtain⟨⟨-,t,y,rfl,-⟩,⟨-,F,B,rfl,-⟩,⟨-,p,q,rfl,-⟩⟩:=T.msn;obtain⟨-,I,s,rfl,-⟩:=T.bef;obtain⟨-,D,C,rfl,-⟩:=T.aft;obtain⟨z,A,v,rfl,j,a⟩:=ZI T.tim (by rw [Z0N];omega)
 obtain⟨-,E,o,rfl,-⟩:=T.ene;simp only [Z0N] at a HT ⊢;have d:=Low.fact ((a k hk).trans (by rw [usedT,Z0W _ hk]))
 clear T a;unfold tripCells at *;obtain⟨u,b⟩:∃ u,usT m l k=u:=⟨_,rfl⟩;simp only [b] at d c ⊢;have g:(k:Int)<m.ways.length:=by omega
 have f:(0:Int)<=k:=by omega
 have hw:qW qL (u+x)=u+x:=zW2;clear b c V;have H:=Low.fact (cX 10 HT rfl);have G:=Low.fact (cX 13 HT rfl);have n:=Low.fact (cX 0 HE rfl);have r:=Low.fact (cX 0 HX rfl);clear HT HE HX;go_enter Tryz.func90,Tryz.ntmps90;go_wp2
 (refine Zg (by kernel_rfl) (by kernel_rfl) ?_;(iterate 12 (apply qw3;(case hw=>rfl);(case hval=>(intro w1 hw1 hcx;simp only [Oper.quietAt];go_simp;first | done | rfl | exact⟨rfl,rfl⟩));simp only [pT]));refine wpQuiet_nil ?_;intro w2 hw2)
 go_wp2;go_ret;exact⟨rfl,hw2⟩
theorem ZbK (m:Msn) (l:List Int) (k:Nat):kindV m l k=if clrB m k (rdA m l k) (k+1) (rdB m l (k+1))=false then 1 else if bkC m (k+1) (rdB m l (k+1)) (dep m (k+1))=false then 5 else if lieB m (bkR m (k+1) (rdB m l (k+1)) (dep m (k+1)))=false then 2 else if decide (usE m l (k+1)+homeE m (k+1) (dep m (k+1))<=m.battery)=false then 3 else if decide (usT m l (k+1)+homeT m (k+1) (dep m (k+1))<=m.deadline)=false then 4 else 0:=by
 unfold kindV;simp only [decide_eq_false_iff_not,Int.not_le,gt_iff_lt]
theorem Z9f (m:Msn) (l:List Int) (vw vh vr vb va vt ve:Value) (w:World) (T:TripAt w.heap.size w m l vw vh vr vb va vt ve) (V:VMsn m) (k:Nat) (hk:k+1<m.ways.length) :
  Calls Tryz.prog 39 #[.agg (tripCells m vw vh vr vb va vt ve),O qL k] w fun e w'=>e=qR (O qL (kindV m l k))/\Below w.heap.size w w':=by
 have n41:=V.n41;have hV:=(Zm m).2 V;rw [ZbK];have fb:=fun o (B:Below w.heap.size w o)=>Z9j m l vw vh vr vb va vt ve o (T.up B) V (k+1) hk
 have fh:=fun o (B:Below w.heap.size w o)=>Z1p m vw vh vr (k+1) o (T.up B).msn hV hk
 have f1:=fun o (B:Below w.heap.size w o)=>ZcT m l vw vh vr vb va vt ve o (T.up B) k hk n41
 have f2:=fun o c Bc=>ZcU o c Bc
 have f3:=fun o (B:Below w.heap.size w o) r hr=>ZcS m l vw vh vr vb va vt ve o (T.up B) V r hr
 have f4:=fun o (B:Below w.heap.size w o) x hx=>ZcV m l vw vh vr vb va vt ve o (T.up B) V (k+1) hk x hx
 have f5:=fun o (B:Below w.heap.size w o) x hx=>ZcR m l vw vh vr vb va vt ve o (T.up B) V (k+1) hk x hx
 have hrb:=bk_bd V l hk (qN _);have ap:=Z0H V hk _ (qN _);have hdp:=Z2V V.ways hk;obtain⟨K,hK⟩:∃ K,k+1=K:=⟨_,rfl⟩;have jw:qW qL ((k:Int)+1)=(K:Int):=by rw [<- hK];exact zW2
 simp only [hK] at fb fh f1 f4 f5 hrb ap hdp ⊢;replace ap:(0<=homeT m K (dep m K)/\homeT m K (dep m K)<=100000000000000)/\0<=homeE m K (dep m K)/\homeE m K (dep m K)<=100000000000000:=by
  have:((dep m K:Nat):Int)<=41:=by omega
  omega
 generalize homeT m K (dep m K)=hT' at *;generalize homeE m K (dep m K)=hE' at *;replace f4:=fun o B=>f4 o B hE' ap.2
 replace f5:=fun o B=>f5 o B hT' ap.1
 generalize bkR m K (rdB m l K) (dep m K)=rr at *;generalize bkC m K (rdB m l K) (dep m K)=bb at *;generalize clrB m k (rdA m l k) K (rdB m l K)=ba at *;generalize decide (usE m l K+hE'<=m.battery)=bd at *;generalize decide (usT m l K+hT'<=m.deadline)=be at *;obtain⟨⟨-,a1,c1,rfl,hcw⟩,⟨-,a2,c2,rfl,-⟩,⟨-,a3,c3,rfl,-⟩⟩:=T.msn;obtain⟨-,ab,cb,rfl,-⟩:=T.bef;obtain⟨-,aa,ca,rfl,-⟩:=T.aft;obtain⟨-,at',ct,rfl,-⟩:=T.tim;obtain⟨-,ae,ce,rfl,-⟩:=T.ene;unfold tripCells Zc at *;replace fb:=qH fb;replace fh:=qH fh;replace f1:=qH f1;replace f2:=qH f2;replace f3:=qH (fun o B=>f3 o B rr hrb)
 replace f4:=qH f4;replace f5:=qH f5;generalize lieB m rr=bc at *;clear T hcw V hV hrb ap hdp hK;have t:=qH (qK w.heap.size w);go_enter Tryz.func39,Tryz.ntmps39;go_wp2_with fail;generalize hXX0:qV (qV (qV w _) _) _=X0;obtain⟨Q,q1,q2,q,hzX0⟩:=box3 hXX0;clear hXX0;have t:=qH q;clear q;have n:=qH Q;clear Q;have LB:=qH q1;clear q1;have EB:=qH q2;clear q2;have c0:=cX 0 n.out rfl;have c1:=cX 1 n.out rfl;have c2:=cX 2 n.out rfl;have c3:=cX 3 n.out rfl;have c4:=cX 4 n.out rfl;have c5:=cX 5 n.out rfl;have c6:=cX 6 n.out rfl;have c7:=cX 7 n.out rfl;have c8:=cX 8 n.out rfl;have c9:=cX 9 n.out rfl;have ah:=cX 10 n.out rfl;have ad:=cX 11 n.out rfl;have X:=cX 12 n.out rfl;have af:=cX 13 n.out rfl;have ao:=cX 14 n.out rfl;have N:=n.out.lt;have d0:=cX 0 EB.out rfl;have R:=EB.out.lt;refine (fb.out _ t.out).mono ?_;rintro e o ⟨rfl,b1⟩;replace t:=zAd t b1;have b:=qH b1;clear b1 c0 c1 c2 c3 c4 c5 c6 c7 c8 c9 ah ad X af ao N d0 R;have c0:=(zCj n b).cell (i:=0) rfl;have c1:=(zCj n b).cell (i:=1) rfl;have c2:=(zCj n b).cell (i:=2) rfl;have c3:=(zCj n b).cell (i:=3) rfl;have c4:=(zCj n b).cell (i:=4) rfl;have c5:=(zCj n b).cell (i:=5) rfl;have c6:=(zCj n b).cell (i:=6) rfl;have c7:=(zCj n b).cell (i:=7) rfl;have c8:=(zCj n b).cell (i:=8) rfl;have c9:=(zCj n b).cell (i:=9) rfl;have ah:=(zCj n b).cell (i:=10) rfl;have ad:=(zCj n b).cell (i:=11) rfl;have X:=(zCj n b).cell (i:=12) rfl;have af:=(zCj n b).cell (i:=13) rfl;have ao:=(zCj n b).cell (i:=14) rfl;have N:=(zCj n b).lt;have d0:=(zCj EB b).cell (i:=0) rfl;have R:=(zCj EB b).lt;go_upto_region 3 with fail
 generalize hXX1:qV (qV o _) _=X1;obtain⟨Q,q1,q,hzX1⟩:=box2 hXX1;clear hXX1;replace t:=zAd t q;replace b:=zAd b q;clear q;have CB:=qH Q;clear Q;have RB:=qH q1;clear q1 c0 c1 c2 c3 c4 c5 c6 c7 c8 c9 ah ad X af ao N d0 R;have c0:=(zCj n b).cell (i:=0) rfl;have c1:=(zCj n b).cell (i:=1) rfl;have c2:=(zCj n b).cell (i:=2) rfl;have c3:=(zCj n b).cell (i:=3) rfl;have c4:=(zCj n b).cell (i:=4) rfl;have c5:=(zCj n b).cell (i:=5) rfl;have c6:=(zCj n b).cell (i:=6) rfl;have c7:=(zCj n b).cell (i:=7) rfl;have c8:=(zCj n b).cell (i:=8) rfl;have c9:=(zCj n b).cell (i:=9) rfl;have ah:=(zCj n b).cell (i:=10) rfl;have ad:=(zCj n b).cell (i:=11) rfl;have X:=(zCj n b).cell (i:=12) rfl;have af:=(zCj n b).cell (i:=13) rfl;have ao:=(zCj n b).cell (i:=14) rfl;have N:=(zCj n b).lt;have d0:=(zCj EB b).cell (i:=0) rfl;have R:=(zCj EB b).lt;go_wp2_with fail;refine (fh.out _ t.out).mono ?_;rintro e d ⟨rfl,b2⟩;replace t:=zAd t b2;replace b:=zAd b b2;have j:=qH b2;clear b2 c0 c1 c2 c3 c4 c5 c6 c7 c8 c9 ah ad X af ao N d0 R;have c0:=(zCj n b).cell (i:=0) rfl;have c1:=(zCj n b).cell (i:=1) rfl;have c2:=(zCj n b).cell (i:=2) rfl;have c3:=(zCj n b).cell (i:=3) rfl;have c4:=(zCj n b).cell (i:=4) rfl;have c5:=(zCj n b).cell (i:=5) rfl;have c6:=(zCj n b).cell (i:=6) rfl;have c7:=(zCj n b).cell (i:=7) rfl;have c8:=(zCj n b).cell (i:=8) rfl;have c9:=(zCj n b).cell (i:=9) rfl;have ah:=(zCj n b).cell (i:=10) rfl;have ad:=(zCj n b).cell (i:=11) rfl;have X:=(zCj n b).cell (i:=12) rfl;have af:=(zCj n b).cell (i:=13) rfl;have ao:=(zCj n b).cell (i:=14) rfl;have N:=(zCj n b).lt;have d0:=(zCj EB b).cell (i:=0) rfl;have R:=(zCj EB b).lt;clear c0 c1 c2 c3 c4 c5 c6 c7 c8 c9 ah ad X af ao N d0 R;go_wp2;generalize hXX2:qV (qV (qV d _) _) _=X2;obtain⟨Q,q1,q2,q,hzX2⟩:=box3 hXX2;clear hXX2;replace t:=zAd t q;replace b:=zAd b q;replace j:=zAd j q;clear q;have LS:=qH Q;clear Q;have EN:=qH q1;clear q1;have f:=qH q2;clear q2 hzX2;refine wp_loop_rounds 6 ?_;have F:X2.cell? ⟨d.heap.size+1+1,0,none⟩=some (O qL 1):=cX 0 f.out rfl;have z:X2.cell? ⟨d.heap.size+1+1,1,none⟩=some (.func (.func 86) #[] #[qP (some ⟨w.heap.size,0,none⟩),qP (some ⟨w.heap.size+1,0,none⟩),qP (some ⟨w.heap.size+1+1,0,none⟩)]):=cX 1 f.out rfl;have C:X2.cell? ⟨d.heap.size+1+1,2,none⟩=some (O qL 5):=cX 2 f.out rfl;have H:X2.cell? ⟨d.heap.size+1+1,3,none⟩=some (.func (.func 88) #[] #[qP (some ⟨o.heap.size,0,none⟩)]):=cX 3 f.out rfl;have G:X2.cell? ⟨d.heap.size+1+1,4,none⟩=some (O qL 2):=cX 4 f.out rfl;have E:X2.cell? ⟨d.heap.size+1+1,5,none⟩=some (.func (.func 83) #[] #[qP (some ⟨o.heap.size+1,0,none⟩),qP (some ⟨w.heap.size,0,none⟩)]):=cX 5 f.out rfl;have y:X2.cell? ⟨d.heap.size+1+1,6,none⟩=some (O qL 3):=cX 6 f.out rfl;have A:X2.cell? ⟨d.heap.size+1+1,7,none⟩=some (.func (.func 89) #[] #[qP (some ⟨w.heap.size,0,none⟩),qP (some ⟨w.heap.size+1+1,0,none⟩),qP (some ⟨d.heap.size+1,0,none⟩)]):=cX 7 f.out rfl;have D:X2.cell? ⟨d.heap.size+1+1,8,none⟩=some (O qL 4):=cX 8 f.out rfl;have v:X2.cell? ⟨d.heap.size+1+1,9,none⟩=some (.func (.func 90) #[] #[qP (some ⟨w.heap.size,0,none⟩),qP (some ⟨w.heap.size+1+1,0,none⟩),qP (some ⟨d.heap.size,0,none⟩)]):=cX 9 f.out rfl;have g:=f.out.lt;rw [rounds_succ];go_wp2_with fail;generalize hXY0:qV X2 _=Y0;obtain⟨Q,q,hzY0⟩:=box1 hXY0;clear hXY0;replace t:=zAd t q;replace b:=zAd b q;replace j:=zAd j q;have a:=qH q;clear q;have aj:=qH Q;clear Q hzY0 F z C H G E y A D v g;have F:Y0.cell? ⟨d.heap.size+1+1,0,none⟩=some (O qL 1):=(zCj f a).cell (i:=0) rfl;have z:Y0.cell? ⟨d.heap.size+1+1,1,none⟩=some (.func (.func 86) #[] #[qP (some ⟨w.heap.size,0,none⟩),qP (some ⟨w.heap.size+1,0,none⟩),qP (some ⟨w.heap.size+1+1,0,none⟩)]):=(zCj f a).cell (i:=1) rfl;have C:Y0.cell? ⟨d.heap.size+1+1,2,none⟩=some (O qL 5):=(zCj f a).cell (i:=2) rfl;have H:Y0.cell? ⟨d.heap.size+1+1,3,none⟩=some (.func (.func 88) #[] #[qP (some ⟨o.heap.size,0,none⟩)]):=(zCj f a).cell (i:=3) rfl;have G:Y0.cell? ⟨d.heap.size+1+1,4,none⟩=some (O qL 2):=(zCj f a).cell (i:=4) rfl;have E:Y0.cell? ⟨d.heap.size+1+1,5,none⟩=some (.func (.func 83) #[] #[qP (some ⟨o.heap.size+1,0,none⟩),qP (some ⟨w.heap.size,0,none⟩)]):=(zCj f a).cell (i:=5) rfl;have y:Y0.cell? ⟨d.heap.size+1+1,6,none⟩=some (O qL 3):=(zCj f a).cell (i:=6) rfl;have A:Y0.cell? ⟨d.heap.size+1+1,7,none⟩=some (.func (.func 89) #[] #[qP (some ⟨w.heap.size,0,none⟩),qP (some ⟨w.heap.size+1+1,0,none⟩),qP (some ⟨d.heap.size+1,0,none⟩)]):=(zCj f a).cell (i:=7) rfl;have D:Y0.cell? ⟨d.heap.size+1+1,8,none⟩=some (O qL 4):=(zCj f a).cell (i:=8) rfl;have v:Y0.cell? ⟨d.heap.size+1+1,9,none⟩=some (.func (.func 90) #[] #[qP (some ⟨w.heap.size,0,none⟩),qP (some ⟨w.heap.size+1+1,0,none⟩),qP (some ⟨d.heap.size,0,none⟩)]):=(zCj f a).cell (i:=9) rfl;have g:=(zCj f a).lt;have U:Y0.cell? ⟨X2.heap.size,0,none⟩=some (O qL 1):=cX 0 aj.out rfl;have W:Y0.cell? ⟨X2.heap.size,1,none⟩=some (.func (.func 86) #[] #[qP (some ⟨w.heap.size,0,none⟩),qP (some ⟨w.heap.size+1,0,none⟩),qP (some ⟨w.heap.size+1+1,0,none⟩)]):=cX 1 aj.out rfl;have an:=aj.out.lt;go_wp2_with fail;refine (f1.out _ t.out _ _ _ (zCj n b) (zCj LB b) (zCj EB b)).mono ?_;rintro e M ⟨rfl,b3⟩;replace t:=zAd t b3;replace b:=zAd b b3;replace j:=zAd j b3;replace a:=zAd a b3;have p:=qH b3;clear b3 F z C H G E y A D v g U W an;have F:M.cell? ⟨d.heap.size+1+1,0,none⟩=some (O qL 1):=(zCj f a).cell (i:=0) rfl;have z:M.cell? ⟨d.heap.size+1+1,1,none⟩=some (.func (.func 86) #[] #[qP (some ⟨w.heap.size,0,none⟩),qP (some ⟨w.heap.size+1,0,none⟩),qP (some ⟨w.heap.size+1+1,0,none⟩)]):=(zCj f a).cell (i:=1) rfl;have C:M.cell? ⟨d.heap.size+1+1,2,none⟩=some (O qL 5):=(zCj f a).cell (i:=2) rfl;have H:M.cell? ⟨d.heap.size+1+1,3,none⟩=some (.func (.func 88) #[] #[qP (some ⟨o.heap.size,0,none⟩)]):=(zCj f a).cell (i:=3) rfl;have G:M.cell? ⟨d.heap.size+1+1,4,none⟩=some (O qL 2):=(zCj f a).cell (i:=4) rfl;have E:M.cell? ⟨d.heap.size+1+1,5,none⟩=some (.func (.func 83) #[] #[qP (some ⟨o.heap.size+1,0,none⟩),qP (some ⟨w.heap.size,0,none⟩)]):=(zCj f a).cell (i:=5) rfl;have y:M.cell? ⟨d.heap.size+1+1,6,none⟩=some (O qL 3):=(zCj f a).cell (i:=6) rfl;have A:M.cell? ⟨d.heap.size+1+1,7,none⟩=some (.func (.func 89) #[] #[qP (some ⟨w.heap.size,0,none⟩),qP (some ⟨w.heap.size+1+1,0,none⟩),qP (some ⟨d.heap.size+1,0,none⟩)]):=(zCj f a).cell (i:=7) rfl;have D:M.cell? ⟨d.heap.size+1+1,8,none⟩=some (O qL 4):=(zCj f a).cell (i:=8) rfl;have v:M.cell? ⟨d.heap.size+1+1,9,none⟩=some (.func (.func 90) #[] #[qP (some ⟨w.heap.size,0,none⟩),qP (some ⟨w.heap.size+1+1,0,none⟩),qP (some ⟨d.heap.size,0,none⟩)]):=(zCj f a).cell (i:=9) rfl;have g:=(zCj f a).lt;have U:M.cell? ⟨X2.heap.size,0,none⟩=some (O qL 1):=(zCj aj p).cell (i:=0) rfl;have W:M.cell? ⟨X2.heap.size,1,none⟩=some (.func (.func 86) #[] #[qP (some ⟨w.heap.size,0,none⟩),qP (some ⟨w.heap.size+1,0,none⟩),qP (some ⟨w.heap.size+1+1,0,none⟩)]):=(zCj aj p).cell (i:=1) rfl;have an:=(zCj aj p).lt;cases ba
 ·go_wp2
  go_ret;exact⟨by simp,t.out⟩
 go_wp2;clear F z C H G E y A D v g U W an aj;have F:M.cell? ⟨d.heap.size+1+1,0,none⟩=some (O qL 1):=(zCj f a).cell (i:=0) rfl;have z:M.cell? ⟨d.heap.size+1+1,1,none⟩=some (.func (.func 86) #[] #[qP (some ⟨w.heap.size,0,none⟩),qP (some ⟨w.heap.size+1,0,none⟩),qP (some ⟨w.heap.size+1+1,0,none⟩)]):=(zCj f a).cell (i:=1) rfl;have C:M.cell? ⟨d.heap.size+1+1,2,none⟩=some (O qL 5):=(zCj f a).cell (i:=2) rfl;have H:M.cell? ⟨d.heap.size+1+1,3,none⟩=some (.func (.func 88) #[] #[qP (some ⟨o.heap.size,0,none⟩)]):=(zCj f a).cell (i:=3) rfl;have G:M.cell? ⟨d.heap.size+1+1,4,none⟩=some (O qL 2):=(zCj f a).cell (i:=4) rfl;have E:M.cell? ⟨d.heap.size+1+1,5,none⟩=some (.func (.func 83) #[] #[qP (some ⟨o.heap.size+1,0,none⟩),qP (some ⟨w.heap.size,0,none⟩)]):=(zCj f a).cell (i:=5) rfl;have y:M.cell? ⟨d.heap.size+1+1,6,none⟩=some (O qL 3):=(zCj f a).cell (i:=6) rfl;have A:M.cell? ⟨d.heap.size+1+1,7,none⟩=some (.func (.func 89) #[] #[qP (some ⟨w.heap.size,0,none⟩),qP (some ⟨w.heap.size+1+1,0,none⟩),qP (some ⟨d.heap.size+1,0,none⟩)]):=(zCj f a).cell (i:=7) rfl;have D:M.cell? ⟨d.heap.size+1+1,8,none⟩=some (O qL 4):=(zCj f a).cell (i:=8) rfl;have v:M.cell? ⟨d.heap.size+1+1,9,none⟩=some (.func (.func 90) #[] #[qP (some ⟨w.heap.size,0,none⟩),qP (some ⟨w.heap.size+1+1,0,none⟩),qP (some ⟨d.heap.size,0,none⟩)]):=(zCj f a).cell (i:=9) rfl;have g:=(zCj f a).lt;rw [rounds_succ];go_wp2_with fail;generalize hXY1:qV M _=Y1;obtain⟨Q,q,hzY1⟩:=box1 hXY1;clear hXY1;replace t:=zAd t q;replace b:=zAd b q;replace j:=zAd j q;replace a:=zAd a q;replace p:=zAd p q;clear q;have al:=qH Q;clear Q hzY1 F z C H G E y A D v g;have F:Y1.cell? ⟨d.heap.size+1+1,0,none⟩=some (O qL 1):=(zCj f a).cell (i:=0) rfl;have z:Y1.cell? ⟨d.heap.size+1+1,1,none⟩=some (.func (.func 86) #[] #[qP (some ⟨w.heap.size,0,none⟩),qP (some ⟨w.heap.size+1,0,none⟩),qP (some ⟨w.heap.size+1+1,0,none⟩)]):=(zCj f a).cell (i:=1) rfl;have C:Y1.cell? ⟨d.heap.size+1+1,2,none⟩=some (O qL 5):=(zCj f a).cell (i:=2) rfl;have H:Y1.cell? ⟨d.heap.size+1+1,3,none⟩=some (.func (.func 88) #[] #[qP (some ⟨o.heap.size,0,none⟩)]):=(zCj f a).cell (i:=3) rfl;have G:Y1.cell? ⟨d.heap.size+1+1,4,none⟩=some (O qL 2):=(zCj f a).cell (i:=4) rfl;have E:Y1.cell? ⟨d.heap.size+1+1,5,none⟩=some (.func (.func 83) #[] #[qP (some ⟨o.heap.size+1,0,none⟩),qP (some ⟨w.heap.size,0,none⟩)]):=(zCj f a).cell (i:=5) rfl;have y:Y1.cell? ⟨d.heap.size+1+1,6,none⟩=some (O qL 3):=(zCj f a).cell (i:=6) rfl;have A:Y1.cell? ⟨d.heap.size+1+1,7,none⟩=some (.func (.func 89) #[] #[qP (some ⟨w.heap.size,0,none⟩),qP (some ⟨w.heap.size+1+1,0,none⟩),qP (some ⟨d.heap.size+1,0,none⟩)]):=(zCj f a).cell (i:=7) rfl;have D:Y1.cell? ⟨d.heap.size+1+1,8,none⟩=some (O qL 4):=(zCj f a).cell (i:=8) rfl;have v:Y1.cell? ⟨d.heap.size+1+1,9,none⟩=some (.func (.func 90) #[] #[qP (some ⟨w.heap.size,0,none⟩),qP (some ⟨w.heap.size+1+1,0,none⟩),qP (some ⟨d.heap.size,0,none⟩)]):=(zCj f a).cell (i:=9) rfl;have g:=(zCj f a).lt;have U:Y1.cell? ⟨M.heap.size,0,none⟩=some (O qL 5):=cX 0 al.out rfl;have W:Y1.cell? ⟨M.heap.size,1,none⟩=some (.func (.func 88) #[] #[qP (some ⟨o.heap.size,0,none⟩)]):=cX 1 al.out rfl;have ac:=al.out.lt;go_wp2_with fail;refine (f2.out _ bb _ (zCj CB j)).mono ?_;rintro e J ⟨rfl,b4⟩;replace t:=zAd t b4;replace b:=zAd b b4;replace j:=zAd j b4;replace a:=zAd a b4;replace p:=zAd p b4;have s:=qH b4;clear b4 F z C H G E y A D v g U W ac;have F:J.cell? ⟨d.heap.size+1+1,0,none⟩=some (O qL 1):=(zCj f a).cell (i:=0) rfl;have z:J.cell? ⟨d.heap.size+1+1,1,none⟩=some (.func (.func 86) #[] #[qP (some ⟨w.heap.size,0,none⟩),qP (some ⟨w.heap.size+1,0,none⟩),qP (some ⟨w.heap.size+1+1,0,none⟩)]):=(zCj f a).cell (i:=1) rfl;have C:J.cell? ⟨d.heap.size+1+1,2,none⟩=some (O qL 5):=(zCj f a).cell (i:=2) rfl;have H:J.cell? ⟨d.heap.size+1+1,3,none⟩=some (.func (.func 88) #[] #[qP (some ⟨o.heap.size,0,none⟩)]):=(zCj f a).cell (i:=3) rfl;have G:J.cell? ⟨d.heap.size+1+1,4,none⟩=some (O qL 2):=(zCj f a).cell (i:=4) rfl;have E:J.cell? ⟨d.heap.size+1+1,5,none⟩=some (.func (.func 83) #[] #[qP (some ⟨o.heap.size+1,0,none⟩),qP (some ⟨w.heap.size,0,none⟩)]):=(zCj f a).cell (i:=5) rfl;have y:J.cell? ⟨d.heap.size+1+1,6,none⟩=some (O qL 3):=(zCj f a).cell (i:=6) rfl;have A:J.cell? ⟨d.heap.size+1+1,7,none⟩=some (.func (.func 89) #[] #[qP (some ⟨w.heap.size,0,none⟩),qP (some ⟨w.heap.size+1+1,0,none⟩),qP (some ⟨d.heap.size+1,0,none⟩)]):=(zCj f a).cell (i:=7) rfl;have D:J.cell? ⟨d.heap.size+1+1,8,none⟩=some (O qL 4):=(zCj f a).cell (i:=8) rfl;have v:J.cell? ⟨d.heap.size+1+1,9,none⟩=some (.func (.func 90) #[] #[qP (some ⟨w.heap.size,0,none⟩),qP (some ⟨w.heap.size+1+1,0,none⟩),qP (some ⟨d.heap.size,0,none⟩)]):=(zCj f a).cell (i:=9) rfl;have g:=(zCj f a).lt;have U:J.cell? ⟨M.heap.size,0,none⟩=some (O qL 5):=(zCj al s).cell (i:=0) rfl;have W:J.cell? ⟨M.heap.size,1,none⟩=some (.func (.func 88) #[] #[qP (some ⟨o.heap.size,0,none⟩)]):=(zCj al s).cell (i:=1) rfl;have ac:=(zCj al s).lt;cases bb
 ·go_wp2
  go_ret;exact⟨by simp,t.out⟩
 go_wp2;clear F z C H G E y A D v g U W ac al;have F:J.cell? ⟨d.heap.size+1+1,0,none⟩=some (O qL 1):=(zCj f a).cell (i:=0) rfl;have z:J.cell? ⟨d.heap.size+1+1,1,none⟩=some (.func (.func 86) #[] #[qP (some ⟨w.heap.size,0,none⟩),qP (some ⟨w.heap.size+1,0,none⟩),qP (some ⟨w.heap.size+1+1,0,none⟩)]):=(zCj f a).cell (i:=1) rfl;have C:J.cell? ⟨d.heap.size+1+1,2,none⟩=some (O qL 5):=(zCj f a).cell (i:=2) rfl;have H:J.cell? ⟨d.heap.size+1+1,3,none⟩=some (.func (.func 88) #[] #[qP (some ⟨o.heap.size,0,none⟩)]):=(zCj f a).cell (i:=3) rfl;have G:J.cell? ⟨d.heap.size+1+1,4,none⟩=some (O qL 2):=(zCj f a).cell (i:=4) rfl;have E:J.cell? ⟨d.heap.size+1+1,5,none⟩=some (.func (.func 83) #[] #[qP (some ⟨o.heap.size+1,0,none⟩),qP (some ⟨w.heap.size,0,none⟩)]):=(zCj f a).cell (i:=5) rfl;have y:J.cell? ⟨d.heap.size+1+1,6,none⟩=some (O qL 3):=(zCj f a).cell (i:=6) rfl;have A:J.cell? ⟨d.heap.size+1+1,7,none⟩=some (.func (.func 89) #[] #[qP (some ⟨w.heap.size,0,none⟩),qP (some ⟨w.heap.size+1+1,0,none⟩),qP (some ⟨d.heap.size+1,0,none⟩)]):=(zCj f a).cell (i:=7) rfl;have D:J.cell? ⟨d.heap.size+1+1,8,none⟩=some (O qL 4):=(zCj f a).cell (i:=8) rfl;have v:J.cell? ⟨d.heap.size+1+1,9,none⟩=some (.func (.func 90) #[] #[qP (some ⟨w.heap.size,0,none⟩),qP (some ⟨w.heap.size+1+1,0,none⟩),qP (some ⟨d.heap.size,0,none⟩)]):=(zCj f a).cell (i:=9) rfl;have g:=(zCj f a).lt;rw [rounds_succ];go_wp2_with fail;generalize hXY2:qV J _=Y2;obtain⟨Q,q,hzY2⟩:=box1 hXY2;clear hXY2;replace t:=zAd t q;replace b:=zAd b q;replace j:=zAd j q;replace a:=zAd a q;replace p:=zAd p q;replace s:=zAd s q;clear q;have Z:=qH Q;clear Q hzY2 F z C H G E y A D v g;have F:Y2.cell? ⟨d.heap.size+1+1,0,none⟩=some (O qL 1):=(zCj f a).cell (i:=0) rfl;have z:Y2.cell? ⟨d.heap.size+1+1,1,none⟩=some (.func (.func 86) #[] #[qP (some ⟨w.heap.size,0,none⟩),qP (some ⟨w.heap.size+1,0,none⟩),qP (some ⟨w.heap.size+1+1,0,none⟩)]):=(zCj f a).cell (i:=1) rfl;have C:Y2.cell? ⟨d.heap.size+1+1,2,none⟩=some (O qL 5):=(zCj f a).cell (i:=2) rfl;have H:Y2.cell? ⟨d.heap.size+1+1,3,none⟩=some (.func (.func 88) #[] #[qP (some ⟨o.heap.size,0,none⟩)]):=(zCj f a).cell (i:=3) rfl;have G:Y2.cell? ⟨d.heap.size+1+1,4,none⟩=some (O qL 2):=(zCj f a).cell (i:=4) rfl;have E:Y2.cell? ⟨d.heap.size+1+1,5,none⟩=some (.func (.func 83) #[] #[qP (some ⟨o.heap.size+1,0,none⟩),qP (some ⟨w.heap.size,0,none⟩)]):=(zCj f a).cell (i:=5) rfl;have y:Y2.cell? ⟨d.heap.size+1+1,6,none⟩=some (O qL 3):=(zCj f a).cell (i:=6) rfl;have A:Y2.cell? ⟨d.heap.size+1+1,7,none⟩=some (.func (.func 89) #[] #[qP (some ⟨w.heap.size,0,none⟩),qP (some ⟨w.heap.size+1+1,0,none⟩),qP (some ⟨d.heap.size+1,0,none⟩)]):=(zCj f a).cell (i:=7) rfl;have D:Y2.cell? ⟨d.heap.size+1+1,8,none⟩=some (O qL 4):=(zCj f a).cell (i:=8) rfl;have v:Y2.cell? ⟨d.heap.size+1+1,9,none⟩=some (.func (.func 90) #[] #[qP (some ⟨w.heap.size,0,none⟩),qP (some ⟨w.heap.size+1+1,0,none⟩),qP (some ⟨d.heap.size,0,none⟩)]):=(zCj f a).cell (i:=9) rfl;have g:=(zCj f a).lt;have U:Y2.cell? ⟨J.heap.size,0,none⟩=some (O qL 2):=cX 0 Z.out rfl;have W:Y2.cell? ⟨J.heap.size,1,none⟩=some (.func (.func 83) #[] #[qP (some ⟨o.heap.size+1,0,none⟩),qP (some ⟨w.heap.size,0,none⟩)]):=cX 1 Z.out rfl;have am:=Z.out.lt;go_wp2_with fail;refine (f3.out _ t.out _ _ (zCj RB j) (zCj n b)).mono ?_;rintro e I ⟨rfl,b5⟩;replace t:=zAd t b5;replace b:=zAd b b5;replace j:=zAd j b5;replace a:=zAd a b5;replace p:=zAd p b5;replace s:=zAd s b5;have u:=qH b5;clear b5 F z C H G E y A D v g U W am;have F:I.cell? ⟨d.heap.size+1+1,0,none⟩=some (O qL 1):=(zCj f a).cell (i:=0) rfl;have z:I.cell? ⟨d.heap.size+1+1,1,none⟩=some (.func (.func 86) #[] #[qP (some ⟨w.heap.size,0,none⟩),qP (some ⟨w.heap.size+1,0,none⟩),qP (some ⟨w.heap.size+1+1,0,none⟩)]):=(zCj f a).cell (i:=1) rfl;have C:I.cell? ⟨d.heap.size+1+1,2,none⟩=some (O qL 5):=(zCj f a).cell (i:=2) rfl;have H:I.cell? ⟨d.heap.size+1+1,3,none⟩=some (.func (.func 88) #[] #[qP (some ⟨o.heap.size,0,none⟩)]):=(zCj f a).cell (i:=3) rfl;have G:I.cell? ⟨d.heap.size+1+1,4,none⟩=some (O qL 2):=(zCj f a).cell (i:=4) rfl;have E:I.cell? ⟨d.heap.size+1+1,5,none⟩=some (.func (.func 83) #[] #[qP (some ⟨o.heap.size+1,0,none⟩),qP (some ⟨w.heap.size,0,none⟩)]):=(zCj f a).cell (i:=5) rfl;have y:I.cell? ⟨d.heap.size+1+1,6,none⟩=some (O qL 3):=(zCj f a).cell (i:=6) rfl;have A:I.cell? ⟨d.heap.size+1+1,7,none⟩=some (.func (.func 89) #[] #[qP (some ⟨w.heap.size,0,none⟩),qP (some ⟨w.heap.size+1+1,0,none⟩),qP (some ⟨d.heap.size+1,0,none⟩)]):=(zCj f a).cell (i:=7) rfl;have D:I.cell? ⟨d.heap.size+1+1,8,none⟩=some (O qL 4):=(zCj f a).cell (i:=8) rfl;have v:I.cell? ⟨d.heap.size+1+1,9,none⟩=some (.func (.func 90) #[] #[qP (some ⟨w.heap.size,0,none⟩),qP (some ⟨w.heap.size+1+1,0,none⟩),qP (some ⟨d.heap.size,0,none⟩)]):=(zCj f a).cell (i:=9) rfl;have g:=(zCj f a).lt;have U:I.cell? ⟨J.heap.size,0,none⟩=some (O qL 2):=(zCj Z u).cell (i:=0) rfl;have W:I.cell? ⟨J.heap.size,1,none⟩=some (.func (.func 83) #[] #[qP (some ⟨o.heap.size+1,0,none⟩),qP (some ⟨w.heap.size,0,none⟩)]):=(zCj Z u).cell (i:=1) rfl;have am:=(zCj Z u).lt;cases bc
 ·go_wp2
  go_ret;exact⟨by simp,t.out⟩
 go_wp2;clear F z C H G E y A D v g U W am Z;have F:I.cell? ⟨d.heap.size+1+1,0,none⟩=some (O qL 1):=(zCj f a).cell (i:=0) rfl;have z:I.cell? ⟨d.heap.size+1+1,1,none⟩=some (.func (.func 86) #[] #[qP (some ⟨w.heap.size,0,none⟩),qP (some ⟨w.heap.size+1,0,none⟩),qP (some ⟨w.heap.size+1+1,0,none⟩)]):=(zCj f a).cell (i:=1) rfl;have C:I.cell? ⟨d.heap.size+1+1,2,none⟩=some (O qL 5):=(zCj f a).cell (i:=2) rfl;have H:I.cell? ⟨d.heap.size+1+1,3,none⟩=some (.func (.func 88) #[] #[qP (some ⟨o.heap.size,0,none⟩)]):=(zCj f a).cell (i:=3) rfl;have G:I.cell? ⟨d.heap.size+1+1,4,none⟩=some (O qL 2):=(zCj f a).cell (i:=4) rfl;have E:I.cell? ⟨d.heap.size+1+1,5,none⟩=some (.func (.func 83) #[] #[qP (some ⟨o.heap.size+1,0,none⟩),qP (some ⟨w.heap.size,0,none⟩)]):=(zCj f a).cell (i:=5) rfl;have y:I.cell? ⟨d.heap.size+1+1,6,none⟩=some (O qL 3):=(zCj f a).cell (i:=6) rfl;have A:I.cell? ⟨d.heap.size+1+1,7,none⟩=some (.func (.func 89) #[] #[qP (some ⟨w.heap.size,0,none⟩),qP (some ⟨w.heap.size+1+1,0,none⟩),qP (some ⟨d.heap.size+1,0,none⟩)]):=(zCj f a).cell (i:=7) rfl;have D:I.cell? ⟨d.heap.size+1+1,8,none⟩=some (O qL 4):=(zCj f a).cell (i:=8) rfl;have v:I.cell? ⟨d.heap.size+1+1,9,none⟩=some (.func (.func 90) #[] #[qP (some ⟨w.heap.size,0,none⟩),qP (some ⟨w.heap.size+1+1,0,none⟩),qP (some ⟨d.heap.size,0,none⟩)]):=(zCj f a).cell (i:=9) rfl;have g:=(zCj f a).lt;rw [rounds_succ];go_wp2_with fail;generalize hXY3:qV I _=Y3;obtain⟨Q,q,hzY3⟩:=box1 hXY3;clear hXY3;replace t:=zAd t q;replace b:=zAd b q;replace j:=zAd j q;replace a:=zAd a q;replace p:=zAd p q;replace s:=zAd s q;replace u:=zAd u q;clear q;have ai:=qH Q;clear Q hzY3 F z C H G E y A D v g;have F:Y3.cell? ⟨d.heap.size+1+1,0,none⟩=some (O qL 1):=(zCj f a).cell (i:=0) rfl;have z:Y3.cell? ⟨d.heap.size+1+1,1,none⟩=some (.func (.func 86) #[] #[qP (some ⟨w.heap.size,0,none⟩),qP (some ⟨w.heap.size+1,0,none⟩),qP (some ⟨w.heap.size+1+1,0,none⟩)]):=(zCj f a).cell (i:=1) rfl;have C:Y3.cell? ⟨d.heap.size+1+1,2,none⟩=some (O qL 5):=(zCj f a).cell (i:=2) rfl;have H:Y3.cell? ⟨d.heap.size+1+1,3,none⟩=some (.func (.func 88) #[] #[qP (some ⟨o.heap.size,0,none⟩)]):=(zCj f a).cell (i:=3) rfl;have G:Y3.cell? ⟨d.heap.size+1+1,4,none⟩=some (O qL 2):=(zCj f a).cell (i:=4) rfl;have E:Y3.cell? ⟨d.heap.size+1+1,5,none⟩=some (.func (.func 83) #[] #[qP (some ⟨o.heap.size+1,0,none⟩),qP (some ⟨w.heap.size,0,none⟩)]):=(zCj f a).cell (i:=5) rfl;have y:Y3.cell? ⟨d.heap.size+1+1,6,none⟩=some (O qL 3):=(zCj f a).cell (i:=6) rfl;have A:Y3.cell? ⟨d.heap.size+1+1,7,none⟩=some (.func (.func 89) #[] #[qP (some ⟨w.heap.size,0,none⟩),qP (some ⟨w.heap.size+1+1,0,none⟩),qP (some ⟨d.heap.size+1,0,none⟩)]):=(zCj f a).cell (i:=7) rfl;have D:Y3.cell? ⟨d.heap.size+1+1,8,none⟩=some (O qL 4):=(zCj f a).cell (i:=8) rfl;have v:Y3.cell? ⟨d.heap.size+1+1,9,none⟩=some (.func (.func 90) #[] #[qP (some ⟨w.heap.size,0,none⟩),qP (some ⟨w.heap.size+1+1,0,none⟩),qP (some ⟨d.heap.size,0,none⟩)]):=(zCj f a).cell (i:=9) rfl;have g:=(zCj f a).lt;have U:Y3.cell? ⟨I.heap.size,0,none⟩=some (O qL 3):=cX 0 ai.out rfl;have W:Y3.cell? ⟨I.heap.size,1,none⟩=some (.func (.func 89) #[] #[qP (some ⟨w.heap.size,0,none⟩),qP (some ⟨w.heap.size+1+1,0,none⟩),qP (some ⟨d.heap.size+1,0,none⟩)]):=cX 1 ai.out rfl;have ag:=ai.out.lt;go_wp2_with fail;refine (f4.out _ t.out _ _ _ (zCj n b) (zCj EB b) (zCj EN a)).mono ?_;rintro e L ⟨rfl,b6⟩;replace t:=zAd t b6;replace b:=zAd b b6;replace j:=zAd j b6;replace a:=zAd a b6;replace p:=zAd p b6;replace s:=zAd s b6;replace u:=zAd u b6;have P:=qH b6;clear b6 F z C H G E y A D v g U W ag;have F:L.cell? ⟨d.heap.size+1+1,0,none⟩=some (O qL 1):=(zCj f a).cell (i:=0) rfl;have z:L.cell? ⟨d.heap.size+1+1,1,none⟩=some (.func (.func 86) #[] #[qP (some ⟨w.heap.size,0,none⟩),qP (some ⟨w.heap.size+1,0,none⟩),qP (some ⟨w.heap.size+1+1,0,none⟩)]):=(zCj f a).cell (i:=1) rfl;have C:L.cell? ⟨d.heap.size+1+1,2,none⟩=some (O qL 5):=(zCj f a).cell (i:=2) rfl;have H:L.cell? ⟨d.heap.size+1+1,3,none⟩=some (.func (.func 88) #[] #[qP (some ⟨o.heap.size,0,none⟩)]):=(zCj f a).cell (i:=3) rfl;have G:L.cell? ⟨d.heap.size+1+1,4,none⟩=some (O qL 2):=(zCj f a).cell (i:=4) rfl;have E:L.cell? ⟨d.heap.size+1+1,5,none⟩=some (.func (.func 83) #[] #[qP (some ⟨o.heap.size+1,0,none⟩),qP (some ⟨w.heap.size,0,none⟩)]):=(zCj f a).cell (i:=5) rfl;have y:L.cell? ⟨d.heap.size+1+1,6,none⟩=some (O qL 3):=(zCj f a).cell (i:=6) rfl;have A:L.cell? ⟨d.heap.size+1+1,7,none⟩=some (.func (.func 89) #[] #[qP (some ⟨w.heap.size,0,none⟩),qP (some ⟨w.heap.size+1+1,0,none⟩),qP (some ⟨d.heap.size+1,0,none⟩)]):=(zCj f a).cell (i:=7) rfl;have D:L.cell? ⟨d.heap.size+1+1,8,none⟩=some (O qL 4):=(zCj f a).cell (i:=8) rfl;have v:L.cell? ⟨d.heap.size+1+1,9,none⟩=some (.func (.func 90) #[] #[qP (some ⟨w.heap.size,0,none⟩),qP (some ⟨w.heap.size+1+1,0,none⟩),qP (some ⟨d.heap.size,0,none⟩)]):=(zCj f a).cell (i:=9) rfl;have g:=(zCj f a).lt;have U:L.cell? ⟨I.heap.size,0,none⟩=some (O qL 3):=(zCj ai P).cell (i:=0) rfl;have W:L.cell? ⟨I.heap.size,1,none⟩=some (.func (.func 89) #[] #[qP (some ⟨w.heap.size,0,none⟩),qP (some ⟨w.heap.size+1+1,0,none⟩),qP (some ⟨d.heap.size+1,0,none⟩)]):=(zCj ai P).cell (i:=1) rfl;have ag:=(zCj ai P).lt;cases bd
 ·go_wp2
  go_ret;exact⟨by simp,t.out⟩
 go_wp2;clear F z C H G E y A D v g U W ag ai;have F:L.cell? ⟨d.heap.size+1+1,0,none⟩=some (O qL 1):=(zCj f a).cell (i:=0) rfl;have z:L.cell? ⟨d.heap.size+1+1,1,none⟩=some (.func (.func 86) #[] #[qP (some ⟨w.heap.size,0,none⟩),qP (some ⟨w.heap.size+1,0,none⟩),qP (some ⟨w.heap.size+1+1,0,none⟩)]):=(zCj f a).cell (i:=1) rfl;have C:L.cell? ⟨d.heap.size+1+1,2,none⟩=some (O qL 5):=(zCj f a).cell (i:=2) rfl;have H:L.cell? ⟨d.heap.size+1+1,3,none⟩=some (.func (.func 88) #[] #[qP (some ⟨o.heap.size,0,none⟩)]):=(zCj f a).cell (i:=3) rfl;have G:L.cell? ⟨d.heap.size+1+1,4,none⟩=some (O qL 2):=(zCj f a).cell (i:=4) rfl;have E:L.cell? ⟨d.heap.size+1+1,5,none⟩=some (.func (.func 83) #[] #[qP (some ⟨o.heap.size+1,0,none⟩),qP (some ⟨w.heap.size,0,none⟩)]):=(zCj f a).cell (i:=5) rfl;have y:L.cell? ⟨d.heap.size+1+1,6,none⟩=some (O qL 3):=(zCj f a).cell (i:=6) rfl;have A:L.cell? ⟨d.heap.size+1+1,7,none⟩=some (.func (.func 89) #[] #[qP (some ⟨w.heap.size,0,none⟩),qP (some ⟨w.heap.size+1+1,0,none⟩),qP (some ⟨d.heap.size+1,0,none⟩)]):=(zCj f a).cell (i:=7) rfl;have D:L.cell? ⟨d.heap.size+1+1,8,none⟩=some (O qL 4):=(zCj f a).cell (i:=8) rfl;have v:L.cell? ⟨d.heap.size+1+1,9,none⟩=some (.func (.func 90) #[] #[qP (some ⟨w.heap.size,0,none⟩),qP (some ⟨w.heap.size+1+1,0,none⟩),qP (some ⟨d.heap.size,0,none⟩)]):=(zCj f a).cell (i:=9) rfl;have g:=(zCj f a).lt;rw [rounds_succ];go_wp2_with fail;generalize hXY4:qV L _=Y4;obtain⟨Q,q,hzY4⟩:=box1 hXY4;clear hXY4;replace t:=zAd t q;replace b:=zAd b q;replace j:=zAd j q;replace a:=zAd a q;replace p:=zAd p q;replace s:=zAd s q;replace u:=zAd u q;replace P:=zAd P q;clear q;have Y:=qH Q;clear Q hzY4 F z C H G E y A D v g;have F:Y4.cell? ⟨d.heap.size+1+1,0,none⟩=some (O qL 1):=(zCj f a).cell (i:=0) rfl;have z:Y4.cell? ⟨d.heap.size+1+1,1,none⟩=some (.func (.func 86) #[] #[qP (some ⟨w.heap.size,0,none⟩),qP (some ⟨w.heap.size+1,0,none⟩),qP (some ⟨w.heap.size+1+1,0,none⟩)]):=(zCj f a).cell (i:=1) rfl;have C:Y4.cell? ⟨d.heap.size+1+1,2,none⟩=some (O qL 5):=(zCj f a).cell (i:=2) rfl;have H:Y4.cell? ⟨d.heap.size+1+1,3,none⟩=some (.func (.func 88) #[] #[qP (some ⟨o.heap.size,0,none⟩)]):=(zCj f a).cell (i:=3) rfl;have G:Y4.cell? ⟨d.heap.size+1+1,4,none⟩=some (O qL 2):=(zCj f a).cell (i:=4) rfl;have E:Y4.cell? ⟨d.heap.size+1+1,5,none⟩=some (.func (.func 83) #[] #[qP (some ⟨o.heap.size+1,0,none⟩),qP (some ⟨w.heap.size,0,none⟩)]):=(zCj f a).cell (i:=5) rfl;have y:Y4.cell? ⟨d.heap.size+1+1,6,none⟩=some (O qL 3):=(zCj f a).cell (i:=6) rfl;have A:Y4.cell? ⟨d.heap.size+1+1,7,none⟩=some (.func (.func 89) #[] #[qP (some ⟨w.heap.size,0,none⟩),qP (some ⟨w.heap.size+1+1,0,none⟩),qP (some ⟨d.heap.size+1,0,none⟩)]):=(zCj f a).cell (i:=7) rfl;have D:Y4.cell? ⟨d.heap.size+1+1,8,none⟩=some (O qL 4):=(zCj f a).cell (i:=8) rfl;have v:Y4.cell? ⟨d.heap.size+1+1,9,none⟩=some (.func (.func 90) #[] #[qP (some ⟨w.heap.size,0,none⟩),qP (some ⟨w.heap.size+1+1,0,none⟩),qP (some ⟨d.heap.size,0,none⟩)]):=(zCj f a).cell (i:=9) rfl;have g:=(zCj f a).lt;have U:Y4.cell? ⟨L.heap.size,0,none⟩=some (O qL 4):=cX 0 Y.out rfl;have W:Y4.cell? ⟨L.heap.size,1,none⟩=some (.func (.func 90) #[] #[qP (some ⟨w.heap.size,0,none⟩),qP (some ⟨w.heap.size+1+1,0,none⟩),qP (some ⟨d.heap.size,0,none⟩)]):=cX 1 Y.out rfl;have ak:=Y.out.lt;go_wp2_with fail;refine (f5.out _ t.out _ _ _ (zCj n b) (zCj EB b) (zCj LS a)).mono ?_;rintro e S ⟨rfl,b7⟩;replace t:=zAd t b7;replace b:=zAd b b7;replace j:=zAd j b7;replace a:=zAd a b7;replace p:=zAd p b7;replace s:=zAd s b7;replace u:=zAd u b7;replace P:=zAd P b7;have aq:=qH b7;clear b7 F z C H G E y A D v g U W ak;have F:S.cell? ⟨d.heap.size+1+1,0,none⟩=some (O qL 1):=(zCj f a).cell (i:=0) rfl;have z:S.cell? ⟨d.heap.size+1+1,1,none⟩=some (.func (.func 86) #[] #[qP (some ⟨w.heap.size,0,none⟩),qP (some ⟨w.heap.size+1,0,none⟩),qP (some ⟨w.heap.size+1+1,0,none⟩)]):=(zCj f a).cell (i:=1) rfl;have C:S.cell? ⟨d.heap.size+1+1,2,none⟩=some (O qL 5):=(zCj f a).cell (i:=2) rfl;have H:S.cell? ⟨d.heap.size+1+1,3,none⟩=some (.func (.func 88) #[] #[qP (some ⟨o.heap.size,0,none⟩)]):=(zCj f a).cell (i:=3) rfl;have G:S.cell? ⟨d.heap.size+1+1,4,none⟩=some (O qL 2):=(zCj f a).cell (i:=4) rfl;have E:S.cell? ⟨d.heap.size+1+1,5,none⟩=some (.func (.func 83) #[] #[qP (some ⟨o.heap.size+1,0,none⟩),qP (some ⟨w.heap.size,0,none⟩)]):=(zCj f a).cell (i:=5) rfl;have y:S.cell? ⟨d.heap.size+1+1,6,none⟩=some (O qL 3):=(zCj f a).cell (i:=6) rfl;have A:S.cell? ⟨d.heap.size+1+1,7,none⟩=some (.func (.func 89) #[] #[qP (some ⟨w.heap.size,0,none⟩),qP (some ⟨w.heap.size+1+1,0,none⟩),qP (some ⟨d.heap.size+1,0,none⟩)]):=(zCj f a).cell (i:=7) rfl;have D:S.cell? ⟨d.heap.size+1+1,8,none⟩=some (O qL 4):=(zCj f a).cell (i:=8) rfl;have v:S.cell? ⟨d.heap.size+1+1,9,none⟩=some (.func (.func 90) #[] #[qP (some ⟨w.heap.size,0,none⟩),qP (some ⟨w.heap.size+1+1,0,none⟩),qP (some ⟨d.heap.size,0,none⟩)]):=(zCj f a).cell (i:=9) rfl;have g:=(zCj f a).lt;have U:S.cell? ⟨L.heap.size,0,none⟩=some (O qL 4):=(zCj Y aq).cell (i:=0) rfl;have W:S.cell? ⟨L.heap.size,1,none⟩=some (.func (.func 90) #[] #[qP (some ⟨w.heap.size,0,none⟩),qP (some ⟨w.heap.size+1+1,0,none⟩),qP (some ⟨d.heap.size,0,none⟩)]):=(zCj Y aq).cell (i:=1) rfl;have ak:=(zCj Y aq).lt;cases be
 ·go_wp2
  go_ret;exact⟨by simp,t.out⟩
 go_wp2;clear F z C H G E y A D v g U W ak Y;have F:S.cell? ⟨d.heap.size+1+1,0,none⟩=some (O qL 1):=(zCj f a).cell (i:=0) rfl;have z:S.cell? ⟨d.heap.size+1+1,1,none⟩=some (.func (.func 86) #[] #[qP (some ⟨w.heap.size,0,none⟩),qP (some ⟨w.heap.size+1,0,none⟩),qP (some ⟨w.heap.size+1+1,0,none⟩)]):=(zCj f a).cell (i:=1) rfl;have C:S.cell? ⟨d.heap.size+1+1,2,none⟩=some (O qL 5):=(zCj f a).cell (i:=2) rfl;have H:S.cell? ⟨d.heap.size+1+1,3,none⟩=some (.func (.func 88) #[] #[qP (some ⟨o.heap.size,0,none⟩)]):=(zCj f a).cell (i:=3) rfl;have G:S.cell? ⟨d.heap.size+1+1,4,none⟩=some (O qL 2):=(zCj f a).cell (i:=4) rfl;have E:S.cell? ⟨d.heap.size+1+1,5,none⟩=some (.func (.func 83) #[] #[qP (some ⟨o.heap.size+1,0,none⟩),qP (some ⟨w.heap.size,0,none⟩)]):=(zCj f a).cell (i:=5) rfl;have y:S.cell? ⟨d.heap.size+1+1,6,none⟩=some (O qL 3):=(zCj f a).cell (i:=6) rfl;have A:S.cell? ⟨d.heap.size+1+1,7,none⟩=some (.func (.func 89) #[] #[qP (some ⟨w.heap.size,0,none⟩),qP (some ⟨w.heap.size+1+1,0,none⟩),qP (some ⟨d.heap.size+1,0,none⟩)]):=(zCj f a).cell (i:=7) rfl;have D:S.cell? ⟨d.heap.size+1+1,8,none⟩=some (O qL 4):=(zCj f a).cell (i:=8) rfl;have v:S.cell? ⟨d.heap.size+1+1,9,none⟩=some (.func (.func 90) #[] #[qP (some ⟨w.heap.size,0,none⟩),qP (some ⟨w.heap.size+1+1,0,none⟩),qP (some ⟨d.heap.size,0,none⟩)]):=(zCj f a).cell (i:=9) rfl;have g:=(zCj f a).lt;rw [rounds_succ];go_wp2;go_ret;exact⟨by simp,t.out⟩
noncomputable def kpL (m:Msn) (l:List Int):Int:=if radOkB m l=true then leadV m l else 0
noncomputable def kpK (m:Msn) (l:List Int):Int:=if radOkB m l=true then leadK m l else 0
noncomputable def kpE (m:Msn) (l:List Int):Int:=if radOkB m l=true then 0 else 1
theorem Z9g (m:Msn) (vw vh vr vl:Value) (l:List Int) (w:World) (hm:MsnAt w.heap.size w m vw vh vr) (hl:Z8 w.heap.size w vl l) (hok:radOkB m l=false) :
  Calls Tryz.prog 13 #[.agg (Zc m vw vh vr),vl] w fun e w'=>e=qR (.tuple #[O qL 0,O qL 0,O qL 1])/\Below w.heap.size w w':=by
 have j:=fun g (B:Below w.heap.size w g)=>ZcD m vw vh vr vl l g ((hm.below B).mono B.size) ((hl.below B).mono B.size) hok
 obtain⟨⟨-,u,v,rfl,-⟩,⟨-,y,x,rfl,-⟩,⟨-,r,s,rfl,-⟩⟩:=hm;obtain⟨-,z,q,rfl,-⟩:=hl;unfold Zc trip0 at *;replace j:=qH j;have d:=qH (qK w.heap.size w);go_enter Tryz.func13,Tryz.ntmps13;go_wp2_with fail;generalize b:qV w _=X0;obtain⟨o,f,p⟩:=box1 b;clear b;have d:=qH f;clear f;have t:=qH o;clear o;refine (j.out _ d.out).mono ?_;rintro e g ⟨rfl,k⟩;replace d:=zAd d k;have c:=qH k;clear k;go_upto_region 2 with fail
 generalize a:qV g _=X1;obtain⟨-,f,n⟩:=box1 a;clear a;replace d:=zAd d f;replace c:=zAd c f;clear f;go_wp2;go_ret3;exact⟨rfl,d.out⟩
theorem Z8d {W:World} {B:Nat} {m:Msn} {vw vh vr vb va vt ve:Value} {T:TypeId} (H:Has W B (tripCells m vw vh vr vb va vt ve) T):W.cell? ⟨B,0,none⟩=some (vw)/\W.cell? ⟨B,1,none⟩=some (vh)/\W.cell? ⟨B,2,none⟩=some (O qL m.start)/\W.cell? ⟨B,3,none⟩=some (vr)/\W.cell? ⟨B,4,none⟩=some (O qL m.speed)/\W.cell? ⟨B,5,none⟩=some (O qL m.part)/\W.cell? ⟨B,6,none⟩=some (O qL m.flow)/\W.cell? ⟨B,7,none⟩=some (O qL m.idle)/\W.cell? ⟨B,8,none⟩=some (O qL m.drive)/\W.cell? ⟨B,9,none⟩=some (O qL m.battery)/\W.cell? ⟨B,10,none⟩=some (O qL m.deadline)/\W.cell? ⟨B,11,none⟩=some (vb)/\W.cell? ⟨B,12,none⟩=some (va)/\W.cell? ⟨B,13,none⟩=some (vt)/\W.cell? ⟨B,14,none⟩=some (ve) :=
 ⟨cX 0 H rfl,cX 1 H rfl,cX 2 H rfl,cX 3 H rfl,cX 4 H rfl,cX 5 H rfl,cX 6 H rfl,cX 7 H rfl,cX 8 H rfl,cX 9 H rfl,cX 10 H rfl,cX 11 H rfl,cX 12 H rfl,cX 13 H rfl,cX 14 H rfl⟩
theorem Z8f (m : Msn) (vw vh vr vl : Value) (l : List Int) (w : World) (hm : MsnAt w.heap.size w m vw vh vr) (hl : Z8 w.heap.size w vl l) (hok : radOkB m l = true) :
  Calls Tryz.prog 13 #[.agg (Zc m vw vh vr),vl] w fun e w'=>e=qR (.tuple #[O qL (leadV m l),O qL (leadK m l),O qL 0])/\Below w.heap.size w w':=by
 have C:validB m=true/\stopsB m l=true:=by simpa [radOkB] using hok
 have V:=(Zm m).1 C.1;have n41:=V.n41;have n2:=V.n2;have f1:=fun c (B:Below w.heap.size w c)=>Zbi m vw vh vr vl l c ((hm.below B).mono B.size) ((hl.below B).mono B.size) hok
 have u:=fun c (B:Below w.heap.size w c)=>(hm.below B).mono B.size
 have M:=fun G I H F c (T:TripAt c.heap.size c m l vw vh vr G I H F) k hk=>Z9f m l vw vh vr G I H F c T V k hk
 obtain⟨⟨-,a1,c1,rfl,-⟩,⟨-,a2,c2,rfl,-⟩,⟨-,a3,c3,rfl,-⟩⟩:=hm;obtain⟨-,al,cl,rfl,-⟩:=hl;have a:=fun n h1 h2 h3=>Z38 (m:=m) (l:=l) (n:=n) h1 h2 h3
 have q:=fun k=>(Z5e m l k).1
 unfold Zc tripCells at *;replace f1:=qH f1;replace M:=qH M;replace u:=qH u;replace a:=qH a;replace q:=qH q;clear hok C V;have d:=qH (qK w.heap.size w);go_enter Tryz.func13,Tryz.ntmps13;go_wp2_with fail;generalize o:qV w _=X0;obtain⟨z,s,hzX0⟩:=box1 o;clear o;have d:=qH s;clear s;have MB:=qH z;clear z;refine (f1.out _ d.out).mono ?_;rintro e c ⟨G,I,H,F,rfl,⟨t1,t2,t3,t4⟩,P⟩;replace d:=zAd d P;have b:=qH P;clear P;have R:=qH (show TripAt c.heap.size c m l _ _ _ G I H F from⟨u.out _ d.out,t1,t2,t3,t4⟩)
 obtain⟨-,ab,cb,rfl,-⟩:=t1;obtain⟨-,aa,ca,rfl,-⟩:=t2;obtain⟨-,at',ct,rfl,-⟩:=t3;obtain⟨-,ae,ce,rfl,-⟩:=t4;go_upto_region 2 with fail
 generalize g:qV c _=X1;obtain⟨z,s,hzX1⟩:=box1 g;clear g;replace d:=zAd d s;replace b:=zAd b s;have D:=qH s;clear s;have TB:=qH z;clear z;replace R:=qH (R.out.up D.out);have L:=cX 0 TB.out rfl;have y0:=(zCj MB b).cell (i:=0) rfl;have jw:qW qL ((m.ways.length:Int)-1)=((m.ways.length-1:Nat):Int):=by rw [show ((m.ways.length:Int)-1)=((m.ways.length-1:Nat):Int) by omega];exact zW2
 have A:=qH (zCj MB b);obtain⟨N,hN⟩:∃ N,m.ways.length-1=N:=⟨_,rfl⟩;rw [hN] at jw;go_wp2;clear L y0
 go_loopw [23] (fun i wr=>∃ j:Nat,j<=N/\i=O qL j/\(∀ j',j'<j->kindV m l j'=0)/\Below X1.heap.size X1 wr) (fun i _=>N-(intOf i).toNat)
 case atStart=>exact⟨0,Nat.zero_le _,rfl,fun j h=>by omega,qK _ _⟩
 case round =>
  obtain⟨j,hj,rfl,p,r⟩:=hrel;obtain⟨wo,W⟩:∃ x,x=wr:=⟨_,rfl⟩;subst W;have E:=qH (qI r (d.out.trans (r.mono d.out.size)));have Z:=qH p;clear p;by_cases hjn:j<N
  ·have g2:=qH (M.out _ _ _ _ wo (R.out.up r) j (by omega))
   have v:=TB.out.below r TB.out.lt;obtain⟨L,x1,x2,x3,x4,x5,x6,x7,x8,x9,U,Q,J,K,x14⟩:=Z8d (m:=m) v;have hjl:(j:Int)<(N:Int):=by omega
   have kb:=q.out j;obtain⟨X,f⟩:∃ x,kindV m l j=x:=⟨_,rfl⟩;rw [f] at kb;simp only [f] at g2;have S:=qH f;clear f r v;go_wp2_with fail;refine g2.out.mono ?_;rintro e w4 ⟨rfl,Y⟩;have B4:=qH (qI (E.out.1.trans (Y.mono E.out.1.size)) (E.out.2.trans (Y.mono E.out.2.size)));clear Y L x1 x2 x3 x4 x5 x6 x7 x8 x9 U Q J K x14;by_cases hz:X=0
   ·subst hz
    go_wp2;go_roundw
    case rel=>exact⟨j+1,by omega,by go_num,fun j' hj'=>by
     rcases Nat.lt_succ_iff_lt_or_eq.1 hj' with h | h
     ·exact Z.out j' h
     ·rw [h];exact S.out,B4.out.1⟩
    case measure=>simp [intOf];omega
   ·have d1:decide (X>0)=true:=by rw [decide_eq_true_eq];omega
    have t:=qH (a.out j (by omega) Z.out (fun _=>by rw [S.out];exact hz))
    clear hz;go_wp2;go_ret3;refine⟨?_,B4.out.2⟩;have y:=t.out;rw [show leadV m l=(j:Int) by rw [leadV,y],show leadK m l=X by rw [leadK,y,if_pos (by omega),S.out]]
    rfl
  ·obtain rfl:j=N:=by omega
   have y0:=(A.out.below r A.out.lt).cell (i:=0) rfl;have t:=qH (a.out j (by omega) Z.out (fun h=>by omega))
   clear r;go_wp2;go_ret3;refine⟨?_,E.out.2⟩;have y:=t.out;rw [show leadV m l=(j:Int) by rw [leadV,y],show leadK m l=0 by rw [leadK,y,if_neg (by omega)]]
   rfl
theorem Z0X (m:Msn) (vw vh vr vl:Value) (l:List Int) (w:World) (hm:MsnAt w.heap.size w m vw vh vr) (hl:Z8 w.heap.size w vl l) :
  Calls Tryz.prog 13 #[.agg (Zc m vw vh vr),vl] w fun e w'=>e=qR (.tuple #[O qL (kpL m l),O qL (kpK m l),O qL (kpE m l)])/\Below w.heap.size w w':=by
 cases h:radOkB m l
 ·simp only [kpL,kpK,kpE,h,Bool.false_eq_true,if_false]
  exact Z9g m vw vh vr vl l w hm hl h
 ·simp only [kpL,kpK,kpE,h,if_true]
  exact Z8f m vw vh vr vl l w hm hl h
def fixTo (m:Msn):Nat->List Int
 | 0=>[]
 | k+1=>if 0<k/\0<(wy m.ways k).fix then fixTo m k++[(k:Int)] else fixTo m k
def fixL (m:Msn):List Int:=fixTo m m.ways.length
theorem Z2i (m:Msn):∀ k,(fixTo m k).length<=k-1
 | 0=>by simp [fixTo]
 | k + 1 => by
  have:=Z2i m k;unfold fixTo
  split
  ·rw [List.length_append];simp only [List.length_cons,List.length_nil];omega
  ·omega
theorem Z1v (m : Msn) : ∀ k x, x ∈ fixTo m k ↔ ∃ j : Nat, x = j /\ j < k /\ 0 < j /\ 0 < (wy m.ways j).fix
 | 0,x=>by simp [fixTo]
 | k + 1, x => by
  unfold fixTo;constructor
  ·intro h
   split at h
   ·rename_i hc
    rcases List.mem_append.1 h with h | h
    ·obtain⟨j,e,h1,h2⟩:=(Z1v m k x).1 h
     exact⟨j,e,by omega,h2⟩
    ·exact⟨k,by simpa using h,by omega,hc⟩
   ·obtain⟨j,e,h1,h2⟩:=(Z1v m k x).1 h
    exact⟨j,e,by omega,h2⟩
  ·rintro ⟨j,e,h1,h2⟩
   rcases Nat.lt_succ_iff_lt_or_eq.1 h1 with h | h
   ·have:=(Z1v m k x).2 ⟨j,e,h,h2⟩
    split
    ·exact List.mem_append.2 (.inl this)
    ·exact this
   ·subst h
    rw [if_pos h2,e];simp
theorem Z2j (m:Msn):∀ k,(fixTo m k).Pairwise (·<·)
 | 0=>by simp [fixTo]
 | k + 1 => by
  unfold fixTo
  split
  ·rw [List.pairwise_append]
   refine⟨Z2j m k,by simp,fun a ha b hb=>?_⟩
   obtain⟨j,e,h1,_⟩:=(Z1v m k a).1 ha;obtain rfl:b=k:=by simpa using hb
   omega
  ·exact Z2j m k
theorem Zas (m : Msn) (vw vh vr : Value) (w : World) (hm : MsnAt w.heap.size w m vw vh vr) (h41 : m.ways.length <= 100000) :
  Calls Tryz.prog 75 #[.agg (Zc m vw vh vr)] w fun e w'=>∃ v,e=qR v/\Z8 w'.heap.size w' v (fixL m)/\Below w.heap.size w w'/\∀ r,v.ownBlock=some r->w.heap.size<=r:=by
 obtain⟨⟨-,T,c1,rfl,g⟩,⟨-,a2,c2,rfl,-⟩,⟨-,R,Y,rfl,-⟩⟩:=hm;obtain⟨U,hi,q,t,l⟩:=info_parts intInfo;have W:=qH g;clear g;unfold Zc;have hA:=qH ((qK w.heap.size w).alloc (qN _) (.cells #[.slice T m.ways.length (m.ways.length+c1),.slice a2 m.home.length (m.home.length+c2),O qL m.start,.slice R m.rocks.length (m.rocks.length+Y),O qL m.speed,O qL m.part,O qL m.flow,O qL m.idle,O qL m.drive,O qL m.battery,O qL m.deadline] 26));go_enter Tryz.func75,Tryz.ntmps75;go_wp2
 go_loopw [3,9] (fun v i wr=>∃ k:Nat,k<=m.ways.length/\i=O qL (k:Int)/\wr.ownsRow w.heap.size 3 1 v (fixTo m k).length ((fixTo m k).map (O qL))/\Below w.heap.size w wr) (fun _ i _=>m.ways.length-(intOf i).toNat)
 case atStart=>exact⟨0,by omega,rfl,World.ownsRow_nil _ _ _ _,hA.out⟩
 case round =>
  obtain⟨k,hk,rfl,a,d⟩:=hrel;obtain⟨A,D⟩:∃ x,x=wr:=⟨_,rfl⟩;subst D;have F:=d.size;by_cases hlt:k<m.ways.length
  ·obtain⟨b,o,rfl,f,s⟩:=W.out.resolve_left (by intro h;rw [h] at hlt;simp at hlt)
   obtain⟨P,N,H,L,K⟩:=s k hlt;have e0:=cY d P f;have e1:=cY d N f;have e2:=cY d H f;have e3:=cY d L f;have e4:=cY d K f;have z:=Z2i m k;have c:Hid (fixTo m (k+1)=if 0<k/\0<(wy m.ways k).fix then fixTo m k++[(k:Int)] else fixTo m k):=rfl
   obtain⟨I,p⟩:∃ I,fixTo m k=I:=⟨_,rfl⟩;rw [p] at a c z;have Z:decide ((k:Int)<(m.ways.length:Int))=true:=by simp;omega
   have kl:(k:Int)<m.ways.length:=by omega
   have k0:(0:Int)<=k:=by omega
   generalize (wy m.ways k).x=px at *;generalize (wy m.ways k).y=py at *;generalize (wy m.ways k).fix=pf at *;generalize (wy m.ways k).wait=pw at *;generalize (wy m.ways k).back=pb at *;have J:=qH a;have B:=qH d;clear s P N H L K a d p;by_cases hp:0<k/\0<pf
   ·have M:decide ((k:Int)>0)=true:=by rw [decide_eq_true_eq];omega
    have S:decide (pf>0)=true:=by rw [decide_eq_true_eq];omega
    have C:=qH (c.out.trans (if_pos hp));have aa:=hp.1;have E:=hp.2;clear c hp;have n:=qH (J.out.alloc (.cells #[.int .i64 px,.int .i64 py,.int .i64 pf,.int .i64 pw,.int .i64 pb] 65));go_wp2_with (at_builtin;refine wpList_append_own _ rfl _ _ 29 rfl w.heap.size 3 U (.int .i64 0) 1 8 Tryz.underlying29 hi q t l rfl (by decide) _ _ _ rfl (n.out.alloc _) ⟨A.heap.size+1,0,none⟩ 1 1 [.int .i64 (k:Int)] rfl rfl (fun j u hj=>by have:=cell_one_new (A.alloc (.cells #[.int .i64 px,.int .i64 py,.int .i64 pf,.int .i64 pw,.int .i64 pb] 65)) (.int .i64 (k:Int)) 3 j u hj;rw [World.size_alloc] at this;exact this) (by simp [Value.oneCell']) (by unfold maxLen;omega) (by omega) (by simp;omega) ?_;intro v' w4 hown' hgrow _)
    go_roundw
    case rel =>
     have G:Below w.heap.size A w4:=(((qK w.heap.size A).alloc (by omega) _).alloc (by simp;omega) _).grown hgrow (by simp;omega) (fun j ej=>(n.out.lt j ej).1)
     refine⟨k+1,by omega,by go_num,?_,B.out.trans G⟩
     rw [C.out]
     simpa using hown'
    case measure=>simp [intOf];omega
   ·have C:=qH (c.out.trans (if_neg hp))
    clear c;have n:=qH (J.out.alloc (.cells #[O qL px,O qL py,O qL pf,O qL pw,O qL pb] 65));have Q:=qH (B.out.alloc F (.cells #[O qL px,O qL py,O qL pf,O qL pw,O qL pb] 65));by_cases hk0:0<k
    ·have M:decide ((k:Int)>0)=true:=by rw [decide_eq_true_eq];omega
     have S:decide (pf>0)=false:=by rw [decide_eq_false_iff_not];omega
     have E:¬ 0<pf:=by omega
     clear hp;go_wp2;go_roundw
     case rel=>exact⟨k+1,by omega,by go_num,by rw [C.out];exact n.out,Q.out⟩
     case measure=>simp [intOf];omega
    ·have M:decide ((k:Int)>0)=false:=by rw [decide_eq_false_iff_not];omega
     clear hp;go_wp2;go_roundw
     case rel=>exact⟨k+1,by omega,by go_num,by rw [C.out];exact n.out,Q.out⟩
     case measure=>simp [intOf];omega
  ·obtain rfl:k=m.ways.length:=by omega
   have Z:decide ((m.ways.length:Int)<(m.ways.length:Int))=false:=by simp
   have V:=qH (Z8.own a (by have:=Z2i m m.ways.length;omega))
   have X:=qH (fun r e=>(a.lt r e).1)
   have B:=qH d;clear a d;go_wp2;go_ret;exact⟨_,rfl,V.out,B.out,X.out⟩
end
section
open Go.RowKit
noncomputable def bestP (m:Msn):Int × List Int:=farL (kpL m) (allTo (fixL m) ((fixL m).length+1))
theorem Z45 (l:List Int) {k:Nat}:∀ {n:Nat},k<n->∃ R,allTo l n=allTo l k++(combos l k++R)
 | n + 1, h => by
  rcases Nat.lt_succ_iff_lt_or_eq.1 h with h | h
  ·obtain⟨R,hR⟩:=Z45 l h
   exact⟨R++combos l n,by rw [Z1N,hR];simp⟩
  ·subst h
   exact⟨[],by rw [Z1N];simp⟩
theorem Zb4 (m:Msn) {k:Nat} {pre u:List (List Int)} {n1:Int} (ht:∀ l,kpL m l<=n1) (hu:pre++u=combos (fixL m) k) (hk:k<(fixL m).length+1)
  (htp:(pre.foldl (farS (kpL m)) ((allTo (fixL m) k).foldl (farS (kpL m)) (-1,[]))).1=n1):pre.foldl (farS (kpL m)) ((allTo (fixL m) k).foldl (farS (kpL m)) (-1,[]))=bestP m:=by
 obtain⟨R,a⟩:=Z45 (fixL m) hk;unfold bestP farL;rw [a,<- hu,List.foldl_append,List.foldl_append,List.foldl_append,Zay (kpL m) ht htp u,Zay (kpL m) ht htp R]
theorem Boxed.store {W:World} {B:Nat} {t:TypeId} {v:Value} (h:Boxed W B t v):W.setCell ⟨B,0,none⟩ v=W:=by
 have b:=h.lt;have a:W.heap[B]=.cells #[v] t (0,0):=(Array.getElem?_eq_some_iff.1 h).2;unfold World.setCell;cases W with
 | mk heap tape drawn os output =>
  congr 1
  apply Array.ext
  ·simp
  ·intro k h1 h2
   simp only [Array.getElem_modify]
   split
   ·rename_i hk;subst hk;simp at a;simp [a]
   ·rfl
structure FarI (BL BS BE:Nat) (w w2:World) (st:Int × List Int) (ds:List Nat) (v:Value) (W:World):Prop where
 leg:Boxed W BL 3 (O qL st.1)
 sto:Boxed W BS 29 v
 err:Boxed W BE 30 (O qL 0)
 val:Z8 W.heap.size W v st.2
 low:Below w.heap.size w W
 kee:KeepsP (fun b=>b<w2.heap.size/\b≠BL/\b≠BS/\b≠BE) w2 W
 mar:∀ D,D ∈ ds->w2.heap.size<=D/\W.heap[D]?=some (.deferred (some []))
 nod:ds.Nodup
 new:∀ r,v.ownBlock=some r->w2.heap.size<=r/\r<W.heap.size
structure FarB (BL BS BE:Nat) (w w2:World):Prop where
 l:BL<w2.heap.size/\w.heap.size<=BL
 s:BS<w2.heap.size/\w.heap.size<=BS
 e:BE<w2.heap.size/\w.heap.size<=BE
 ls:BL≠BS
 le:BL≠BE
 se:BS≠BE
 w:w.heap.size<=w2.heap.size
section
variable {BL BS BE:Nat} {w w2:World} {st:Int × List Int} {ds:List Nat} {v:Value} {W X:World}
theorem Z8.offG {l : List Int} {row : Option Nat} (h : Z8 W.heap.size W v l) (hg : W.grownBy X row) (hne : ∀ r, row = some r -> l = [] \/ v.ownBlock ≠ some r) : Z8 X.heap.size X v l := by
 obtain⟨m,a,f,e,c⟩:=h;refine⟨m,a,f,e,?_⟩;rcases c with c | ⟨b,o,k,g,c⟩
 ·exact .inl c
 ·by_cases hl0:l=[]
  ·exact .inl hl0
  ·refine .inr ⟨b,o,k,Nat.lt_of_lt_of_le g hg.size,fun j hj=>?_⟩
   have d:some b≠row:=fun er=>by
    rcases hne b er.symm with h | h
    ·exact hl0 h
    ·exact h (by rw [e,k];rfl)
   exact (World.cell?_of_block (hg.block b g d)).trans (c j hj)
theorem FarI.off (hB:FarB BL BS BE w w2) (h:FarI BL BS BE w w2 st ds v W) {row:Option Nat} (hg:W.grownBy X row) (hne:∀ r,row=some r->w2.heap.size<=r/\r ∉ ds/\(st.2=[]\/v.ownBlock≠some r)):FarI BL BS BE w w2 st ds v X:=by
 have a:∀ b,b<w2.heap.size->some b≠row:=fun b hb e=>by have:=(hne b e.symm).1;omega
 have c:=h.kee.1;refine⟨h.leg.kept hg (a _ hB.l.1),h.sto.kept hg (a _ hB.s.1),h.err.kept hg (a _ hB.e.1),h.val.offG hg (fun r e=>(hne r e).2.2),h.low.grown hg (by have:=hB.w;omega) (fun k e=>by have:=(hne k e).1;have:=hB.w;omega),⟨Nat.le_trans c hg.size,fun b hb=>(hg.block b (by omega) (a b hb.1)).trans (h.kee.2 b hb)⟩,fun D hD=>⟨(h.mar D hD).1,?_⟩,h.nod,fun r e=>⟨(h.new r e).1,Nat.lt_of_lt_of_le (h.new r e).2 hg.size⟩⟩
 have m:=(h.mar D hD).2;exact (hg.block D (Array.getElem?_eq_some_iff.1 m).1 (fun e=>(hne D e.symm).2.1 hD)).trans m
theorem FarI.below (hB:FarB BL BS BE w w2) (h:FarI BL BS BE w w2 st ds v W) (k:Below W.heap.size W X):FarI BL BS BE w w2 st ds v X :=
 h.off hB (row:=none) ⟨k.os,k.tape,k.output,k.size,fun b hb _=>k.block b hb⟩ (fun r e=>by cases e)
theorem FarI.upd (hB:FarB BL BS BE w w2) (h:FarI BL BS BE w w2 st ds v W) {st':Int × List Int} {v':Value} (hv:Z8 W.heap.size W v' st'.2) (hn:∀ r,v'.ownBlock=some r->w2.heap.size<=r/\r<W.heap.size) :
  FarI BL BS BE w w2 st' ds v' ((W.setCell ⟨BL,0,none⟩ (O qL st'.1)).setCell ⟨BS,0,none⟩ v'):=by
 obtain⟨c,hs,j,d,g,f,k⟩:=hB;have a:∀ (b:Nat) (u:Value),b<w2.heap.size->∀ {Y:World} {l:List Int} {vv:Value},(∀ r,vv.ownBlock=some r->w2.heap.size<=r)->Z8 Y.heap.size Y vv l->Z8 (Y.setCell ⟨b,0,none⟩ u).heap.size (Y.setCell ⟨b,0,none⟩ u) vv l:=fun b u hb Y l vv hnn hI =>
  hI.offG (grownBy_setCell' Y b u) (fun r e=>.inr fun e2=>by cases e;have:=hnn b e2;omega)
 refine⟨((h.leg.set _).other d _),(h.sto.other d.symm _).set _,(h.err.other g.symm _).other f.symm _,a _ _ hs.1 (fun r e=>(hn r e).1) (a _ _ c.1 (fun r e=>(hn r e).1) hv),(h.low.setCell (p:=⟨BL,0,none⟩) c.2 _).setCell (p:=⟨BS,0,none⟩) hs.2 _,⟨by simpa using h.kee.1,fun b hb=>?_⟩,fun D hD=>⟨(h.mar D hD).1,?_⟩,h.nod,fun r e=>by simpa using hn r e⟩
 ·rw [Below.heap_setCell _ _ _ b hb.2.2.1,Below.heap_setCell _ _ _ b hb.2.1];exact h.kee.2 b hb
 ·have:=(h.mar D hD).1
  rw [Below.heap_setCell _ _ _ D (by simp only;omega),Below.heap_setCell _ _ _ D (by simp only;omega)];exact (h.mar D hD).2
theorem FarI.keeps (hB:FarB BL BS BE w w2) (h:FarI BL BS BE w w2 st ds v W) (hz:W.heap.size<=X.heap.size) (hk:∀ b,b<W.heap.size->b≠BL->b≠BS->b≠BE->X.heap[b]?=W.heap[b]?) (B B2:Nat) (hB2:w2.heap.size<=B2) (q:Nat->Prop) (hq:∀ b,q b->b<W.heap.size/\b≠BL/\b≠BS/\b≠BE):KeepsFrom B W X/\chK q B2 W X:=by
 obtain⟨j,hs,l,-⟩:=hB;refine⟨⟨hz,fun k o _ hko ho=>?_⟩,hz,fun b a=>?_⟩
 ·have c:=(Array.getElem?_eq_some_iff.1 hko).1
  have d:k≠BL:=fun e=>by subst e;rw [show W.heap[k]?=_ from h.leg] at hko;cases hko;cases ho
  have g:k≠BS:=fun e=>by subst e;rw [show W.heap[k]?=_ from h.sto] at hko;cases hko;cases ho
  have f:k≠BE:=fun e=>by subst e;rw [show W.heap[k]?=_ from h.err] at hko;cases hko;cases ho
  exact (hk k c d g f).trans hko
 ·rcases a with a | a
  ·have:=hq b a;exact hk b this.1 this.2.1 this.2.2.1 this.2.2.2
  ·exact hk b a.2 (by omega) (by omega) (by omega)
theorem FarI.own (hB : FarB BL BS BE w w2) {B : Nat} (hBz : w2.heap.size <= B) (F : List (Value × List Int) -> Int × List Int) (hds : ∀ D ∈ ds, D < B) (p : List (Value × List Int) -> Prop) :
  OwnD chOwn B (fun s W=>p s/\∃ v,FarI BL BS BE w w2 (F s) ds v W/\∀ r,v.ownBlock=some r->r<B\/∃ x,x ∈ s/\x.1.ownBlock=some r):=by
 rintro s W X n ⟨I,v,h,m⟩ H q;refine⟨I,v,h.off hB H fun r e=>?_,m⟩
 obtain⟨o,C,c⟩:=q r e;have z:B<=r:=by
  rcases c with⟨_,c⟩ | ⟨_,c⟩
  ·have:=c.1;omega
  ·exact c
 refine⟨by omega,fun hD=>by have:=hds r hD;omega,?_⟩
 by_cases hl:(F s).2=[]
 ·exact .inl hl
 ·refine .inr fun ev=>?_
  rcases m r ev with l | ⟨x,G,l⟩
  ·omega
  ·rcases c with⟨_,c⟩ | ⟨c,_⟩
   ·exact c.2 x G l
   ·obtain⟨_,a,t,E,d⟩:=h.val
    obtain⟨b,y,u,K,k⟩:=d.resolve_left hl;have j:b=r:=by rw [E,u] at ev;simpa [Value.ownBlock] using ev
    have A:0<(F s).2.length:=List.length_pos_iff.2 hl;obtain⟨J,f,g⟩:=cells_of_cell (k 0 A);rw [show (⟨b,y+0,none⟩:Addr).block=r from j,C] at f
    cases f;rw [c] at g;cases g
theorem FarI.leave {F:Fence} {n:Nat} {P:Program} {fn:Func} {tmps:Array Value} {R:Ending->World->Prop} (hB:FarB BL BS BE w w2):∀ (ds:List Nat) (W:World),FarI BL BS BE w w2 st ds v W->(∀ W',FarI BL BS BE w w2 st [] v W'->LeavesIn F n P fn tmps R [] .returning W') ->
  LeavesInM F n P fn tmps R (ds.map fun D=>{ target:=.collected D,args:=#[] }) .returning W
 | [],W,h,hl=>hl W h
 | D :: ds, W, h, hl => by
  have m:=h.mar D (by simp)
  have nd:=List.nodup_cons.1 h.nod;refine⟨by simp,.inl ⟨D,_,rfl,run_takeDeferred m.2,?_⟩⟩
  refine FarI.leave hB ds _ ?_ hl;have h1:FarI BL BS BE w w2 st ds v W:=⟨h.leg,h.sto,h.err,h.val,h.low,h.kee,fun E hE=>h.mar E (by simp [hE]),nd.2,h.new⟩
  refine h1.off hB (grownBy_putObj' W D _) fun r e=>?_
  cases e;refine⟨m.1,nd.1,?_⟩;by_cases hl:st.2=[]
  ·exact .inl hl
  ·refine .inr fun ev=>?_
   obtain⟨_,a,cap,e1,hcells⟩:=h.val;obtain⟨b,o',e2,hb,hcc⟩:=hcells.resolve_left hl;have hbr:b=D:=by rw [e1,e2] at ev;simpa [Value.ownBlock] using ev
   have f:0<st.2.length:=List.length_pos_iff.2 hl;obtain⟨g,c,d⟩:=cells_of_cell (hcc 0 f);rw [show (⟨b,o'+0,none⟩:Addr).block=D from hbr,m.2] at c
   cases c;cases d
end
end
end Go.Proofs.YthipcinibldgnaaGreat
