/- package hull: Box. | package hull: Has. -/
import Derived.Deep.CutRange
import Derived.Test.YthipcinibldgnaaGreatBin07
open Go.Value renaming int->O,bool->qB,tuple->qT
open Go.Obj renaming cells->qC
open Go.IntKind renaming i64->qL
open Go.Lib renaming hid->qH
open Go.RowKit.Below renaming refl->qK
open Nat renaming le_refl->qN
open And renaming intro->qI
open Go.Act renaming put->qJ
open Go renaming undef->qD
set_option linter.unusedSimpArgs false
set_option maxRecDepth 8000
set_option maxHeartbeats 3000000
namespace Go.Proofs.YthipcinibldgnaaGreat
section
open Go.RowKit
theorem zAd {a b c:World} (p:Hid (Below a.heap.size a b)) (q:Below b.heap.size b c):Hid (Below a.heap.size a c):=qH (p.out.trans (q.mono p.out.size))
end
section
attribute [local irreducible] wpQuiet
open Go.RowKit
def boxL (l:List Pt):Pt:=⟨loTo bxF1 l l.length,loTo bxF2 l l.length⟩
def boxH (l:List Pt):Pt:=⟨hiTo bxF1 l l.length,hiTo bxF2 l l.length⟩
theorem Has.other {W:World} {B:Nat} {cs:Array Value} {t:TypeId} (h:Has W B cs t) (p:Addr) (v:Value) (hne:B≠p.block):Has (W.setCell p v) B cs t:=(Below.heap_setCell W p v B hne).trans h
theorem Has.same {W:World} {B:Nat} {cs:Array Value} {t:TypeId} (h:Has W B cs t):W.setRow B cs=W:=by
 have b:=h.lt;have a:W.heap[B]=qC cs t (0,0):=(Array.getElem?_eq_some_iff.1 h).2;unfold World.setRow;cases W with
 | mk heap tape drawn os output =>
  congr 1
  apply Array.ext
  ·simp
  ·intro k h1 h2
   simp only [Array.getElem_modify]
   split
   ·rename_i hk;subst hk;simp at a;simp [a]
   ·rfl
theorem Zdk (v:Value) (l:List Pt) (w:World) (hp:Z7 w.heap.size w v l) (hE:Zb l=true) :
  Calls Tryz.prog 65 #[v] w fun e w'=>e=.returned (qT #[.agg #[O qL (boxL l).x,O qL (boxL l).y],.agg #[O qL (boxH l).x,O qL (boxH l).y],O qL 0])/\Below w.heap.size w w':=by
 have K:Below w.heap.size w ((w.alloc (qC #[O qL 0,O qL 0] 36)).alloc (qC #[O qL 0,O qL 0] 36)):=((qK _ _).alloc (qN _) _).alloc (by first | omega | (simp;done) | (simp;omega)) _
 have hv:=qH (hE ▸ Zs v l _ ((hp.below K).mono K.size));have E:0<l.length:=by
  have:GoValid l:=by simpa [Zb] using hE
  have:=this.1;omega
 have HP:=qH hp;have A:=fun h (B:Below w.heap.size w h)=>ends_1 v l h ((hp.below B).mono B.size) E
 have z:=fun h (B:Below w.heap.size w h)=>ends_2 v l h ((hp.below B).mono B.size) E
 change ∀ h,_->Calls Tryz.prog 114 _ h fun e w'=>e=.returned (qT #[O qL (boxL l).x,O qL (boxH l).x])/\_ at A
 change ∀ h,_->Calls Tryz.prog 114 _ h fun e w'=>e=.returned (qT #[O qL (boxL l).y,O qL (boxH l).y])/\_ at z
 obtain⟨_,a,cap,rfl,_⟩:=hp;have L:=(Has.new w #[O qL 0,O qL 0] 36).below ((qK (w.heap.size+1) _).alloc (by simp) (qC #[O qL 0,O qL 0] 36)) (by omega)
 have I:=Has.new (w.alloc (qC #[O qL 0,O qL 0] 36)) #[O qL 0,O qL 0] 36;rw [World.size_alloc] at I;have T:=qH L;have Q:=qH I;have J:=qH K;have HE:=qH (qI A z);clear K L I hE A z;generalize (boxL l).x=lx at *;generalize (boxL l).y=ly at *;generalize (boxH l).x=d at *;generalize (boxH l).y=f at *;go_enter Tryz.func65,Tryz.ntmps65;go_wp2_with fail;refine hv.out.mono ?_;rintro e h ⟨rfl,j⟩;have L:=qH (T.out.below (j.mono (by simp):Below (w.heap.size+2) _ h) (by omega))
 have I:=qH (Q.out.below (j.mono (by simp):Below (w.heap.size+2) _ h) (by omega))
 have B1:=qH (J.out.trans (j.mono J.out.size));have hz:=j.size;simp at hz;clear j;go_wp2_with fail;refine (HE.out.1 _ B1.out).mono ?_;rintro e H ⟨rfl,k⟩;have m:=L.out.below k (by omega)
 have o:=I.out.below k (by omega)
 have B2:=zAd B1 k;have hz2:=k.size;have Z:H.cell? ⟨w.heap.size,0,none⟩=some (O qL 0):=cX 0 m rfl;have M:H.cell? ⟨w.heap.size+1,0,none⟩=some (O qL 0):=cX 0 o rfl;have Y:=Ze m 0;have S:=Ze o 0;have U:=qH m;have N:=qH o;clear k m o;go_upto_region 4 with fail
 have u:Has ((H.setCell ⟨w.heap.size,0,none⟩ (O qL lx)).setCell ⟨w.heap.size+1,0,none⟩ (O qL d)) w.heap.size #[O qL lx,O qL 0] 36:=(U.out.set 0 (O qL lx):Has _ _ #[O qL lx,O qL 0] _).other ⟨w.heap.size+1,0,none⟩ _ (by simp)
 have t:Has ((H.setCell ⟨w.heap.size,0,none⟩ (O qL lx)).setCell ⟨w.heap.size+1,0,none⟩ (O qL d)) (w.heap.size+1) #[O qL d,O qL 0] 36:=((N.out.other ⟨w.heap.size,0,none⟩ (O qL lx) (by simp)).set 0 (O qL d):_)
 have W:=(B2.out.setCell (p:=⟨w.heap.size,0,none⟩) (qN _) (O qL lx)).setCell (p:=⟨w.heap.size+1,0,none⟩) (by simp) (O qL d)
 generalize (H.setCell ⟨w.heap.size,0,none⟩ (O qL lx)).setCell ⟨w.heap.size+1,0,none⟩ (O qL d)=w3 at u t W ⊢;have R:=qH u;have P:=qH t;have C:=qH W;have l2:=u.lt;have l3:=t.lt;clear Z M Y S u t W;go_wp2_with fail;refine (HE.out.2 _ C.out).mono ?_;rintro e F ⟨rfl,q⟩;have m:=R.out.below q l2;have o:=P.out.below q l3;have B4:=qH (C.out.trans (q.mono C.out.size));have Z:F.cell? ⟨w.heap.size,1,none⟩=some (O qL 0):=cX 1 m rfl;have M:F.cell? ⟨w.heap.size+1,1,none⟩=some (O qL 0):=cX 1 o rfl;have Y:=Ze m 1;have S:=Ze o 1;have A4:=qH m;have A5:=qH o;clear q m o;go_upto_region 5 with fail
 have u:Has ((F.setCell ⟨w.heap.size,1,none⟩ (O qL ly)).setCell ⟨w.heap.size+1,1,none⟩ (O qL f)) w.heap.size #[O qL lx,O qL ly] 36:=(A4.out.set 1 (O qL ly):Has _ _ #[O qL lx,O qL ly] _).other ⟨w.heap.size+1,1,none⟩ _ (by simp)
 have t:Has ((F.setCell ⟨w.heap.size,1,none⟩ (O qL ly)).setCell ⟨w.heap.size+1,1,none⟩ (O qL f)) (w.heap.size+1) #[O qL d,O qL f] 36:=((A5.out.other ⟨w.heap.size,1,none⟩ (O qL ly) (by simp)).set 1 (O qL f):_)
 have V:=(B4.out.setCell (p:=⟨w.heap.size,1,none⟩) (qN _) (O qL ly)).setCell (p:=⟨w.heap.size+1,1,none⟩) (by simp) (O qL f)
 generalize (F.setCell ⟨w.heap.size,1,none⟩ (O qL ly)).setCell ⟨w.heap.size+1,1,none⟩ (O qL f)=w5 at u t V ⊢;have BR:=qH V;clear Z M Y S V;refine (wpIn_wide (n:=9)).1 ?_;refine Zi (Zk _) 3 (fun X=>Has X w.heap.size #[O qL lx,O qL ly] 36/\Has X (w.heap.size+1) #[O qL d,O qL f] 36) (by kernel_rfl) (by kernel_rfl) (by kernel_rfl) fun hH inv0=>?_
 refine sk hH 0 (.agg #[O qL lx,O qL ly]) (Zd rfl) inv0 (fun X hX=>?_) fun s=>?_
 ·have d:=hX.1.cell (i:=0) rfl;have f:=hX.1.cell (i:=1) rfl;go_simp
 simp only [pT];refine sk hH 1 (.agg #[O qL d,O qL f]) (Zd rfl) s (fun X hX=>?_) fun D=>?_
 ·have d:=hX.2.cell (i:=0) rfl;have f:=hX.2.cell (i:=1) rfl;go_simp
 simp only [pT];have c:Has w5.drew w.heap.size #[O qL lx,O qL ly] 36:=u;have b:Has w5.drew (w.heap.size+1) #[O qL d,O qL f] 36:=t;have G:Below w5.heap.size w5 w5.drew:=Below.drew (qK _ _);generalize w5.drew=X0 at c b G ⊢;clear inv0 s D hH;refine sa1 (r:=2) ⟨c,b⟩ ?_;refine Z54 (Zd rfl) rfl rfl (g:=w.heap.size) (cells:=#[O qL lx,O qL ly]) rfl rfl c (by kernel_rfl) rfl (by kernel_rfl) ?_
 simp only [pT];rw [c.same];refine Zj (by kernel_rfl) ⟨c,b⟩ ?_
 simp only [List.drop_succ_cons,List.drop_zero];refine ZF rfl rfl (g:=(w.heap.size+1)) (cells:=#[O qL d,O qL f]) rfl rfl b (by kernel_rfl) rfl (by kernel_rfl) ?_
 rw [b.same];gi_wp2;go_wp2;have z0:X0.cell? ⟨w.heap.size,0,none⟩=some (O qL lx):=cX 0 c rfl;have z1:X0.cell? ⟨w.heap.size,1,none⟩=some (O qL ly):=cX 1 c rfl;have z2:X0.cell? ⟨w.heap.size+1,0,none⟩=some (O qL d):=cX 0 b rfl;have z3:X0.cell? ⟨w.heap.size+1,1,none⟩=some (O qL f):=cX 1 b rfl;exact bodyPost_ret (v:=qT #[.agg #[O qL lx,O qL ly],.agg #[O qL d,O qL f],O qL 0]) (by simp [results,Tryz.f65,go_sem,z0,z1,z2,z3]) rfl ⟨rfl,BR.out.trans (G.mono BR.out.size)⟩
end
section
attribute [local go_sem] Oper.semAt_some
attribute [local irreducible] wpQuiet
open Go.RowKit
noncomputable def inside (l:List Pt) (x:Pt):Bool :=
 if l.length<3 then decide (Z5 (nth l 0) (nth l (l.length-1)) x=0/\(boxL l).x<=x.x/\x.x<=(boxH l).x/\(boxL l).y<=x.y/\x.y<=(boxH l).y)
 else decide (∀ i,i<l.length->0<=Z5 (sideP l i).1 (sideP l i).2 x)
theorem Zd5 (v:Value) (l:List Pt) (x:Pt) (w:World) (hp:Z7 w.heap.size w v l) (hE:(Zb l && Z3 x)=false) :
  Calls Tryz.prog 27 #[v,.agg #[O qL x.x,O qL x.y]] w fun e w'=>e=.returned (qT #[qB false,O qL 1])/\Below w.heap.size w w':=by
 obtain⟨g,k⟩:∃ g,Zb l=g:=⟨_,rfl⟩;have m:Below w.heap.size w (((w.alloc (qC #[O qL x.x,O qL x.y] 36)).alloc (qC #[qB false] 4)).alloc (qC #[O qL 0] 30)):=(((qK _ _).alloc (qN _) _).alloc (by first | omega | (simp;done) | (simp;omega)) _).alloc (by simp;omega) _
 have N:=qH (k ▸ Zs v l _ ((hp.below m).mono m.size));have I:=(Has.new w #[O qL x.x,O qL x.y] 36).below (((qK (w.heap.size+1) _).alloc (by simp) (qC #[qB false] 4)).alloc (by simp) (qC #[O qL 0] 30)) (by omega)
 have q:=(Has.new (w.alloc (qC #[O qL x.x,O qL x.y] 36)) #[qB false] 4).below ((qK (w.heap.size+2) _).alloc (by simp) (qC #[O qL 0] 30)) (by simp)
 have H:=Has.new ((w.alloc (qC #[O qL x.x,O qL x.y] 36)).alloc (qC #[qB false] 4)) #[O qL 0] 30;simp only [World.size_alloc] at q H;have G:=qH I;have E:=qH q;have u:=qH H;have j:=qH m;have z:Hid (g=true->placeB x.x x.y=false):=by
  show g=true->_
  intro hg;rw [k,hg] at hE
  simpa [Z3] using hE
 obtain⟨_,a,P,rfl,_⟩:=hp;clear m I q H hE;generalize x.x=px at *;generalize x.y=py at *;refine (callsIn_wide (n:=9)).1 ?_;refine callsIn_of_wp_marks Tryz.func27 rfl trivial ?_ rfl;simp only [Tryz.ntmps27,List.size_toArray,List.length_cons,List.length_nil,Nat.reduceAdd,Nat.reduceSub,Array.replicate_succ,Array.replicate_zero,List.push_toArray,List.append_toArray,List.nil_append,List.cons_append];refine wpIn_wide.2 ?_;go_wp2_with fail;refine N.out.mono ?_;rintro e d ⟨rfl,b⟩;have i:=G.out.below (b.mono (by simp):Below (w.heap.size+3) _ d) (by omega)
 have h:=E.out.below (b.mono (by simp):Below (w.heap.size+3) _ d) (by omega)
 have f:=u.out.below (b.mono (by simp):Below (w.heap.size+3) _ d) (by omega)
 have J:=qH (j.out.trans (b.mono j.out.size));have L:=b.size;simp at L;clear b;cases g
 ·clear k
  have C:d.cell? ⟨w.heap.size+1,0,none⟩=some (qB false):=cX 0 h rfl;have R:=Ze h 0;have B:d.cell? ⟨w.heap.size+1+1,0,none⟩=some (O qL 0):=cX 0 f rfl;have M:=Ze f 0;go_wp2;have D:=World.cell?_setCell_same' d ⟨w.heap.size+1,0,none⟩ (qB false) (by rw [C];rfl)
  have A:=World.cell?_setCell_same' (d.setCell ⟨w.heap.size+1,0,none⟩ (qB false)) ⟨w.heap.size+1+1,0,none⟩ (O qL 1) (by rw [World.cell?_setCell_other _ _ _ _ (by simp),B];rfl)
  exact⟨qT #[qB false,O qL 1],by simp [results,Tryz.f27,go_sem,D,A],rfl,(J.out.setCell (p:=⟨w.heap.size+1,0,none⟩) (by simp) _).setCell (p:=⟨w.heap.size+1+1,0,none⟩) (by simp;omega) _⟩
 ·have s:=z.out rfl
  have S:d.cell? ⟨w.heap.size,0,none⟩=some (O qL px):=cX 0 i rfl;have T:d.cell? ⟨w.heap.size,1,none⟩=some (O qL py):=cX 1 i rfl;have r:=qH i;have t:=qH h;have F:=qH f;clear i h f k;go_wp2_with fail;refine (Z2x _ _ _ s).mono ?_;rintro e o ⟨rfl,c⟩;have i:=r.out.below c (by omega)
  have h:=t.out.below c (by omega)
  have f:=F.out.below c (by omega)
  have K:=zAd J c;have Q:=c.size;have C:o.cell? ⟨w.heap.size+1,0,none⟩=some (qB false):=cX 0 h rfl;have R:=Ze h 0;have B:o.cell? ⟨w.heap.size+1+1,0,none⟩=some (O qL 0):=cX 0 f rfl;have M:=Ze f 0;clear c;go_wp2;have D:=World.cell?_setCell_same' o ⟨w.heap.size+1,0,none⟩ (qB false) (by rw [C];rfl)
  have A:=World.cell?_setCell_same' (o.setCell ⟨w.heap.size+1,0,none⟩ (qB false)) ⟨w.heap.size+1+1,0,none⟩ (O qL 1) (by rw [World.cell?_setCell_other _ _ _ _ (by simp),B];rfl)
  exact⟨qT #[qB false,O qL 1],by simp [results,Tryz.f27,go_sem,D,A],rfl,(K.out.setCell (p:=⟨w.heap.size+1,0,none⟩) (by simp) _).setCell (p:=⟨w.heap.size+1+1,0,none⟩) (by simp;omega) _⟩
theorem Zah (v : Value) (l : List Pt) (x : Pt) (w : World) (hp : Z7 w.heap.size w v l) (hV : Zb l = true) (hX : Z3 x = true) (h3 : l.length < 3) :
  Calls Tryz.prog 27 #[v,.agg #[O qL x.x,O qL x.y]] w fun e w'=>e=.returned (qT #[qB (inside l x),O qL 0])/\Below w.heap.size w w':=by
 have GV:GoValid l:=by simpa [Zb] using hV
 have Z:=GV.1;have W1:Below w.heap.size w (((w.alloc (qC #[O qL x.x,O qL x.y] 36)).alloc (qC #[qB false] 4)).alloc (qC #[O qL 0] 30)):=(((qK _ _).alloc (qN _) _).alloc (by first | omega | (simp;done) | (simp;omega)) _).alloc (by simp;omega) _
 have hv:=qH (hV ▸ Zs v l _ ((hp.below W1).mono W1.size));have H0:=(Has.new w #[O qL x.x,O qL x.y] 36).below (((qK (w.heap.size+1) _).alloc (by simp) (qC #[qB false] 4)).alloc (by simp) (qC #[O qL 0] 30)) (by omega)
 have H1:=(Has.new (w.alloc (qC #[O qL x.x,O qL x.y] 36)) #[qB false] 4).below ((qK (w.heap.size+2) _).alloc (by simp) (qC #[O qL 0] 30)) (by simp)
 have H2:=Has.new ((w.alloc (qC #[O qL x.x,O qL x.y] 36)).alloc (qC #[qB false] 4)) #[O qL 0] 30;simp only [World.size_alloc] at H1 H2;have H0':=qH H0;have H1':=qH H1;have H2':=qH H2;have W1':=qH W1;have hbx:=qH (fun g (Bw:Below w.heap.size w g)=>Zdk v l g ((hp.below Bw).mono Bw.size) hV)
 obtain⟨_,a,cap,rfl,Y⟩:=hp;obtain⟨b,o,rfl,hb,Y⟩:∃ b o,a=some ⟨b,o,none⟩/\b<w.heap.size/\∀ j,j<l.length->w.cell? ⟨b,o+j*2,none⟩=some (O qL (nth l j).x)/\w.cell? ⟨b,o+j*2+1,none⟩=some (O qL (nth l j).y):=by
  rcases Y with h | h
  ·rw [h] at Z;simp at Z
  ·exact h
 obtain⟨H,Q⟩:=Y 0 (by omega)
 obtain⟨q2,q3⟩:=Y (l.length-1) (by omega)
 rw [Nat.zero_mul,Nat.add_zero] at H Q;have pl0:=Zt (GV.2.2.1 0 (by omega)).1
 have pl1:=Zt (GV.2.2.1 (l.length-1) (by omega)).1
 have plx:=Zt hX;have hR:inside l x=decide (turnV (nth l 0).x (nth l 0).y (nth l (l.length-1)).x (nth l (l.length-1)).y x.x x.y=0/\(boxL l).x<=x.x/\x.x<=(boxH l).x/\(boxL l).y<=x.y/\x.y<=(boxH l).y):=by
  unfold inside;rw [if_pos h3];rfl
 have hturn:=fun g=>Z1E (nth l 0).x (nth l 0).y (nth l (l.length-1)).x (nth l (l.length-1)).y x.x x.y g (by omega) (by omega) (by omega) (by omega) (by omega) (by omega) (by omega) (by omega) (by omega) (by omega) (by omega) (by omega)
 have W:placeB x.x x.y=true:=hX;have m:=qH (qI hturn (qI hR W));have HQ:=qH (qI H (qI Q (qI q2 q3)));have d3:decide ((l.length:Int)<3)=true:=by simp;omega
 have j1:IntKind.i64.wrap ((l.length:Int)-1)=(l.length:Int)-1:=zW2;have j2:(0:Int)<=(l.length:Int)-1:=by omega
 have j3:(l.length:Int)-1<l.length:=by omega
 have j4:((l.length:Int)-1).toNat=l.length-1:=by omega
 have j5:(0:Int)<l.length:=by omega
 have j6:l.length-1<l.length:=by omega
 have j7:0<l.length:=by omega
 have j8:(1:Int)<=l.length:=by omega
 clear W1 H0 H1 H2 Y H Q q2 q3 GV pl0 pl1 plx hturn hR W hX hV;generalize turnV (nth l 0).x (nth l 0).y (nth l (l.length-1)).x (nth l (l.length-1)).y x.x x.y=T at *;generalize (nth l 0).x=ax at *;generalize (nth l 0).y=ay at *;generalize (nth l (l.length-1)).x=bx at *;generalize (nth l (l.length-1)).y=by' at *
 generalize x.x=px at *;generalize x.y=py at *;generalize (boxL l).x=lx at *;generalize (boxL l).y=ly at *;generalize (boxH l).x=hx at *;generalize (boxH l).y=hy at *;refine (callsIn_wide (n:=9)).1 ?_;refine callsIn_of_wp_marks Tryz.func27 rfl trivial ?_ rfl;simp only [Tryz.ntmps27,List.size_toArray,List.length_cons,List.length_nil,Nat.reduceAdd,Nat.reduceSub,Array.replicate_succ,Array.replicate_zero,List.push_toArray,List.append_toArray,List.nil_append,List.cons_append];refine wpIn_wide.2 ?_;go_wp2_with fail;refine hv.out.mono ?_;rintro e g ⟨rfl,s⟩;have r:=H0'.out.below (s.mono (by simp):Below (w.heap.size+3) _ g) (by omega)
 have f:=H1'.out.below (s.mono (by simp):Below (w.heap.size+3) _ g) (by omega)
 have d:=H2'.out.below (s.mono (by simp):Below (w.heap.size+3) _ g) (by omega)
 have B1:=qH (W1'.out.trans (s.mono W1'.out.size));have hz:=s.size;simp at hz;clear s;have x0:g.cell? ⟨w.heap.size,0,none⟩=some (O qL px):=cX 0 r rfl;have x1:g.cell? ⟨w.heap.size,1,none⟩=some (O qL py):=cX 1 r rfl;have D:=qH r;have k:=qH f;have i:=qH d;clear r f d;go_wp2_with fail;refine (Z0r _ _ _ m.out.2.2).mono ?_;rintro e c ⟨rfl,t⟩;have r:=D.out.below t (by omega)
 have f:=k.out.below t (by omega)
 have d:=i.out.below t (by omega)
 have B2:=zAd B1 t;have hz2:=t.size;have D:=qH r;have k:=qH f;have i:=qH d;clear r f d t x0 x1;go_wp2_with fail;refine (hbx.out _ B2.out).mono ?_;rintro e G ⟨rfl,u⟩;have r:=D.out.below u (by omega)
 have f:=k.out.below u (by omega)
 have d:=i.out.below u (by omega)
 have B3:=zAd B2 u;have hz3:=u.size;have D:=qH r;have k:=qH f;have i:=qH d;clear r f d u;go_wp2;have hA:=(((qK G.heap.size G).alloc (qN _) (qC #[O qL lx,O qL ly] 36)).alloc (by simp) (qC #[O qL hx,O qL hy] 36))
 have L0:=(Has.new G #[O qL lx,O qL ly] 36).below ((qK (G.heap.size+1) _).alloc (by simp) (qC #[O qL hx,O qL hy] 36)) (by omega)
 have V:=Has.new (G.alloc (qC #[O qL lx,O qL ly] 36)) #[O qL hx,O qL hy] 36;simp only [World.size_alloc] at V;have r:=D.out.below hA (by omega)
 have f:=k.out.below hA (by omega)
 have d:=i.out.below hA (by omega)
 have q:=zAd B3 hA;have hz4:=V.lt;obtain⟨H,Q,q2,q3⟩:=HQ.out;have g0:=cY q.out H hb;have g1:=cY q.out Q hb;have g2:=cY q.out q2 hb;have g3:=cY q.out q3 hb;clear H Q q2 q3 hA;generalize (G.alloc (qC #[O qL lx,O qL ly] 36)).alloc (qC #[O qL hx,O qL hy] 36)=w4 at *;have U:=Low.fact g0;have L:=Low.fact g1;have P:=Low.fact g2;have R:=Low.fact g3;have N:=Low.fact (cX 0 r rfl:w4.cell? ⟨w.heap.size,0,none⟩=some (O qL px));have K:=Low.fact (cX 1 r rfl:w4.cell? ⟨w.heap.size,1,none⟩=some (O qL py));have M:=Low.fact (cX 0 L0 rfl:w4.cell? ⟨G.heap.size,0,none⟩=some (O qL lx));have S:=Low.fact (cX 1 L0 rfl:w4.cell? ⟨G.heap.size,1,none⟩=some (O qL ly));have J:=Low.fact (cX 0 V rfl:w4.cell? ⟨G.heap.size+1,0,none⟩=some (O qL hx));have I:=Low.fact (cX 1 V rfl:w4.cell? ⟨G.heap.size+1,1,none⟩=some (O qL hy));have k:=qH f;have i:=qH d;clear r f d L0 V g0 g1 g2 g3;by_cases c0:T=0
 ·have d0 : (T == 0) = true := by simpa using c0
  by_cases c1:lx<=px
  ·have d1:decide (lx<=px)=true:=by simpa using c1
   by_cases c2:px<=hx
   ·have d2:decide (px<=hx)=true:=by simpa using c2
    by_cases c3:ly<=py
    ·have d3:decide (ly<=py)=true:=by simpa using c3
     by_cases c4:py<=hy
     ·have d4:decide (py<=hy)=true:=by simpa using c4
      have F:=qH (show inside l x=true by rw [m.out.2.1];exact decide_eq_true ⟨c0,c1,c2,c3,c4⟩)
      clear c0 c1 c2 c3 c4
      (refine (wpIn_wide (n:=9)).1 ?_;refine Zn (Zk _) 40 (by kernel_rfl) (by kernel_rfl) (by kernel_rfl) ?_;simp only [List.take_succ_cons,List.take_zero,List.drop_succ_cons,List.drop_zero];(iterate 40 (apply qw3;(case hw=>rfl);(case hval=>(intro g hw1 hcx;simp only [Oper.quietAt];go_simp;first | done | (first | (go_at_call 66;exact Low.calls hw1 (m.out.1 _))) | rfl | exact⟨rfl,rfl⟩));simp only [pT]));refine wpQuiet_nil ?_;intro c hw2)
      have f:=k.out.below hw2.out (by omega)
      have d:=i.out.below hw2.out (by omega)
      have C:=qH (q.out.trans (hw2.out.mono q.out.size));have E:c.cell? ⟨w.heap.size+1,0,none⟩=some (qB false):=cX 0 f rfl;have r1:=Ze f 0;have A:c.cell? ⟨w.heap.size+1+1,0,none⟩=some (O qL 0):=cX 0 d rfl;have X:=Ze d 0;clear hw2 U L P R N K M S J I;gi_wp2;go_wp2;have B:=World.cell?_setCell_same' c ⟨w.heap.size+1,0,none⟩ (qB true) (by rw [E];rfl)
      have z:=World.cell?_setCell_same' (c.setCell ⟨w.heap.size+1,0,none⟩ (qB true)) ⟨w.heap.size+1+1,0,none⟩ (O qL 0) (by rw [World.cell?_setCell_other _ _ _ _ (by simp),A];rfl)
      exact⟨qT #[qB true,O qL 0],by simp [results,Tryz.f27,go_sem,B,z],by rw [F.out],(C.out.setCell (p:=⟨w.heap.size+1,0,none⟩) (by simp) _).setCell (p:=⟨w.heap.size+1+1,0,none⟩) (by simp;omega) _⟩
     ·have d4:decide (py<=hy)=false:=by simpa using c4
      have F:=qH (show inside l x=false by rw [m.out.2.1];exact decide_eq_false (fun h=>c4 h.2.2.2.2))
      clear c0 c1 c2 c3 c4
      (refine (wpIn_wide (n:=9)).1 ?_;refine Zn (Zk _) 40 (by kernel_rfl) (by kernel_rfl) (by kernel_rfl) ?_;simp only [List.take_succ_cons,List.take_zero,List.drop_succ_cons,List.drop_zero];(iterate 40 (apply qw3;(case hw=>rfl);(case hval=>(intro g hw1 hcx;simp only [Oper.quietAt];go_simp;first | done | (first | (go_at_call 66;exact Low.calls hw1 (m.out.1 _))) | rfl | exact⟨rfl,rfl⟩));simp only [pT]));refine wpQuiet_nil ?_;intro c hw2)
      have f:=k.out.below hw2.out (by omega)
      have d:=i.out.below hw2.out (by omega)
      have C:=qH (q.out.trans (hw2.out.mono q.out.size));have E:c.cell? ⟨w.heap.size+1,0,none⟩=some (qB false):=cX 0 f rfl;have r1:=Ze f 0;have A:c.cell? ⟨w.heap.size+1+1,0,none⟩=some (O qL 0):=cX 0 d rfl;have X:=Ze d 0;clear hw2 U L P R N K M S J I;gi_wp2;go_wp2;have B:=World.cell?_setCell_same' c ⟨w.heap.size+1,0,none⟩ (qB false) (by rw [E];rfl)
      have z:=World.cell?_setCell_same' (c.setCell ⟨w.heap.size+1,0,none⟩ (qB false)) ⟨w.heap.size+1+1,0,none⟩ (O qL 0) (by rw [World.cell?_setCell_other _ _ _ _ (by simp),A];rfl)
      exact⟨qT #[qB false,O qL 0],by simp [results,Tryz.f27,go_sem,B,z],by rw [F.out],(C.out.setCell (p:=⟨w.heap.size+1,0,none⟩) (by simp) _).setCell (p:=⟨w.heap.size+1+1,0,none⟩) (by simp;omega) _⟩
    ·have d3:decide (ly<=py)=false:=by simpa using c3
     have F:=qH (show inside l x=false by rw [m.out.2.1];exact decide_eq_false (fun h=>c3 h.2.2.2.1))
     clear c0 c1 c2 c3
     (refine (wpIn_wide (n:=9)).1 ?_;refine Zn (Zk _) 40 (by kernel_rfl) (by kernel_rfl) (by kernel_rfl) ?_;simp only [List.take_succ_cons,List.take_zero,List.drop_succ_cons,List.drop_zero];(iterate 34 (apply qw3;(case hw=>rfl);(case hval=>(intro g hw1 hcx;simp only [Oper.quietAt];go_simp;first | done | (first | (go_at_call 66;exact Low.calls hw1 (m.out.1 _))) | rfl | exact⟨rfl,rfl⟩));simp only [pT]));(iterate 5 (apply Zr;(case hw=>rfl);simp only [pT]));(iterate 1 (apply qw3;(case hw=>rfl);(case hval=>(intro g hw1 hcx;simp only [Oper.quietAt];go_simp;first | done | (first | (go_at_call 66;exact Low.calls hw1 (m.out.1 _))) | rfl | exact⟨rfl,rfl⟩));simp only [pT]));refine wpQuiet_nil ?_;intro c hw2)
     have f:=k.out.below hw2.out (by omega)
     have d:=i.out.below hw2.out (by omega)
     have C:=qH (q.out.trans (hw2.out.mono q.out.size));have E:c.cell? ⟨w.heap.size+1,0,none⟩=some (qB false):=cX 0 f rfl;have r1:=Ze f 0;have A:c.cell? ⟨w.heap.size+1+1,0,none⟩=some (O qL 0):=cX 0 d rfl;have X:=Ze d 0;clear hw2 U L P R N K M S J I;gi_wp2;go_wp2;have B:=World.cell?_setCell_same' c ⟨w.heap.size+1,0,none⟩ (qB false) (by rw [E];rfl)
     have z:=World.cell?_setCell_same' (c.setCell ⟨w.heap.size+1,0,none⟩ (qB false)) ⟨w.heap.size+1+1,0,none⟩ (O qL 0) (by rw [World.cell?_setCell_other _ _ _ _ (by simp),A];rfl)
     exact⟨qT #[qB false,O qL 0],by simp [results,Tryz.f27,go_sem,B,z],by rw [F.out],(C.out.setCell (p:=⟨w.heap.size+1,0,none⟩) (by simp) _).setCell (p:=⟨w.heap.size+1+1,0,none⟩) (by simp;omega) _⟩
   ·have d2:decide (px<=hx)=false:=by simpa using c2
    have F:=qH (show inside l x=false by rw [m.out.2.1];exact decide_eq_false (fun h=>c2 h.2.2.1))
    clear c0 c1 c2
    (refine (wpIn_wide (n:=9)).1 ?_;refine Zn (Zk _) 40 (by kernel_rfl) (by kernel_rfl) (by kernel_rfl) ?_;simp only [List.take_succ_cons,List.take_zero,List.drop_succ_cons,List.drop_zero];(iterate 27 (apply qw3;(case hw=>rfl);(case hval=>(intro g hw1 hcx;simp only [Oper.quietAt];go_simp;first | done | (first | (go_at_call 66;exact Low.calls hw1 (m.out.1 _))) | rfl | exact⟨rfl,rfl⟩));simp only [pT]));(iterate 5 (apply Zr;(case hw=>rfl);simp only [pT]));(iterate 2 (apply qw3;(case hw=>rfl);(case hval=>(intro g hw1 hcx;simp only [Oper.quietAt];go_simp;first | done | (first | (go_at_call 66;exact Low.calls hw1 (m.out.1 _))) | rfl | exact⟨rfl,rfl⟩));simp only [pT]));(iterate 5 (apply Zr;(case hw=>rfl);simp only [pT]));(iterate 1 (apply qw3;(case hw=>rfl);(case hval=>(intro g hw1 hcx;simp only [Oper.quietAt];go_simp;first | done | (first | (go_at_call 66;exact Low.calls hw1 (m.out.1 _))) | rfl | exact⟨rfl,rfl⟩));simp only [pT]));refine wpQuiet_nil ?_;intro c hw2)
    have f:=k.out.below hw2.out (by omega)
    have d:=i.out.below hw2.out (by omega)
    have C:=qH (q.out.trans (hw2.out.mono q.out.size));have E:c.cell? ⟨w.heap.size+1,0,none⟩=some (qB false):=cX 0 f rfl;have r1:=Ze f 0;have A:c.cell? ⟨w.heap.size+1+1,0,none⟩=some (O qL 0):=cX 0 d rfl;have X:=Ze d 0;clear hw2 U L P R N K M S J I;gi_wp2;go_wp2;have B:=World.cell?_setCell_same' c ⟨w.heap.size+1,0,none⟩ (qB false) (by rw [E];rfl)
    have z:=World.cell?_setCell_same' (c.setCell ⟨w.heap.size+1,0,none⟩ (qB false)) ⟨w.heap.size+1+1,0,none⟩ (O qL 0) (by rw [World.cell?_setCell_other _ _ _ _ (by simp),A];rfl)
    exact⟨qT #[qB false,O qL 0],by simp [results,Tryz.f27,go_sem,B,z],by rw [F.out],(C.out.setCell (p:=⟨w.heap.size+1,0,none⟩) (by simp) _).setCell (p:=⟨w.heap.size+1+1,0,none⟩) (by simp;omega) _⟩
  ·have d1:decide (lx<=px)=false:=by simpa using c1
   have F:=qH (show inside l x=false by rw [m.out.2.1];exact decide_eq_false (fun h=>c1 h.2.1))
   clear c0 c1
   (refine (wpIn_wide (n:=9)).1 ?_;refine Zn (Zk _) 40 (by kernel_rfl) (by kernel_rfl) (by kernel_rfl) ?_;simp only [List.take_succ_cons,List.take_zero,List.drop_succ_cons,List.drop_zero];(iterate 20 (apply qw3;(case hw=>rfl);(case hval=>(intro g hw1 hcx;simp only [Oper.quietAt];go_simp;first | done | (first | (go_at_call 66;exact Low.calls hw1 (m.out.1 _))) | rfl | exact⟨rfl,rfl⟩));simp only [pT]));(iterate 5 (apply Zr;(case hw=>rfl);simp only [pT]));(iterate 2 (apply qw3;(case hw=>rfl);(case hval=>(intro g hw1 hcx;simp only [Oper.quietAt];go_simp;first | done | (first | (go_at_call 66;exact Low.calls hw1 (m.out.1 _))) | rfl | exact⟨rfl,rfl⟩));simp only [pT]));(iterate 5 (apply Zr;(case hw=>rfl);simp only [pT]));(iterate 2 (apply qw3;(case hw=>rfl);(case hval=>(intro g hw1 hcx;simp only [Oper.quietAt];go_simp;first | done | (first | (go_at_call 66;exact Low.calls hw1 (m.out.1 _))) | rfl | exact⟨rfl,rfl⟩));simp only [pT]));(iterate 5 (apply Zr;(case hw=>rfl);simp only [pT]));(iterate 1 (apply qw3;(case hw=>rfl);(case hval=>(intro g hw1 hcx;simp only [Oper.quietAt];go_simp;first | done | (first | (go_at_call 66;exact Low.calls hw1 (m.out.1 _))) | rfl | exact⟨rfl,rfl⟩));simp only [pT]));refine wpQuiet_nil ?_;intro c hw2)
   have f:=k.out.below hw2.out (by omega)
   have d:=i.out.below hw2.out (by omega)
   have C:=qH (q.out.trans (hw2.out.mono q.out.size));have E:c.cell? ⟨w.heap.size+1,0,none⟩=some (qB false):=cX 0 f rfl;have r1:=Ze f 0;have A:c.cell? ⟨w.heap.size+1+1,0,none⟩=some (O qL 0):=cX 0 d rfl;have X:=Ze d 0;clear hw2 U L P R N K M S J I;gi_wp2;go_wp2;have B:=World.cell?_setCell_same' c ⟨w.heap.size+1,0,none⟩ (qB false) (by rw [E];rfl)
   have z:=World.cell?_setCell_same' (c.setCell ⟨w.heap.size+1,0,none⟩ (qB false)) ⟨w.heap.size+1+1,0,none⟩ (O qL 0) (by rw [World.cell?_setCell_other _ _ _ _ (by simp),A];rfl)
   exact⟨qT #[qB false,O qL 0],by simp [results,Tryz.f27,go_sem,B,z],by rw [F.out],(C.out.setCell (p:=⟨w.heap.size+1,0,none⟩) (by simp) _).setCell (p:=⟨w.heap.size+1+1,0,none⟩) (by simp;omega) _⟩
 ·have d0:(T == 0)=false:=by simpa using c0
  have F:=qH (show inside l x=false by rw [m.out.2.1];exact decide_eq_false (fun h=>c0 h.1))
  clear c0
  (refine (wpIn_wide (n:=9)).1 ?_;refine Zn (Zk _) 40 (by kernel_rfl) (by kernel_rfl) (by kernel_rfl) ?_;simp only [List.take_succ_cons,List.take_zero,List.drop_succ_cons,List.drop_zero];(iterate 13 (apply qw3;(case hw=>rfl);(case hval=>(intro g hw1 hcx;simp only [Oper.quietAt];go_simp;first | done | (first | (go_at_call 66;exact Low.calls hw1 (m.out.1 _))) | rfl | exact⟨rfl,rfl⟩));simp only [pT]));(iterate 5 (apply Zr;(case hw=>rfl);simp only [pT]));(iterate 2 (apply qw3;(case hw=>rfl);(case hval=>(intro g hw1 hcx;simp only [Oper.quietAt];go_simp;first | done | (first | (go_at_call 66;exact Low.calls hw1 (m.out.1 _))) | rfl | exact⟨rfl,rfl⟩));simp only [pT]));(iterate 5 (apply Zr;(case hw=>rfl);simp only [pT]));(iterate 2 (apply qw3;(case hw=>rfl);(case hval=>(intro g hw1 hcx;simp only [Oper.quietAt];go_simp;first | done | (first | (go_at_call 66;exact Low.calls hw1 (m.out.1 _))) | rfl | exact⟨rfl,rfl⟩));simp only [pT]));(iterate 5 (apply Zr;(case hw=>rfl);simp only [pT]));(iterate 2 (apply qw3;(case hw=>rfl);(case hval=>(intro g hw1 hcx;simp only [Oper.quietAt];go_simp;first | done | (first | (go_at_call 66;exact Low.calls hw1 (m.out.1 _))) | rfl | exact⟨rfl,rfl⟩));simp only [pT]));(iterate 5 (apply Zr;(case hw=>rfl);simp only [pT]));(iterate 1 (apply qw3;(case hw=>rfl);(case hval=>(intro g hw1 hcx;simp only [Oper.quietAt];go_simp;first | done | (first | (go_at_call 66;exact Low.calls hw1 (m.out.1 _))) | rfl | exact⟨rfl,rfl⟩));simp only [pT]));refine wpQuiet_nil ?_;intro c hw2)
  have f:=k.out.below hw2.out (by omega)
  have d:=i.out.below hw2.out (by omega)
  have C:=qH (q.out.trans (hw2.out.mono q.out.size));have E:c.cell? ⟨w.heap.size+1,0,none⟩=some (qB false):=cX 0 f rfl;have r1:=Ze f 0;have A:c.cell? ⟨w.heap.size+1+1,0,none⟩=some (O qL 0):=cX 0 d rfl;have X:=Ze d 0;clear hw2 U L P R N K M S J I;gi_wp2;go_wp2;have B:=World.cell?_setCell_same' c ⟨w.heap.size+1,0,none⟩ (qB false) (by rw [E];rfl)
  have z:=World.cell?_setCell_same' (c.setCell ⟨w.heap.size+1,0,none⟩ (qB false)) ⟨w.heap.size+1+1,0,none⟩ (O qL 0) (by rw [World.cell?_setCell_other _ _ _ _ (by simp),A];rfl)
  exact⟨qT #[qB false,O qL 0],by simp [results,Tryz.f27,go_sem,B,z],by rw [F.out],(C.out.setCell (p:=⟨w.heap.size+1,0,none⟩) (by simp) _).setCell (p:=⟨w.heap.size+1+1,0,none⟩) (by simp;omega) _⟩
theorem Zd4 (v : Value) (l : List Pt) (x : Pt) (w : World) (hp : Z7 w.heap.size w v l) (hV : Zb l = true) (hX : Z3 x = true) (h3 : ¬ l.length < 3) :
  Calls Tryz.prog 27 #[v,.agg #[O qL x.x,O qL x.y]] w fun e w'=>e=.returned (qT #[qB (inside l x),O qL 0])/\Below w.heap.size w w':=by
 have GV:GoValid l:=by simpa [Zb] using hV
 have hl1:=GV.1;have W1:Below w.heap.size w (((w.alloc (qC #[O qL x.x,O qL x.y] 36)).alloc (qC #[qB false] 4)).alloc (qC #[O qL 0] 30)):=(((qK _ _).alloc (qN _) _).alloc (by first | omega | (simp;done) | (simp;omega)) _).alloc (by simp;omega) _
 have hv:=qH (hV ▸ Zs v l _ ((hp.below W1).mono W1.size));have H0:=(Has.new w #[O qL x.x,O qL x.y] 36).below (((qK (w.heap.size+1) _).alloc (by simp) (qC #[qB false] 4)).alloc (by simp) (qC #[O qL 0] 30)) (by omega)
 have H1:=(Has.new (w.alloc (qC #[O qL x.x,O qL x.y] 36)) #[qB false] 4).below ((qK (w.heap.size+2) _).alloc (by simp) (qC #[O qL 0] 30)) (by simp)
 have H2:=Has.new ((w.alloc (qC #[O qL x.x,O qL x.y] 36)).alloc (qC #[qB false] 4)) #[O qL 0] 30;simp only [World.size_alloc] at H1 H2;have H0':=qH H0;have H1':=qH H1;have H2':=qH H2;have W1':=qH W1;have HP:=qH hp;obtain⟨N,a,f,rfl,hc⟩:=hp;have hpl:∀ i,Z3 (sideP l i).1=true/\Z3 (sideP l i).2=true:=fun i=>⟨Z0i (fun k hk=>(GV.2.2.1 k hk).1) _,Z0i (fun k hk=>(GV.2.2.1 k hk).1) _⟩
 have HPL:=qH hpl;have plx:=Zt hX;have hR:inside l x=decide (∀ i,i<l.length->0<=Z5 (sideP l i).1 (sideP l i).2 x):=by
  unfold inside;rw [if_neg h3]
 have hpx:placeB x.x x.y=true:=hX;have HT:=qH (qI hR hpx);have d3:decide ((l.length:Int)<3)=false:=by simp;omega
 have hxe:x=⟨x.x,x.y⟩:=rfl;rw [hxe] at hR;clear W1 H0 H1 H2 hc GV hpl hR hpx hX hV hxe;obtain⟨z,A⟩:=x;dsimp only at *;refine (callsIn_wide (n:=9)).1 ?_;refine callsIn_of_wp_marks Tryz.func27 rfl trivial ?_ rfl;simp only [Tryz.ntmps27,List.size_toArray,List.length_cons,List.length_nil,Nat.reduceAdd,Nat.reduceSub,Array.replicate_succ,Array.replicate_zero,List.push_toArray,List.append_toArray,List.nil_append,List.cons_append];refine wpIn_wide.2 ?_;go_wp2_with fail;refine hv.out.mono ?_;rintro e w1 ⟨rfl,o⟩;have V:=H0'.out.below (o.mono (by simp):Below (w.heap.size+3) _ w1) (by omega)
 have u:=H1'.out.below (o.mono (by simp):Below (w.heap.size+3) _ w1) (by omega)
 have m:=H2'.out.below (o.mono (by simp):Below (w.heap.size+3) _ w1) (by omega)
 have I:=qH (W1'.out.trans (o.mono W1'.out.size));have hz:=o.size;simp at hz;clear o;have x0:w1.cell? ⟨w.heap.size,0,none⟩=some (O qL z):=cX 0 V rfl;have x1:w1.cell? ⟨w.heap.size,1,none⟩=some (O qL A):=cX 1 V rfl;have R:=qH V;have U:=qH u;have Q:=qH m;clear V u m;go_wp2_with fail;refine (Z0r _ _ _ HT.out.2).mono ?_;rintro e B ⟨rfl,t⟩;have V:=R.out.below t (by omega)
 have u:=U.out.below t (by omega)
 have m:=Q.out.below t (by omega)
 have F:=zAd I t;have hz2:=t.size;have R:=qH V;have U:=qH u;have Q:=qH m;clear V u m t x0 x1;go_wp2_with (go_at_call 67;refine (Z5C _ _ _ _).mono ?_;rintro e w' ⟨rfl,rfl⟩);have h:(B.alloc (qC #[(.slice a l.length (l.length+f))] 23)).heap.size=B.heap.size+1:=by simp
 have E:=(qK B.heap.size B).alloc (qN _) (qC #[(.slice a l.length (l.length+f))] 23);have bN:=Boxed.new B 23 (.slice a l.length (l.length+f));obtain⟨T,hW0⟩:∃ T,(B.alloc (qC #[(.slice a l.length (l.length+f))] 23))=T:=⟨_,rfl⟩;rw [hW0] at h E bN ⊢;clear hW0;have BW:Below w.heap.size w T:=F.out.trans (E.mono F.out.size);have C0:=qH (R.out.below E (by omega))
 have C1:=qH (U.out.below E (by omega))
 have C2:=qH (Q.out.below E (by omega))
 have hI:Z7 (B.heap.size+1) T (.slice a l.length (l.length+f)) l:=Z7.mono (Z7.below BW HP.out) (by omega)
 refine (wpIn_wide (n:=9)).1 ?_;refine wpIn_rangeFunc_ownH rfl (by omega) (gf:=117) (lb:=#[.pointer (some ⟨B.heap.size,0,none⟩)]) rfl trivial (enters_of Tryz.func117 (by kernel_rfl) rfl)
  (Z3l (fun s:PlS=>encS s.1) (fun i=>⟨sideP l i,HPL.out i⟩) 8 (by omega) B.heap.size (B.heap.size+1) _ l _ (by omega) (by rw [h];omega) bN.cell hI (fun _ _=>rfl)) belowK_t (belowK_b (by rw [h];omega)) (qK _ _) (fun _=>rfl)
  (fun q W=>Below B.heap.size T W/\∀ s ∈ q,0<=Z5 s.1.1 s.1.2 ⟨z,A⟩)
  (fun c q W=>((Boxed W (w.heap.size+1) 4 (qB false)/\Boxed W (w.heap.size+1+1) 30 (O qL 0))/\(c=.ret/\∃ s ∈ q,Z5 s.1.1 s.1.2 ⟨z,A⟩<0))/\Below w.heap.size T W)
  (OwnFrom.and (ownFrom_below (by rw [h];omega) (by rw [h];omega)) (ownFrom_pure _ _))
  (fun c=>OwnFrom.and (OwnFrom.and (OwnFrom.and (Own.from (boxed_own _ _ (fun _=>_)) _) (Own.from (boxed_own _ _ (fun _=>_)) _)) (ownFrom_pure _ _)) (ownFrom_below (by rw [h];omega) (by rw [h];omega)))
  ⟨qK _ _,by simp⟩
  (fun x a' W=>∃ I F,(Has W I #[O qL x.1.1.x,O qL x.1.1.y] 36/\Has W F #[O qL x.1.2.x,O qL x.1.2.y] 36)/\a'={ tmps:=#[.slice a l.length (l.length+f),.agg #[O qL z,O qL A],qD,.pointer (some ⟨w.heap.size,0,none⟩),.pointer (some ⟨w.heap.size+1,0,none⟩),.pointer (some ⟨w.heap.size+1+1,0,none⟩),qD,qD,qD,.pointer (some ⟨I,0,none⟩),.pointer (some ⟨F,0,none⟩),.slice a l.length (l.length+f),qB true,qB false,qB false,.agg #[O qL z,O qL A],qB true,qB false,qB false,.slice a l.length (l.length+f),O qL (l.length:Int),qB false,qD,qD,qD,qD,qD,qD,qD,qD,qD,qD,qD,qD,qD,qD,qD,qD,qD,qD,qD,qD,qD,qD,qD,qD,qD,qD,qD,qD,qD,qD,qD,qD,qD,qD,qD,qD,qD,qD,qD,qD,qD,qD,qD,qD,qD,qD,.slice a l.length (l.length+f),.func (.func 117) #[] #[.pointer (some ⟨B.heap.size,0,none⟩)],.agg #[O qL x.1.1.x,O qL x.1.1.y],.agg #[O qL x.1.2.x,O qL x.1.2.y],qD,qD,qD,qD,qD],defers:=[] })
  (fun x a' _ X Y row hs hg C=>by obtain⟨I,F,⟨g1,g2⟩,g3⟩:=hs;exact⟨I,F,⟨Z0v g1 hg (fun r e=>(C r e).2),Z0v g2 hg (fun r e=>(C r e).2)⟩,g3⟩)
  ?assign ?body ?done ?stop
 case assign =>
  rintro ll q x W K ⟨b,j⟩ J;unfold encS;gi_wp2;have L:=b.size;exact J _ _ (((KeepsOthers.alloc _ _).trans (KeepsOthers.alloc _ _)).from _) (((qK _ W).alloc (by omega) _).alloc (by simp;omega) _)
   ⟨(b.alloc (by omega) _).alloc (by simp;omega) _,j⟩
   ⟨W.heap.size,W.heap.size+1,⟨Has.below (Has.new W _ _) ((qK (W.heap.size+1) _).alloc (by simp) _) (by omega),by have:=Has.new (W.alloc (qC #[O qL x.1.1.x,O qL x.1.1.y] 36)) #[O qL x.1.2.x,O qL x.1.2.y] 36;rwa [World.size_alloc] at this⟩,rfl⟩
 case body =>
  rintro ll q ⟨⟨⟨M,Z⟩,⟨P,g⟩⟩,G⟩ a' W N ⟨r,C⟩ ⟨b,j⟩ ⟨I,F,⟨g1,g2⟩,rfl⟩ hlt
  dsimp only at g1 g2 ⊢;have pa:=Zt G.1;have pb:=Zt G.2;have px':=Zt HT.out.2;dsimp only at pa pb;obtain⟨S,hS⟩:∃ S:PlS,S=⟨(⟨M,Z⟩,⟨P,g⟩),G⟩:=⟨_,rfl⟩
  rw [<- hS];have HS:Hid (S.1=(⟨M,Z⟩,⟨P,g⟩)):=by show S.1=_;rw [hS]
  clear hS;have L:=b.size;have D0:=C0.out.below b (by omega)
  have D1:=C1.out.below b (by omega)
  have D2:=C2.out.below b (by omega)
  have k0:W.cell? ⟨w.heap.size,0,none⟩=some (O qL z):=cX 0 D0 rfl;have k1:W.cell? ⟨w.heap.size,1,none⟩=some (O qL A):=cX 1 D0 rfl;have k2:W.cell? ⟨I,0,none⟩=some (O qL M):=cX 0 g1 rfl;have k3:W.cell? ⟨I,1,none⟩=some (O qL Z):=cX 1 g1 rfl;have k4:W.cell? ⟨F,0,none⟩=some (O qL P):=cX 0 g2 rfl;have k5:W.cell? ⟨F,1,none⟩=some (O qL g):=cX 1 g2 rfl
  have hll':=qH N;have hr':=qH C;have hlt':=qH hlt;have hBB:=qH b;have hpp:=qH j;have hDD:=qH (qI D1 D2);have BWW:=qH (BW.trans (b.mono (by omega)))
  clear N C hlt G g1 g2 D0 D1 D2 b j;by_cases ht:turnV M Z P g z A<0
  ·have dt:decide (turnV M Z P g z A<0)=true:=by simpa using ht
   have Ht:=qH ht;clear ht
   gi_wp2_with (refine⟨trivial,?_⟩;gi_at_call 66;refine (CallsIn.inRound ll (callsIn_wide.2 (Z1E _ _ _ _ _ _ _ (by omega) (by omega) (by omega) (by omega) (by omega) (by omega) (by omega) (by omega) (by omega) (by omega) (by omega) (by omega)))).mono ?_;rintro e w4 ⟨rfl,d⟩;have u:=hDD.out.1.below d (by omega);have m:=hDD.out.2.below d (by omega);have r0:w4.cell? ⟨w.heap.size+1,0,none⟩=some (qB false):=cX 0 u rfl;have r1:=Ze u 0;have e0:w4.cell? ⟨w.heap.size+1+1,0,none⟩=some (O qL 0):=cX 0 m rfl;have e1:=Ze m 0)
   have hz4:=d.size;have A1b:Boxed w4 (w.heap.size+1) 4 (qB false):=u;have A2b:Boxed w4 (w.heap.size+1+1) 30 (O qL 0):=m;refine⟨(ZE d).trans (((KeepsOthers.setCell _ _ _).trans (KeepsOthers.setCell _ _ _)).from _),⟨⟨(A1b.set (qB false)).other (by omega) _,(A2b.other (by omega) _).set _⟩,rfl,S,by simp,?_⟩,?_⟩
   ·rw [HS.out]
    exact Ht.out
   ·exact ((((hBB.out.mono (by omega):Below w.heap.size T W)).trans (d.mono (by omega))).setCell (p:=⟨w.heap.size+1,0,none⟩) (by simp) _).setCell (p:=⟨w.heap.size+1+1,0,none⟩) (by simp;omega) _
  ·have dt:decide (turnV M Z P g z A<0)=false:=by simpa using ht
   have Ht:=qH ht;clear ht
   gi_wp2_with (refine⟨trivial,?_⟩;gi_at_call 66;refine (CallsIn.inRound ll (callsIn_wide.2 (Z1E _ _ _ _ _ _ _ (by omega) (by omega) (by omega) (by omega) (by omega) (by omega) (by omega) (by omega) (by omega) (by omega) (by omega) (by omega)))).mono ?_;rintro e w4 ⟨rfl,d⟩)
   refine⟨ZE d,d.mono (by omega),hBB.out.trans (d.mono (by omega)),fun s hs=>?_⟩
   rcases List.mem_append.1 hs with hs | hs
   ·exact hpp.out s hs
   ·obtain rfl:s=S:=by simpa using hs
    rw [HS.out];have:=Ht.out
    show 0<=turnV M Z P g z A
    omega
 case done =>
  rintro D ys W hD rfl ⟨b,j⟩ J;have C:inside l ⟨z,A⟩=true:=by
   rw [HT.out.1];exact decide_eq_true (fun i hi=>j ⟨sideP l i,HPL.out i⟩ (Z1I.2 ⟨i,hi,rfl⟩))
  have HR:=qH C;have L:=b.size;have u:=C1.out.below b (by omega)
  have m:=C2.out.below b (by omega)
  clear C j;have r0:W.cell? ⟨w.heap.size+1,0,none⟩=some (qB false):=cX 0 u rfl;have r1:=Ze u 0;have e0:W.cell? ⟨w.heap.size+1+1,0,none⟩=some (O qL 0):=cX 0 m rfl;have e1:=Ze m 0;have H:=((KeepsOthers.setCell W ⟨w.heap.size+1,0,none⟩ (qB true)).trans (KeepsOthers.setCell _ ⟨w.heap.size+1+1,0,none⟩ (O qL 0))).same D _ J rfl;have z1:=World.cell?_setCell_same' W ⟨w.heap.size+1,0,none⟩ (qB true) (by rw [r0];rfl)
  have z1':((W.setCell ⟨w.heap.size+1,0,none⟩ (qB true)).setCell ⟨w.heap.size+1+1,0,none⟩ (O qL 0)).cell? ⟨w.heap.size+1,0,none⟩=some (qB true):=by rw [World.cell?_setCell_other _ _ _ _ (by simp)];exact z1
  have z2:=World.cell?_setCell_same' (W.setCell ⟨w.heap.size+1,0,none⟩ (qB true)) ⟨w.heap.size+1+1,0,none⟩ (O qL 0) (by rw [World.cell?_setCell_other _ _ _ _ (by simp),e0];rfl)
  have y1:=cell_kept z1' (grownBy_putObj' _ D (.deferred none)) (fun r e=>by cases e;exact⟨_,H,rfl⟩)
  have y2:=cell_kept z2 (grownBy_putObj' _ D (.deferred none)) (fun r e=>by cases e;exact⟨_,H,rfl⟩)
  have HK:=qH H;have HC:=qH (qI y1 y2);have HBL:=qH ((BW.trans (b.mono (by omega)):Below w.heap.size w W))
  clear H z1 z1' z2 y1 y2 u m;go_wp2;refine⟨by simp,.inl ⟨_,_,rfl,run_takeDeferred HK.out,?_⟩⟩
  refine⟨qT #[qB true,O qL 0],by simp [results,Tryz.f27,go_sem,HC.out.1,HC.out.2],by rw [HR.out],?_⟩
  exact ((HBL.out.setCell (p:=⟨w.heap.size+1,0,none⟩) (by simp) _).setCell (p:=⟨w.heap.size+1+1,0,none⟩) (by simp;omega) _).trans (belowK_b (w:=w) (qN _) _ D _ _ (by omega) HK.out rfl rfl)
 case stop =>
  rintro D c q W hD ⟨k2,hk2,rfl⟩ ⟨⟨⟨bR1,bR2⟩,rfl,s,hs,hns⟩,b⟩ J;have C:inside l ⟨z,A⟩=false:=by
   rw [HT.out.1];refine decide_eq_false fun h4=>?_
   obtain⟨i,hi,rfl⟩:=Z1I.1 hs;have:=h4 i (by omega)
   dsimp only at hns;omega
  have HR:=qH C;have L:=b.size;clear C hns hs;have y1:=cell_kept bR1.cell (grownBy_putObj' _ D (.deferred none)) (fun r e=>by cases e;exact⟨_,J,rfl⟩)
  have y2:=cell_kept bR2.cell (grownBy_putObj' _ D (.deferred none)) (fun r e=>by cases e;exact⟨_,J,rfl⟩)
  have HK:=qH J;have HC:=qH (qI y1 y2);clear J y1 y2;refine wpIn_wide.2 ?_;go_wp2;refine⟨by simp,.inl ⟨_,_,rfl,run_takeDeferred HK.out,?_⟩⟩
  refine⟨qT #[qB false,O qL 0],by simp [results,Tryz.f27,go_sem,HC.out.1,HC.out.2],by rw [HR.out],?_⟩
  exact (BW.trans b).trans (belowK_b (w:=w) (qN _) _ D _ _ (by omega) HK.out rfl rfl)
noncomputable def hasB (l:List Pt) (x:Pt):Bool:=Zb l && Z3 x && inside l x
noncomputable def hasE (l:List Pt) (x:Pt):Int:=if (Zb l && Z3 x)=true then 0 else 1
theorem Z3O (v:Value) (l:List Pt) (x:Pt) (w:World) (hp:Z7 w.heap.size w v l) :
  Calls Tryz.prog 27 #[v,.agg #[O qL x.x,O qL x.y]] w fun e w'=>e=.returned (qT #[qB (hasB l x),O qL (hasE l x)])/\Below w.heap.size w w':=by
 unfold hasB hasE;cases h:(Zb l && Z3 x)
 ·simp only [Bool.false_and,Bool.false_eq_true,if_false]
  exact Zd5 v l x w hp h
 ·simp only [Bool.true_and,if_true]
  simp only [Bool.and_eq_true] at h;by_cases h3:l.length<3
  ·exact Zah v l x w hp h.1 h.2 h3
  ·exact Zd4 v l x w hp h.1 h.2 h3
end
end Go.Proofs.YthipcinibldgnaaGreat
