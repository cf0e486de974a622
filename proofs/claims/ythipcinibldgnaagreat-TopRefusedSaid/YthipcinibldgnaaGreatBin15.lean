/- package hull: Box. | package hull: Has. -/
import Derived.Deep.CutRange
import Derived.Test.YthipcinibldgnaaGreatBin14
import Derived.Test.YthipcinibldgnaaGreatBin07
open Go.Value renaming int->O,bool->qB,tuple->qT
open Go.Obj renaming cells->qC
open Go.IntKind renaming i64->qL
open Go.Lib renaming hid->qH
open Go.RowKit.Below renaming refl->qK
open Nat renaming le_refl->qN
open And renaming intro->qI
open Go.Act renaming put->qJ
open Go renaming undef->qD
set_option linter.unusedSimpArgs false
set_option maxRecDepth 8000
set_option maxHeartbeats 3000000
namespace Go.Proofs.YthipcinibldgnaaGreat
section
open Go.RowKit
theorem zAf {a b c:World} (p:Hid (Below a.heap.size a b)) (q:Below b.heap.size b c):Hid (Below a.heap.size a c):=qH (p.out.trans (q.mono p.out.size))
end
section
attribute [local irreducible] wpQuiet
open Go.RowKit
def boxL (l:List Pt):Pt:=⟨loTo bxF1 l l.length,loTo bxF2 l l.length⟩
def boxH (l:List Pt):Pt:=⟨hiTo bxF1 l l.length,hiTo bxF2 l l.length⟩
theorem Has.other {W:World} {B:Nat} {cs:Array Value} {t:TypeId} (h:Has W B cs t) (p:Addr) (v:Value) (hne:B≠p.block):Has (W.setCell p v) B cs t:=(Below.heap_setCell W p v B hne).trans h
theorem Has.same {W:World} {B:Nat} {cs:Array Value} {t:TypeId} (h:Has W B cs t):W.setRow B cs=W:=by
 have hlt:=h.lt;have hv:W.heap[B]=qC cs t (0,0):=(Array.getElem?_eq_some_iff.1 h).2;unfold World.setRow;cases W with
 | mk heap tape drawn os output =>
  congr 1
  apply Array.ext
  ·simp
  ·intro k h1 h2
   simp only [Array.getElem_modify]
   split
   ·rename_i hk;subst hk;simp at hv;simp [hv]
   ·rfl
theorem ZcF (v:Value) (l:List Pt) (w:World) (hp:Z7 w.heap.size w v l) (hE:Zb l=true) :
  Calls Tryz.prog 65 #[v] w fun e w'=>e=.returned (qT #[.agg #[O qL (boxL l).x,O qL (boxL l).y],.agg #[O qL (boxH l).x,O qL (boxH l).y],O qL 0])/\Below w.heap.size w w':=by
 have W1:Below w.heap.size w ((w.alloc (qC #[O qL 0,O qL 0] 36)).alloc (qC #[O qL 0,O qL 0] 36)):=((qK _ _).alloc (qN _) _).alloc (by first | omega | (simp;done) | (simp;omega)) _
 have hv:=qH (hE ▸ Zp v l _ ((hp.below W1).mono W1.size));have hl1:0<l.length:=by
  have:GoValid l:=by simpa [Zb] using hE
  have:=this.1;omega
 have HP:=qH hp;have he1:=fun w1 (B:Below w.heap.size w w1)=>ends_1 v l w1 ((hp.below B).mono B.size) hl1
 have he2:=fun w1 (B:Below w.heap.size w w1)=>ends_2 v l w1 ((hp.below B).mono B.size) hl1
 change ∀ w1,_->Calls Tryz.prog 114 _ w1 fun e w'=>e=.returned (qT #[O qL (boxL l).x,O qL (boxH l).x])/\_ at he1
 change ∀ w1,_->Calls Tryz.prog 114 _ w1 fun e w'=>e=.returned (qT #[O qL (boxL l).y,O qL (boxH l).y])/\_ at he2
 obtain⟨_,a,cap,rfl,_⟩:=hp;have H2:=(Has.new w #[O qL 0,O qL 0] 36).below ((qK (w.heap.size+1) _).alloc (by simp) (qC #[O qL 0,O qL 0] 36)) (by omega)
 have H3:=Has.new (w.alloc (qC #[O qL 0,O qL 0] 36)) #[O qL 0,O qL 0] 36;rw [World.size_alloc] at H3;have H2':=qH H2;have H3':=qH H3;have W1':=qH W1;have HE:=qH (qI he1 he2);clear W1 H2 H3 hE he1 he2;generalize (boxL l).x=lx at *;generalize (boxL l).y=ly at *;generalize (boxH l).x=hx at *;generalize (boxH l).y=hy at *;go_enter Tryz.func65,Tryz.ntmps65;go_wp2_with fail;refine hv.out.mono ?_;rintro e w1 ⟨rfl,hb1⟩;have H2:=qH (H2'.out.below (hb1.mono (by simp):Below (w.heap.size+2) _ w1) (by omega))
 have H3:=qH (H3'.out.below (hb1.mono (by simp):Below (w.heap.size+2) _ w1) (by omega))
 have B1:=qH (W1'.out.trans (hb1.mono W1'.out.size));have hz:=hb1.size;simp at hz;clear hb1;go_wp2_with fail;refine (HE.out.1 _ B1.out).mono ?_;rintro e w2 ⟨rfl,hb2⟩;have A2:=H2.out.below hb2 (by omega)
 have A3:=H3.out.below hb2 (by omega)
 have B2:=zAf B1 hb2;have hz2:=hb2.size;have a0:w2.cell? ⟨w.heap.size,0,none⟩=some (O qL 0):=A2.cell (i:=0) rfl;have b0:w2.cell? ⟨w.heap.size+1,0,none⟩=some (O qL 0):=A3.cell (i:=0) rfl;have f0:=Ze A2 0;have g0:=Ze A3 0;have A2':=qH A2;have A3':=qH A3;clear hb2 A2 A3;go_upto_region 4 with fail
 have C2:Has ((w2.setCell ⟨w.heap.size,0,none⟩ (O qL lx)).setCell ⟨w.heap.size+1,0,none⟩ (O qL hx)) w.heap.size #[O qL lx,O qL 0] 36:=(A2'.out.set 0 (O qL lx):Has _ _ #[O qL lx,O qL 0] _).other ⟨w.heap.size+1,0,none⟩ _ (by simp)
 have C3:Has ((w2.setCell ⟨w.heap.size,0,none⟩ (O qL lx)).setCell ⟨w.heap.size+1,0,none⟩ (O qL hx)) (w.heap.size+1) #[O qL hx,O qL 0] 36:=((A3'.out.other ⟨w.heap.size,0,none⟩ (O qL lx) (by simp)).set 0 (O qL hx):_)
 have B3:=(B2.out.setCell (p:=⟨w.heap.size,0,none⟩) (qN _) (O qL lx)).setCell (p:=⟨w.heap.size+1,0,none⟩) (by simp) (O qL hx)
 generalize (w2.setCell ⟨w.heap.size,0,none⟩ (O qL lx)).setCell ⟨w.heap.size+1,0,none⟩ (O qL hx)=w3 at C2 C3 B3 ⊢;have C2':=qH C2;have C3':=qH C3;have B3':=qH B3;have l2:=C2.lt;have l3:=C3.lt;clear a0 b0 f0 g0 C2 C3 B3;go_wp2_with fail;refine (HE.out.2 _ B3'.out).mono ?_;rintro e w4 ⟨rfl,hb4⟩;have A2:=C2'.out.below hb4 l2;have A3:=C3'.out.below hb4 l3;have B4:=qH (B3'.out.trans (hb4.mono B3'.out.size));have a0:w4.cell? ⟨w.heap.size,1,none⟩=some (O qL 0):=A2.cell (i:=1) rfl;have b0:w4.cell? ⟨w.heap.size+1,1,none⟩=some (O qL 0):=A3.cell (i:=1) rfl;have f0:=Ze A2 1;have g0:=Ze A3 1;have A4:=qH A2;have A5:=qH A3;clear hb4 A2 A3;go_upto_region 5 with fail
 have C2:Has ((w4.setCell ⟨w.heap.size,1,none⟩ (O qL ly)).setCell ⟨w.heap.size+1,1,none⟩ (O qL hy)) w.heap.size #[O qL lx,O qL ly] 36:=(A4.out.set 1 (O qL ly):Has _ _ #[O qL lx,O qL ly] _).other ⟨w.heap.size+1,1,none⟩ _ (by simp)
 have C3:Has ((w4.setCell ⟨w.heap.size,1,none⟩ (O qL ly)).setCell ⟨w.heap.size+1,1,none⟩ (O qL hy)) (w.heap.size+1) #[O qL hx,O qL hy] 36:=((A5.out.other ⟨w.heap.size,1,none⟩ (O qL ly) (by simp)).set 1 (O qL hy):_)
 have B5:=(B4.out.setCell (p:=⟨w.heap.size,1,none⟩) (qN _) (O qL ly)).setCell (p:=⟨w.heap.size+1,1,none⟩) (by simp) (O qL hy)
 generalize (w4.setCell ⟨w.heap.size,1,none⟩ (O qL ly)).setCell ⟨w.heap.size+1,1,none⟩ (O qL hy)=w5 at C2 C3 B5 ⊢;have BR:=qH B5;clear a0 b0 f0 g0 B5;refine (wpIn_wide (n:=9)).1 ?_;refine Zi (Zk _) 3 (fun X=>Has X w.heap.size #[O qL lx,O qL ly] 36/\Has X (w.heap.size+1) #[O qL hx,O qL hy] 36) (by kernel_rfl) (by kernel_rfl) (by kernel_rfl) fun hH inv0=>?_
 refine sk hH (i:=0) (v:=.agg #[O qL lx,O qL ly]) (Zd rfl) inv0 (fun X hX=>?_) fun inv1=>?_
 ·have hx:=hX.1.cell (i:=0) rfl;have hy:=hX.1.cell (i:=1) rfl;go_simp
 simp only [qJ,zq4,zr4,zs4];refine sk hH (i:=1) (v:=.agg #[O qL hx,O qL hy]) (Zd rfl) inv1 (fun X hX=>?_) fun inv2=>?_
 ·have hx:=hX.2.cell (i:=0) rfl;have hy:=hX.2.cell (i:=1) rfl;go_simp
 simp only [qJ,zq4,zr4,zs4];have hb0:Has w5.drew w.heap.size #[O qL lx,O qL ly] 36:=C2;have hc0:Has w5.drew (w.heap.size+1) #[O qL hx,O qL hy] 36:=C3;have hd0:Below w5.heap.size w5 w5.drew:=Below.drew (qK _ _);generalize w5.drew=X0 at hb0 hc0 hd0 ⊢;clear inv0 inv1 inv2 hH;refine sa1 (r:=2) ⟨hb0,hc0⟩ ?_;refine Z4O (Zd rfl) rfl rfl (g:=w.heap.size) (cells:=#[O qL lx,O qL ly]) rfl rfl hb0 (by kernel_rfl) rfl (by kernel_rfl) ?_
 simp only [qJ,zq4,zr4,zs4];rw [hb0.same];refine Zm (by kernel_rfl) ⟨hb0,hc0⟩ ?_
 simp only [List.drop_succ_cons,List.drop_zero];refine Z0p rfl rfl (g:=(w.heap.size+1)) (cells:=#[O qL hx,O qL hy]) rfl rfl hc0 (by kernel_rfl) rfl (by kernel_rfl) ?_
 rw [hc0.same];gi_wp2;go_wp2;have z0:X0.cell? ⟨w.heap.size,0,none⟩=some (O qL lx):=hb0.cell (i:=0) rfl;have z1:X0.cell? ⟨w.heap.size,1,none⟩=some (O qL ly):=hb0.cell (i:=1) rfl;have z2:X0.cell? ⟨w.heap.size+1,0,none⟩=some (O qL hx):=hc0.cell (i:=0) rfl;have z3:X0.cell? ⟨w.heap.size+1,1,none⟩=some (O qL hy):=hc0.cell (i:=1) rfl;exact bodyPost_ret (v:=qT #[.agg #[O qL lx,O qL ly],.agg #[O qL hx,O qL hy],O qL 0]) (by simp [results,Tryz.f65,go_sem,z0,z1,z2,z3]) rfl ⟨rfl,BR.out.trans (hd0.mono BR.out.size)⟩
end
section
attribute [local go_sem] Oper.semAt_some
attribute [local irreducible] wpQuiet
open Go.RowKit
noncomputable def inside (l:List Pt) (x:Pt):Bool :=
 if l.length<3 then decide (Z5 (nth l 0) (nth l (l.length-1)) x=0/\(boxL l).x<=x.x/\x.x<=(boxH l).x/\(boxL l).y<=x.y/\x.y<=(boxH l).y)
 else decide (∀ i,i<l.length->0<=Z5 (sideP l i).1 (sideP l i).2 x)
theorem Zcs (v:Value) (l:List Pt) (x:Pt) (w:World) (hp:Z7 w.heap.size w v l) (hE:(Zb l && Z3 x)=false) :
  Calls Tryz.prog 27 #[v,.agg #[O qL x.x,O qL x.y]] w fun e w'=>e=.returned (qT #[qB false,O qL 1])/\Below w.heap.size w w':=by
 obtain⟨g,hV⟩:∃ g,Zb l=g:=⟨_,rfl⟩;have W1:Below w.heap.size w (((w.alloc (qC #[O qL x.x,O qL x.y] 36)).alloc (qC #[qB false] 4)).alloc (qC #[O qL 0] 30)):=(((qK _ _).alloc (qN _) _).alloc (by first | omega | (simp;done) | (simp;omega)) _).alloc (by simp;omega) _
 have hv:=qH (hV ▸ Zp v l _ ((hp.below W1).mono W1.size));have H0:=(Has.new w #[O qL x.x,O qL x.y] 36).below (((qK (w.heap.size+1) _).alloc (by simp) (qC #[qB false] 4)).alloc (by simp) (qC #[O qL 0] 30)) (by omega)
 have H1:=(Has.new (w.alloc (qC #[O qL x.x,O qL x.y] 36)) #[qB false] 4).below ((qK (w.heap.size+2) _).alloc (by simp) (qC #[O qL 0] 30)) (by simp)
 have H2:=Has.new ((w.alloc (qC #[O qL x.x,O qL x.y] 36)).alloc (qC #[qB false] 4)) #[O qL 0] 30;simp only [World.size_alloc] at H1 H2;have H0':=qH H0;have H1':=qH H1;have H2':=qH H2;have W1':=qH W1;have hpl:Hid (g=true->placeB x.x x.y=false):=by
  show g=true->_
  intro hg;rw [hV,hg] at hE
  simpa [Z3] using hE
 obtain⟨_,a,cap,rfl,_⟩:=hp;clear W1 H0 H1 H2 hE;generalize x.x=px at *;generalize x.y=py at *;refine (callsIn_wide (n:=9)).1 ?_;refine callsIn_of_wp_marks Tryz.func27 rfl trivial ?_ rfl;simp only [Tryz.ntmps27,List.size_toArray,List.length_cons,List.length_nil,Nat.reduceAdd,Nat.reduceSub,Array.replicate_succ,Array.replicate_zero,List.push_toArray,List.append_toArray,List.nil_append,List.cons_append];refine wpIn_wide.2 ?_;go_wp2_with fail;refine hv.out.mono ?_;rintro e w1 ⟨rfl,hb1⟩;have A0:=H0'.out.below (hb1.mono (by simp):Below (w.heap.size+3) _ w1) (by omega)
 have A1:=H1'.out.below (hb1.mono (by simp):Below (w.heap.size+3) _ w1) (by omega)
 have A2:=H2'.out.below (hb1.mono (by simp):Below (w.heap.size+3) _ w1) (by omega)
 have B1:=qH (W1'.out.trans (hb1.mono W1'.out.size));have hz:=hb1.size;simp at hz;clear hb1;cases g
 ·clear hV
  have r0:w1.cell? ⟨w.heap.size+1,0,none⟩=some (qB false):=A1.cell (i:=0) rfl;have r1:=Ze A1 0;have e0:w1.cell? ⟨w.heap.size+1+1,0,none⟩=some (O qL 0):=A2.cell (i:=0) rfl;have e1:=Ze A2 0;go_wp2;have z1:=World.cell?_setCell_same' w1 ⟨w.heap.size+1,0,none⟩ (qB false) (by rw [r0];rfl)
  have z2:=World.cell?_setCell_same' (w1.setCell ⟨w.heap.size+1,0,none⟩ (qB false)) ⟨w.heap.size+1+1,0,none⟩ (O qL 1) (by rw [World.cell?_setCell_other _ _ _ _ (by simp),e0];rfl)
  exact⟨qT #[qB false,O qL 1],by simp [results,Tryz.f27,go_sem,z1,z2],rfl,(B1.out.setCell (p:=⟨w.heap.size+1,0,none⟩) (by simp) _).setCell (p:=⟨w.heap.size+1+1,0,none⟩) (by simp;omega) _⟩
 ·have hpp:=hpl.out rfl
  have x0:w1.cell? ⟨w.heap.size,0,none⟩=some (O qL px):=A0.cell (i:=0) rfl;have x1:w1.cell? ⟨w.heap.size,1,none⟩=some (O qL py):=A0.cell (i:=1) rfl;have A0':=qH A0;have A1':=qH A1;have A2':=qH A2;clear A0 A1 A2 hV;go_wp2_with fail;refine (Z2p _ _ _ hpp).mono ?_;rintro e w2 ⟨rfl,hb2⟩;have A0:=A0'.out.below hb2 (by omega)
  have A1:=A1'.out.below hb2 (by omega)
  have A2:=A2'.out.below hb2 (by omega)
  have B2:=zAf B1 hb2;have hz2:=hb2.size;have r0:w2.cell? ⟨w.heap.size+1,0,none⟩=some (qB false):=A1.cell (i:=0) rfl;have r1:=Ze A1 0;have e0:w2.cell? ⟨w.heap.size+1+1,0,none⟩=some (O qL 0):=A2.cell (i:=0) rfl;have e1:=Ze A2 0;clear hb2;go_wp2;have z1:=World.cell?_setCell_same' w2 ⟨w.heap.size+1,0,none⟩ (qB false) (by rw [r0];rfl)
  have z2:=World.cell?_setCell_same' (w2.setCell ⟨w.heap.size+1,0,none⟩ (qB false)) ⟨w.heap.size+1+1,0,none⟩ (O qL 1) (by rw [World.cell?_setCell_other _ _ _ _ (by simp),e0];rfl)
  exact⟨qT #[qB false,O qL 1],by simp [results,Tryz.f27,go_sem,z1,z2],rfl,(B2.out.setCell (p:=⟨w.heap.size+1,0,none⟩) (by simp) _).setCell (p:=⟨w.heap.size+1+1,0,none⟩) (by simp;omega) _⟩
theorem Z9L (v : Value) (l : List Pt) (x : Pt) (w : World) (hp : Z7 w.heap.size w v l) (hV : Zb l = true) (hX : Z3 x = true) (h3 : l.length < 3) :
  Calls Tryz.prog 27 #[v,.agg #[O qL x.x,O qL x.y]] w fun e w'=>e=.returned (qT #[qB (inside l x),O qL 0])/\Below w.heap.size w w':=by
 have GV:GoValid l:=by simpa [Zb] using hV
 have hl1:=GV.1;have W1:Below w.heap.size w (((w.alloc (qC #[O qL x.x,O qL x.y] 36)).alloc (qC #[qB false] 4)).alloc (qC #[O qL 0] 30)):=(((qK _ _).alloc (qN _) _).alloc (by first | omega | (simp;done) | (simp;omega)) _).alloc (by simp;omega) _
 have hv:=qH (hV ▸ Zp v l _ ((hp.below W1).mono W1.size));have H0:=(Has.new w #[O qL x.x,O qL x.y] 36).below (((qK (w.heap.size+1) _).alloc (by simp) (qC #[qB false] 4)).alloc (by simp) (qC #[O qL 0] 30)) (by omega)
 have H1:=(Has.new (w.alloc (qC #[O qL x.x,O qL x.y] 36)) #[qB false] 4).below ((qK (w.heap.size+2) _).alloc (by simp) (qC #[O qL 0] 30)) (by simp)
 have H2:=Has.new ((w.alloc (qC #[O qL x.x,O qL x.y] 36)).alloc (qC #[qB false] 4)) #[O qL 0] 30;simp only [World.size_alloc] at H1 H2;have H0':=qH H0;have H1':=qH H1;have H2':=qH H2;have W1':=qH W1;have hbx:=qH (fun w1 (Bw:Below w.heap.size w w1)=>ZcF v l w1 ((hp.below Bw).mono Bw.size) hV)
 obtain⟨_,a,cap,rfl,hc⟩:=hp;obtain⟨b,o,rfl,hb,hc⟩:∃ b o,a=some ⟨b,o,none⟩/\b<w.heap.size/\∀ j,j<l.length->w.cell? ⟨b,o+j*2,none⟩=some (O qL (nth l j).x)/\w.cell? ⟨b,o+j*2+1,none⟩=some (O qL (nth l j).y):=by
  rcases hc with h | h
  ·rw [h] at hl1;simp at hl1
  ·exact h
 obtain⟨q0,q1⟩:=hc 0 (by omega)
 obtain⟨q2,q3⟩:=hc (l.length-1) (by omega)
 rw [Nat.zero_mul,Nat.add_zero] at q0 q1;have pl0:=Zt (GV.2.2.1 0 (by omega)).1
 have pl1:=Zt (GV.2.2.1 (l.length-1) (by omega)).1
 have plx:=Zt hX;have hR:inside l x=decide (turnV (nth l 0).x (nth l 0).y (nth l (l.length-1)).x (nth l (l.length-1)).y x.x x.y=0/\(boxL l).x<=x.x/\x.x<=(boxH l).x/\(boxL l).y<=x.y/\x.y<=(boxH l).y):=by
  unfold inside;rw [if_pos h3];rfl
 have hturn:=fun w1=>Z1r (nth l 0).x (nth l 0).y (nth l (l.length-1)).x (nth l (l.length-1)).y x.x x.y w1 (by omega) (by omega) (by omega) (by omega) (by omega) (by omega) (by omega) (by omega) (by omega) (by omega) (by omega) (by omega)
 have hpx:placeB x.x x.y=true:=hX;have HT:=qH (qI hturn (qI hR hpx));have HQ:=qH (qI q0 (qI q1 (qI q2 q3)));have d3:decide ((l.length:Int)<3)=true:=by simp;omega
 have j1:IntKind.i64.wrap ((l.length:Int)-1)=(l.length:Int)-1:=zW2;have j2:(0:Int)<=(l.length:Int)-1:=by omega
 have j3:(l.length:Int)-1<l.length:=by omega
 have j4:((l.length:Int)-1).toNat=l.length-1:=by omega
 have j5:(0:Int)<l.length:=by omega
 have j6:l.length-1<l.length:=by omega
 have j7:0<l.length:=by omega
 have j8:(1:Int)<=l.length:=by omega
 clear W1 H0 H1 H2 hc q0 q1 q2 q3 GV pl0 pl1 plx hturn hR hpx hX hV;generalize turnV (nth l 0).x (nth l 0).y (nth l (l.length-1)).x (nth l (l.length-1)).y x.x x.y=T at *;generalize (nth l 0).x=ax at *;generalize (nth l 0).y=ay at *;generalize (nth l (l.length-1)).x=bx at *;generalize (nth l (l.length-1)).y=by' at *
 generalize x.x=px at *;generalize x.y=py at *;generalize (boxL l).x=lx at *;generalize (boxL l).y=ly at *;generalize (boxH l).x=hx at *;generalize (boxH l).y=hy at *;refine (callsIn_wide (n:=9)).1 ?_;refine callsIn_of_wp_marks Tryz.func27 rfl trivial ?_ rfl;simp only [Tryz.ntmps27,List.size_toArray,List.length_cons,List.length_nil,Nat.reduceAdd,Nat.reduceSub,Array.replicate_succ,Array.replicate_zero,List.push_toArray,List.append_toArray,List.nil_append,List.cons_append];refine wpIn_wide.2 ?_;go_wp2_with fail;refine hv.out.mono ?_;rintro e w1 ⟨rfl,hb1⟩;have A0:=H0'.out.below (hb1.mono (by simp):Below (w.heap.size+3) _ w1) (by omega)
 have A1:=H1'.out.below (hb1.mono (by simp):Below (w.heap.size+3) _ w1) (by omega)
 have A2:=H2'.out.below (hb1.mono (by simp):Below (w.heap.size+3) _ w1) (by omega)
 have B1:=qH (W1'.out.trans (hb1.mono W1'.out.size));have hz:=hb1.size;simp at hz;clear hb1;have x0:w1.cell? ⟨w.heap.size,0,none⟩=some (O qL px):=A0.cell (i:=0) rfl;have x1:w1.cell? ⟨w.heap.size,1,none⟩=some (O qL py):=A0.cell (i:=1) rfl;have A0':=qH A0;have A1':=qH A1;have A2':=qH A2;clear A0 A1 A2;go_wp2_with fail;refine (Z0l _ _ _ HT.out.2.2).mono ?_;rintro e w2 ⟨rfl,hb2⟩;have A0:=A0'.out.below hb2 (by omega)
 have A1:=A1'.out.below hb2 (by omega)
 have A2:=A2'.out.below hb2 (by omega)
 have B2:=zAf B1 hb2;have hz2:=hb2.size;have A0':=qH A0;have A1':=qH A1;have A2':=qH A2;clear A0 A1 A2 hb2 x0 x1;go_wp2_with fail;refine (hbx.out _ B2.out).mono ?_;rintro e w3 ⟨rfl,hb3⟩;have A0:=A0'.out.below hb3 (by omega)
 have A1:=A1'.out.below hb3 (by omega)
 have A2:=A2'.out.below hb3 (by omega)
 have B3:=zAf B2 hb3;have hz3:=hb3.size;have A0':=qH A0;have A1':=qH A1;have A2':=qH A2;clear A0 A1 A2 hb3;go_wp2;have hA:=(((qK w3.heap.size w3).alloc (qN _) (qC #[O qL lx,O qL ly] 36)).alloc (by simp) (qC #[O qL hx,O qL hy] 36))
 have L0:=(Has.new w3 #[O qL lx,O qL ly] 36).below ((qK (w3.heap.size+1) _).alloc (by simp) (qC #[O qL hx,O qL hy] 36)) (by omega)
 have L1:=Has.new (w3.alloc (qC #[O qL lx,O qL ly] 36)) #[O qL hx,O qL hy] 36;simp only [World.size_alloc] at L1;have A0:=A0'.out.below hA (by omega)
 have A1:=A1'.out.below hA (by omega)
 have A2:=A2'.out.below hA (by omega)
 have B4:=zAf B3 hA;have hz4:=L1.lt;obtain⟨q0,q1,q2,q3⟩:=HQ.out;have g0:=(B4.out.cell (p:=⟨b,o,none⟩) hb).trans q0;have g1:=(B4.out.cell (p:=⟨b,o+1,none⟩) hb).trans q1;have g2:=(B4.out.cell (p:=⟨b,o+(l.length-1)*2,none⟩) hb).trans q2;have g3:=(B4.out.cell (p:=⟨b,o+(l.length-1)*2+1,none⟩) hb).trans q3;clear q0 q1 q2 q3 hA;generalize (w3.alloc (qC #[O qL lx,O qL ly] 36)).alloc (qC #[O qL hx,O qL hy] 36)=w4 at *;have f0:=Low.fact g0;have f1:=Low.fact g1;have f2:=Low.fact g2;have f3:=Low.fact g3;have f4:=Low.fact (A0.cell (i:=0) rfl:w4.cell? ⟨w.heap.size,0,none⟩=some (O qL px));have f5:=Low.fact (A0.cell (i:=1) rfl:w4.cell? ⟨w.heap.size,1,none⟩=some (O qL py));have f6:=Low.fact (L0.cell (i:=0) rfl:w4.cell? ⟨w3.heap.size,0,none⟩=some (O qL lx));have f7:=Low.fact (L0.cell (i:=1) rfl:w4.cell? ⟨w3.heap.size,1,none⟩=some (O qL ly));have f8:=Low.fact (L1.cell (i:=0) rfl:w4.cell? ⟨w3.heap.size+1,0,none⟩=some (O qL hx));have f9:=Low.fact (L1.cell (i:=1) rfl:w4.cell? ⟨w3.heap.size+1,1,none⟩=some (O qL hy));have A1':=qH A1;have A2':=qH A2;clear A0 A1 A2 L0 L1 g0 g1 g2 g3;by_cases c0:T=0
 ·have d0 : (T == 0) = true := by simpa using c0
  by_cases c1:lx<=px
  ·have d1:decide (lx<=px)=true:=by simpa using c1
   by_cases c2:px<=hx
   ·have d2:decide (px<=hx)=true:=by simpa using c2
    by_cases c3:ly<=py
    ·have d3:decide (ly<=py)=true:=by simpa using c3
     by_cases c4:py<=hy
     ·have d4:decide (py<=hy)=true:=by simpa using c4
      have HR:=qH (show inside l x=true by rw [HT.out.2.1];exact decide_eq_true ⟨c0,c1,c2,c3,c4⟩)
      clear c0 c1 c2 c3 c4
      (refine (wpIn_wide (n:=9)).1 ?_;refine Zn (Zk _) 40 (by kernel_rfl) (by kernel_rfl) (by kernel_rfl) ?_;simp only [List.take_succ_cons,List.take_zero,List.drop_succ_cons,List.drop_zero];(iterate 40 (apply Zf;(case hw=>rfl);(case hval=>(intro w1 hw1;have hcx:=Low.cells hw1;simp only [Oper.quietAt];go_simp;first | done | (first | (go_at_call 66;exact Low.calls hw1 (HT.out.1 _))) | rfl | exact⟨rfl,rfl⟩));simp only [qJ,zq4,zr4,zs4]));refine wpQuiet_nil ?_;intro w2 hw2)
      have A1:=A1'.out.below hw2.out (by omega)
      have A2:=A2'.out.below hw2.out (by omega)
      have BF:=qH (B4.out.trans (hw2.out.mono B4.out.size));have r0:w2.cell? ⟨w.heap.size+1,0,none⟩=some (qB false):=A1.cell (i:=0) rfl;have r1:=Ze A1 0;have e0:w2.cell? ⟨w.heap.size+1+1,0,none⟩=some (O qL 0):=A2.cell (i:=0) rfl;have e1:=Ze A2 0;clear hw2 f0 f1 f2 f3 f4 f5 f6 f7 f8 f9;gi_wp2;go_wp2;have z1:=World.cell?_setCell_same' w2 ⟨w.heap.size+1,0,none⟩ (qB true) (by rw [r0];rfl)
      have z2:=World.cell?_setCell_same' (w2.setCell ⟨w.heap.size+1,0,none⟩ (qB true)) ⟨w.heap.size+1+1,0,none⟩ (O qL 0) (by rw [World.cell?_setCell_other _ _ _ _ (by simp),e0];rfl)
      exact⟨qT #[qB true,O qL 0],by simp [results,Tryz.f27,go_sem,z1,z2],by rw [HR.out],(BF.out.setCell (p:=⟨w.heap.size+1,0,none⟩) (by simp) _).setCell (p:=⟨w.heap.size+1+1,0,none⟩) (by simp;omega) _⟩
     ·have d4:decide (py<=hy)=false:=by simpa using c4
      have HR:=qH (show inside l x=false by rw [HT.out.2.1];exact decide_eq_false (fun h=>c4 h.2.2.2.2))
      clear c0 c1 c2 c3 c4
      (refine (wpIn_wide (n:=9)).1 ?_;refine Zn (Zk _) 40 (by kernel_rfl) (by kernel_rfl) (by kernel_rfl) ?_;simp only [List.take_succ_cons,List.take_zero,List.drop_succ_cons,List.drop_zero];(iterate 40 (apply Zf;(case hw=>rfl);(case hval=>(intro w1 hw1;have hcx:=Low.cells hw1;simp only [Oper.quietAt];go_simp;first | done | (first | (go_at_call 66;exact Low.calls hw1 (HT.out.1 _))) | rfl | exact⟨rfl,rfl⟩));simp only [qJ,zq4,zr4,zs4]));refine wpQuiet_nil ?_;intro w2 hw2)
      have A1:=A1'.out.below hw2.out (by omega)
      have A2:=A2'.out.below hw2.out (by omega)
      have BF:=qH (B4.out.trans (hw2.out.mono B4.out.size));have r0:w2.cell? ⟨w.heap.size+1,0,none⟩=some (qB false):=A1.cell (i:=0) rfl;have r1:=Ze A1 0;have e0:w2.cell? ⟨w.heap.size+1+1,0,none⟩=some (O qL 0):=A2.cell (i:=0) rfl;have e1:=Ze A2 0;clear hw2 f0 f1 f2 f3 f4 f5 f6 f7 f8 f9;gi_wp2;go_wp2;have z1:=World.cell?_setCell_same' w2 ⟨w.heap.size+1,0,none⟩ (qB false) (by rw [r0];rfl)
      have z2:=World.cell?_setCell_same' (w2.setCell ⟨w.heap.size+1,0,none⟩ (qB false)) ⟨w.heap.size+1+1,0,none⟩ (O qL 0) (by rw [World.cell?_setCell_other _ _ _ _ (by simp),e0];rfl)
      exact⟨qT #[qB false,O qL 0],by simp [results,Tryz.f27,go_sem,z1,z2],by rw [HR.out],(BF.out.setCell (p:=⟨w.heap.size+1,0,none⟩) (by simp) _).setCell (p:=⟨w.heap.size+1+1,0,none⟩) (by simp;omega) _⟩
    ·have d3:decide (ly<=py)=false:=by simpa using c3
     have HR:=qH (show inside l x=false by rw [HT.out.2.1];exact decide_eq_false (fun h=>c3 h.2.2.2.1))
     clear c0 c1 c2 c3
     (refine (wpIn_wide (n:=9)).1 ?_;refine Zn (Zk _) 40 (by kernel_rfl) (by kernel_rfl) (by kernel_rfl) ?_;simp only [List.take_succ_cons,List.take_zero,List.drop_succ_cons,List.drop_zero];(iterate 34 (apply Zf;(case hw=>rfl);(case hval=>(intro w1 hw1;have hcx:=Low.cells hw1;simp only [Oper.quietAt];go_simp;first | done | (first | (go_at_call 66;exact Low.calls hw1 (HT.out.1 _))) | rfl | exact⟨rfl,rfl⟩));simp only [qJ,zq4,zr4,zs4]));(iterate 5 (apply Zu;(case hw=>rfl);simp only [qJ,zq4,zr4,zs4]));(iterate 1 (apply Zf;(case hw=>rfl);(case hval=>(intro w1 hw1;have hcx:=Low.cells hw1;simp only [Oper.quietAt];go_simp;first | done | (first | (go_at_call 66;exact Low.calls hw1 (HT.out.1 _))) | rfl | exact⟨rfl,rfl⟩));simp only [qJ,zq4,zr4,zs4]));refine wpQuiet_nil ?_;intro w2 hw2)
     have A1:=A1'.out.below hw2.out (by omega)
     have A2:=A2'.out.below hw2.out (by omega)
     have BF:=qH (B4.out.trans (hw2.out.mono B4.out.size));have r0:w2.cell? ⟨w.heap.size+1,0,none⟩=some (qB false):=A1.cell (i:=0) rfl;have r1:=Ze A1 0;have e0:w2.cell? ⟨w.heap.size+1+1,0,none⟩=some (O qL 0):=A2.cell (i:=0) rfl;have e1:=Ze A2 0;clear hw2 f0 f1 f2 f3 f4 f5 f6 f7 f8 f9;gi_wp2;go_wp2;have z1:=World.cell?_setCell_same' w2 ⟨w.heap.size+1,0,none⟩ (qB false) (by rw [r0];rfl)
     have z2:=World.cell?_setCell_same' (w2.setCell ⟨w.heap.size+1,0,none⟩ (qB false)) ⟨w.heap.size+1+1,0,none⟩ (O qL 0) (by rw [World.cell?_setCell_other _ _ _ _ (by simp),e0];rfl)
     exact⟨qT #[qB false,O qL 0],by simp [results,Tryz.f27,go_sem,z1,z2],by rw [HR.out],(BF.out.setCell (p:=⟨w.heap.size+1,0,none⟩) (by simp) _).setCell (p:=⟨w.heap.size+1+1,0,none⟩) (by simp;omega) _⟩
   ·have d2:decide (px<=hx)=false:=by simpa using c2
    have HR:=qH (show inside l x=false by rw [HT.out.2.1];exact decide_eq_false (fun h=>c2 h.2.2.1))
    clear c0 c1 c2
    (refine (wpIn_wide (n:=9)).1 ?_;refine Zn (Zk _) 40 (by kernel_rfl) (by kernel_rfl) (by kernel_rfl) ?_;simp only [List.take_succ_cons,List.take_zero,List.drop_succ_cons,List.drop_zero];(iterate 27 (apply Zf;(case hw=>rfl);(case hval=>(intro w1 hw1;have hcx:=Low.cells hw1;simp only [Oper.quietAt];go_simp;first | done | (first | (go_at_call 66;exact Low.calls hw1 (HT.out.1 _))) | rfl | exact⟨rfl,rfl⟩));simp only [qJ,zq4,zr4,zs4]));(iterate 5 (apply Zu;(case hw=>rfl);simp only [qJ,zq4,zr4,zs4]));(iterate 2 (apply Zf;(case hw=>rfl);(case hval=>(intro w1 hw1;have hcx:=Low.cells hw1;simp only [Oper.quietAt];go_simp;first | done | (first | (go_at_call 66;exact Low.calls hw1 (HT.out.1 _))) | rfl | exact⟨rfl,rfl⟩));simp only [qJ,zq4,zr4,zs4]));(iterate 5 (apply Zu;(case hw=>rfl);simp only [qJ,zq4,zr4,zs4]));(iterate 1 (apply Zf;(case hw=>rfl);(case hval=>(intro w1 hw1;have hcx:=Low.cells hw1;simp only [Oper.quietAt];go_simp;first | done | (first | (go_at_call 66;exact Low.calls hw1 (HT.out.1 _))) | rfl | exact⟨rfl,rfl⟩));simp only [qJ,zq4,zr4,zs4]));refine wpQuiet_nil ?_;intro w2 hw2)
    have A1:=A1'.out.below hw2.out (by omega)
    have A2:=A2'.out.below hw2.out (by omega)
    have BF:=qH (B4.out.trans (hw2.out.mono B4.out.size));have r0:w2.cell? ⟨w.heap.size+1,0,none⟩=some (qB false):=A1.cell (i:=0) rfl;have r1:=Ze A1 0;have e0:w2.cell? ⟨w.heap.size+1+1,0,none⟩=some (O qL 0):=A2.cell (i:=0) rfl;have e1:=Ze A2 0;clear hw2 f0 f1 f2 f3 f4 f5 f6 f7 f8 f9;gi_wp2;go_wp2;have z1:=World.cell?_setCell_same' w2 ⟨w.heap.size+1,0,none⟩ (qB false) (by rw [r0];rfl)
    have z2:=World.cell?_setCell_same' (w2.setCell ⟨w.heap.size+1,0,none⟩ (qB false)) ⟨w.heap.size+1+1,0,none⟩ (O qL 0) (by rw [World.cell?_setCell_other _ _ _ _ (by simp),e0];rfl)
    exact⟨qT #[qB false,O qL 0],by simp [results,Tryz.f27,go_sem,z1,z2],by rw [HR.out],(BF.out.setCell (p:=⟨w.heap.size+1,0,none⟩) (by simp) _).setCell (p:=⟨w.heap.size+1+1,0,none⟩) (by simp;omega) _⟩
  ·have d1:decide (lx<=px)=false:=by simpa using c1
   have HR:=qH (show inside l x=false by rw [HT.out.2.1];exact decide_eq_false (fun h=>c1 h.2.1))
   clear c0 c1
   (refine (wpIn_wide (n:=9)).1 ?_;refine Zn (Zk _) 40 (by kernel_rfl) (by kernel_rfl) (by kernel_rfl) ?_;simp only [List.take_succ_cons,List.take_zero,List.drop_succ_cons,List.drop_zero];(iterate 20 (apply Zf;(case hw=>rfl);(case hval=>(intro w1 hw1;have hcx:=Low.cells hw1;simp only [Oper.quietAt];go_simp;first | done | (first | (go_at_call 66;exact Low.calls hw1 (HT.out.1 _))) | rfl | exact⟨rfl,rfl⟩));simp only [qJ,zq4,zr4,zs4]));(iterate 5 (apply Zu;(case hw=>rfl);simp only [qJ,zq4,zr4,zs4]));(iterate 2 (apply Zf;(case hw=>rfl);(case hval=>(intro w1 hw1;have hcx:=Low.cells hw1;simp only [Oper.quietAt];go_simp;first | done | (first | (go_at_call 66;exact Low.calls hw1 (HT.out.1 _))) | rfl | exact⟨rfl,rfl⟩));simp only [qJ,zq4,zr4,zs4]));(iterate 5 (apply Zu;(case hw=>rfl);simp only [qJ,zq4,zr4,zs4]));(iterate 2 (apply Zf;(case hw=>rfl);(case hval=>(intro w1 hw1;have hcx:=Low.cells hw1;simp only [Oper.quietAt];go_simp;first | done | (first | (go_at_call 66;exact Low.calls hw1 (HT.out.1 _))) | rfl | exact⟨rfl,rfl⟩));simp only [qJ,zq4,zr4,zs4]));(iterate 5 (apply Zu;(case hw=>rfl);simp only [qJ,zq4,zr4,zs4]));(iterate 1 (apply Zf;(case hw=>rfl);(case hval=>(intro w1 hw1;have hcx:=Low.cells hw1;simp only [Oper.quietAt];go_simp;first | done | (first | (go_at_call 66;exact Low.calls hw1 (HT.out.1 _))) | rfl | exact⟨rfl,rfl⟩));simp only [qJ,zq4,zr4,zs4]));refine wpQuiet_nil ?_;intro w2 hw2)
   have A1:=A1'.out.below hw2.out (by omega)
   have A2:=A2'.out.below hw2.out (by omega)
   have BF:=qH (B4.out.trans (hw2.out.mono B4.out.size));have r0:w2.cell? ⟨w.heap.size+1,0,none⟩=some (qB false):=A1.cell (i:=0) rfl;have r1:=Ze A1 0;have e0:w2.cell? ⟨w.heap.size+1+1,0,none⟩=some (O qL 0):=A2.cell (i:=0) rfl;have e1:=Ze A2 0;clear hw2 f0 f1 f2 f3 f4 f5 f6 f7 f8 f9;gi_wp2;go_wp2;have z1:=World.cell?_setCell_same' w2 ⟨w.heap.size+1,0,none⟩ (qB false) (by rw [r0];rfl)
   have z2:=World.cell?_setCell_same' (w2.setCell ⟨w.heap.size+1,0,none⟩ (qB false)) ⟨w.heap.size+1+1,0,none⟩ (O qL 0) (by rw [World.cell?_setCell_other _ _ _ _ (by simp),e0];rfl)
   exact⟨qT #[qB false,O qL 0],by simp [results,Tryz.f27,go_sem,z1,z2],by rw [HR.out],(BF.out.setCell (p:=⟨w.heap.size+1,0,none⟩) (by simp) _).setCell (p:=⟨w.heap.size+1+1,0,none⟩) (by simp;omega) _⟩
 ·have d0:(T == 0)=false:=by simpa using c0
  have HR:=qH (show inside l x=false by rw [HT.out.2.1];exact decide_eq_false (fun h=>c0 h.1))
  clear c0
  (refine (wpIn_wide (n:=9)).1 ?_;refine Zn (Zk _) 40 (by kernel_rfl) (by kernel_rfl) (by kernel_rfl) ?_;simp only [List.take_succ_cons,List.take_zero,List.drop_succ_cons,List.drop_zero];(iterate 13 (apply Zf;(case hw=>rfl);(case hval=>(intro w1 hw1;have hcx:=Low.cells hw1;simp only [Oper.quietAt];go_simp;first | done | (first | (go_at_call 66;exact Low.calls hw1 (HT.out.1 _))) | rfl | exact⟨rfl,rfl⟩));simp only [qJ,zq4,zr4,zs4]));(iterate 5 (apply Zu;(case hw=>rfl);simp only [qJ,zq4,zr4,zs4]));(iterate 2 (apply Zf;(case hw=>rfl);(case hval=>(intro w1 hw1;have hcx:=Low.cells hw1;simp only [Oper.quietAt];go_simp;first | done | (first | (go_at_call 66;exact Low.calls hw1 (HT.out.1 _))) | rfl | exact⟨rfl,rfl⟩));simp only [qJ,zq4,zr4,zs4]));(iterate 5 (apply Zu;(case hw=>rfl);simp only [qJ,zq4,zr4,zs4]));(iterate 2 (apply Zf;(case hw=>rfl);(case hval=>(intro w1 hw1;have hcx:=Low.cells hw1;simp only [Oper.quietAt];go_simp;first | done | (first | (go_at_call 66;exact Low.calls hw1 (HT.out.1 _))) | rfl | exact⟨rfl,rfl⟩));simp only [qJ,zq4,zr4,zs4]));(iterate 5 (apply Zu;(case hw=>rfl);simp only [qJ,zq4,zr4,zs4]));(iterate 2 (apply Zf;(case hw=>rfl);(case hval=>(intro w1 hw1;have hcx:=Low.cells hw1;simp only [Oper.quietAt];go_simp;first | done | (first | (go_at_call 66;exact Low.calls hw1 (HT.out.1 _))) | rfl | exact⟨rfl,rfl⟩));simp only [qJ,zq4,zr4,zs4]));(iterate 5 (apply Zu;(case hw=>rfl);simp only [qJ,zq4,zr4,zs4]));(iterate 1 (apply Zf;(case hw=>rfl);(case hval=>(intro w1 hw1;have hcx:=Low.cells hw1;simp only [Oper.quietAt];go_simp;first | done | (first | (go_at_call 66;exact Low.calls hw1 (HT.out.1 _))) | rfl | exact⟨rfl,rfl⟩));simp only [qJ,zq4,zr4,zs4]));refine wpQuiet_nil ?_;intro w2 hw2)
  have A1:=A1'.out.below hw2.out (by omega)
  have A2:=A2'.out.below hw2.out (by omega)
  have BF:=qH (B4.out.trans (hw2.out.mono B4.out.size));have r0:w2.cell? ⟨w.heap.size+1,0,none⟩=some (qB false):=A1.cell (i:=0) rfl;have r1:=Ze A1 0;have e0:w2.cell? ⟨w.heap.size+1+1,0,none⟩=some (O qL 0):=A2.cell (i:=0) rfl;have e1:=Ze A2 0;clear hw2 f0 f1 f2 f3 f4 f5 f6 f7 f8 f9;gi_wp2;go_wp2;have z1:=World.cell?_setCell_same' w2 ⟨w.heap.size+1,0,none⟩ (qB false) (by rw [r0];rfl)
  have z2:=World.cell?_setCell_same' (w2.setCell ⟨w.heap.size+1,0,none⟩ (qB false)) ⟨w.heap.size+1+1,0,none⟩ (O qL 0) (by rw [World.cell?_setCell_other _ _ _ _ (by simp),e0];rfl)
  exact⟨qT #[qB false,O qL 0],by simp [results,Tryz.f27,go_sem,z1,z2],by rw [HR.out],(BF.out.setCell (p:=⟨w.heap.size+1,0,none⟩) (by simp) _).setCell (p:=⟨w.heap.size+1+1,0,none⟩) (by simp;omega) _⟩
theorem Zcr (v : Value) (l : List Pt) (x : Pt) (w : World) (hp : Z7 w.heap.size w v l) (hV : Zb l = true) (hX : Z3 x = true) (h3 : ¬ l.length < 3) :
  Calls Tryz.prog 27 #[v,.agg #[O qL x.x,O qL x.y]] w fun e w'=>e=.returned (qT #[qB (inside l x),O qL 0])/\Below w.heap.size w w':=by
 have GV:GoValid l:=by simpa [Zb] using hV
 have hl1:=GV.1;have W1:Below w.heap.size w (((w.alloc (qC #[O qL x.x,O qL x.y] 36)).alloc (qC #[qB false] 4)).alloc (qC #[O qL 0] 30)):=(((qK _ _).alloc (qN _) _).alloc (by first | omega | (simp;done) | (simp;omega)) _).alloc (by simp;omega) _
 have hv:=qH (hV ▸ Zp v l _ ((hp.below W1).mono W1.size));have H0:=(Has.new w #[O qL x.x,O qL x.y] 36).below (((qK (w.heap.size+1) _).alloc (by simp) (qC #[qB false] 4)).alloc (by simp) (qC #[O qL 0] 30)) (by omega)
 have H1:=(Has.new (w.alloc (qC #[O qL x.x,O qL x.y] 36)) #[qB false] 4).below ((qK (w.heap.size+2) _).alloc (by simp) (qC #[O qL 0] 30)) (by simp)
 have H2:=Has.new ((w.alloc (qC #[O qL x.x,O qL x.y] 36)).alloc (qC #[qB false] 4)) #[O qL 0] 30;simp only [World.size_alloc] at H1 H2;have H0':=qH H0;have H1':=qH H1;have H2':=qH H2;have W1':=qH W1;have HP:=qH hp;obtain⟨hll,a,cap,rfl,hc⟩:=hp;have hpl:∀ i,Z3 (sideP l i).1=true/\Z3 (sideP l i).2=true:=fun i=>⟨Z0c (fun k hk=>(GV.2.2.1 k hk).1) _,Z0c (fun k hk=>(GV.2.2.1 k hk).1) _⟩
 have HPL:=qH hpl;have plx:=Zt hX;have hR:inside l x=decide (∀ i,i<l.length->0<=Z5 (sideP l i).1 (sideP l i).2 x):=by
  unfold inside;rw [if_neg h3]
 have hpx:placeB x.x x.y=true:=hX;have HT:=qH (qI hR hpx);have d3:decide ((l.length:Int)<3)=false:=by simp;omega
 have hxe:x=⟨x.x,x.y⟩:=rfl;rw [hxe] at hR;clear W1 H0 H1 H2 hc GV hpl hR hpx hX hV hxe;obtain⟨px,py⟩:=x;dsimp only at *;refine (callsIn_wide (n:=9)).1 ?_;refine callsIn_of_wp_marks Tryz.func27 rfl trivial ?_ rfl;simp only [Tryz.ntmps27,List.size_toArray,List.length_cons,List.length_nil,Nat.reduceAdd,Nat.reduceSub,Array.replicate_succ,Array.replicate_zero,List.push_toArray,List.append_toArray,List.nil_append,List.cons_append];refine wpIn_wide.2 ?_;go_wp2_with fail;refine hv.out.mono ?_;rintro e w1 ⟨rfl,hb1⟩;have A0:=H0'.out.below (hb1.mono (by simp):Below (w.heap.size+3) _ w1) (by omega)
 have A1:=H1'.out.below (hb1.mono (by simp):Below (w.heap.size+3) _ w1) (by omega)
 have A2:=H2'.out.below (hb1.mono (by simp):Below (w.heap.size+3) _ w1) (by omega)
 have B1:=qH (W1'.out.trans (hb1.mono W1'.out.size));have hz:=hb1.size;simp at hz;clear hb1;have x0:w1.cell? ⟨w.heap.size,0,none⟩=some (O qL px):=A0.cell (i:=0) rfl;have x1:w1.cell? ⟨w.heap.size,1,none⟩=some (O qL py):=A0.cell (i:=1) rfl;have A0':=qH A0;have A1':=qH A1;have A2':=qH A2;clear A0 A1 A2;go_wp2_with fail;refine (Z0l _ _ _ HT.out.2).mono ?_;rintro e w2 ⟨rfl,hb2⟩;have A0:=A0'.out.below hb2 (by omega)
 have A1:=A1'.out.below hb2 (by omega)
 have A2:=A2'.out.below hb2 (by omega)
 have B2:=zAf B1 hb2;have hz2:=hb2.size;have A0':=qH A0;have A1':=qH A1;have A2':=qH A2;clear A0 A1 A2 hb2 x0 x1;go_wp2_with (go_at_call 67;refine (Z5i _ _ _ _).mono ?_;rintro e w' ⟨rfl,rfl⟩);have hz':(w2.alloc (qC #[(.slice a l.length (l.length+cap))] 23)).heap.size=w2.heap.size+1:=by simp
 have hBa:=(qK w2.heap.size w2).alloc (qN _) (qC #[(.slice a l.length (l.length+cap))] 23);have bN:=Boxed.new w2 23 (.slice a l.length (l.length+cap));obtain⟨W0,hW0⟩:∃ W0,(w2.alloc (qC #[(.slice a l.length (l.length+cap))] 23))=W0:=⟨_,rfl⟩;rw [hW0] at hz' hBa bN ⊢;clear hW0;have BW:Below w.heap.size w W0:=B2.out.trans (hBa.mono B2.out.size);have C0:=qH (A0'.out.below hBa (by omega))
 have C1:=qH (A1'.out.below hBa (by omega))
 have C2:=qH (A2'.out.below hBa (by omega))
 have hI:Z7 (w2.heap.size+1) W0 (.slice a l.length (l.length+cap)) l:=Z7.mono (Z7.below BW HP.out) (by omega)
 refine (wpIn_wide (n:=9)).1 ?_;refine wpIn_rangeFunc_ownH rfl (by omega) (gf:=117) (lb:=#[.pointer (some ⟨w2.heap.size,0,none⟩)]) rfl trivial (enters_of Tryz.func117 (by kernel_rfl) rfl)
  (Z38 (fun s:PlS=>encS s.1) (fun i=>⟨sideP l i,HPL.out i⟩) 8 (by omega) w2.heap.size (w2.heap.size+1) _ l _ (by omega) (by rw [hz'];omega) bN.cell hI (fun _ _=>rfl)) belowK_t (belowK_b (by rw [hz'];omega)) (qK _ _) (fun _=>rfl)
  (fun pre W=>Below w2.heap.size W0 W/\∀ s ∈ pre,0<=Z5 s.1.1 s.1.2 ⟨px,py⟩)
  (fun c pre W=>((Boxed W (w.heap.size+1) 4 (qB false)/\Boxed W (w.heap.size+1+1) 30 (O qL 0))/\(c=.ret/\∃ s ∈ pre,Z5 s.1.1 s.1.2 ⟨px,py⟩<0))/\Below w.heap.size W0 W)
  (OwnFrom.and (ownFrom_below (by rw [hz'];omega) (by rw [hz'];omega)) (ownFrom_pure _ _))
  (fun c=>OwnFrom.and (OwnFrom.and (OwnFrom.and (Own.from (boxed_own _ _ (fun _=>_)) _) (Own.from (boxed_own _ _ (fun _=>_)) _)) (ownFrom_pure _ _)) (ownFrom_below (by rw [hz'];omega) (by rw [hz'];omega)))
  ⟨qK _ _,by simp⟩
  (fun x a' W=>∃ B1 B2,(Has W B1 #[O qL x.1.1.x,O qL x.1.1.y] 36/\Has W B2 #[O qL x.1.2.x,O qL x.1.2.y] 36)/\a'={ tmps:=#[.slice a l.length (l.length+cap),.agg #[O qL px,O qL py],qD,.pointer (some ⟨w.heap.size,0,none⟩),.pointer (some ⟨w.heap.size+1,0,none⟩),.pointer (some ⟨w.heap.size+1+1,0,none⟩),qD,qD,qD,.pointer (some ⟨B1,0,none⟩),.pointer (some ⟨B2,0,none⟩),.slice a l.length (l.length+cap),qB true,qB false,qB false,.agg #[O qL px,O qL py],qB true,qB false,qB false,.slice a l.length (l.length+cap),O qL (l.length:Int),qB false,qD,qD,qD,qD,qD,qD,qD,qD,qD,qD,qD,qD,qD,qD,qD,qD,qD,qD,qD,qD,qD,qD,qD,qD,qD,qD,qD,qD,qD,qD,qD,qD,qD,qD,qD,qD,qD,qD,qD,qD,qD,qD,qD,qD,qD,qD,.slice a l.length (l.length+cap),.func (.func 117) #[] #[.pointer (some ⟨w2.heap.size,0,none⟩)],.agg #[O qL x.1.1.x,O qL x.1.1.y],.agg #[O qL x.1.2.x,O qL x.1.2.y],qD,qD,qD,qD,qD],defers:=[] })
  (fun x a' _ X Y row hs hg hr=>by obtain⟨B1,B2,⟨g1,g2⟩,g3⟩:=hs;exact⟨B1,B2,⟨Z0o g1 hg (fun r e=>(hr r e).2),Z0o g2 hg (fun r e=>(hr r e).2)⟩,g3⟩)
  ?assign ?body ?done ?stop
 case assign =>
  rintro ll pre x W K ⟨hB1,hp1⟩ hK;unfold encS;gi_wp2;have hzW:=hB1.size;exact hK _ _ (((KeepsOthers.alloc _ _).trans (KeepsOthers.alloc _ _)).from _) (((qK _ W).alloc (by omega) _).alloc (by simp;omega) _)
   ⟨(hB1.alloc (by omega) _).alloc (by simp;omega) _,hp1⟩
   ⟨W.heap.size,W.heap.size+1,⟨Has.below (Has.new W _ _) ((qK (W.heap.size+1) _).alloc (by simp) _) (by omega),by have:=Has.new (W.alloc (qC #[O qL x.1.1.x,O qL x.1.1.y] 36)) #[O qL x.1.2.x,O qL x.1.2.y] 36;rwa [World.size_alloc] at this⟩,rfl⟩
 case body =>
  rintro ll pre ⟨⟨⟨ax,ay⟩,⟨bx,by'⟩⟩,hxx⟩ a' W hll ⟨r,hr⟩ ⟨hB1,hp1⟩ ⟨B1,B2,⟨g1,g2⟩,rfl⟩ hlt
  dsimp only at g1 g2 ⊢;have pa:=Zt hxx.1;have pb:=Zt hxx.2;have px':=Zt HT.out.2;dsimp only at pa pb;obtain⟨S,hS⟩:∃ S:PlS,S=⟨(⟨ax,ay⟩,⟨bx,by'⟩),hxx⟩:=⟨_,rfl⟩
  rw [<- hS];have HS:Hid (S.1=(⟨ax,ay⟩,⟨bx,by'⟩)):=by show S.1=_;rw [hS]
  clear hS;have hzW:=hB1.size;have D0:=C0.out.below hB1 (by omega)
  have D1:=C1.out.below hB1 (by omega)
  have D2:=C2.out.below hB1 (by omega)
  have k0:W.cell? ⟨w.heap.size,0,none⟩=some (O qL px):=D0.cell (i:=0) rfl;have k1:W.cell? ⟨w.heap.size,1,none⟩=some (O qL py):=D0.cell (i:=1) rfl;have k2:W.cell? ⟨B1,0,none⟩=some (O qL ax):=g1.cell (i:=0) rfl;have k3:W.cell? ⟨B1,1,none⟩=some (O qL ay):=g1.cell (i:=1) rfl;have k4:W.cell? ⟨B2,0,none⟩=some (O qL bx):=g2.cell (i:=0) rfl;have k5:W.cell? ⟨B2,1,none⟩=some (O qL by'):=g2.cell (i:=1) rfl
  have hll':=qH hll;have hr':=qH hr;have hlt':=qH hlt;have hBB:=qH hB1;have hpp:=qH hp1;have hDD:=qH (qI D1 D2);have BWW:=qH (BW.trans (hB1.mono (by omega)))
  clear hll hr hlt hxx g1 g2 D0 D1 D2 hB1 hp1;by_cases ht:turnV ax ay bx by' px py<0
  ·have dt:decide (turnV ax ay bx by' px py<0)=true:=by simpa using ht
   have Ht:=qH ht;clear ht
   gi_wp2_with (refine⟨trivial,?_⟩;gi_at_call 66;refine (CallsIn.inRound ll (callsIn_wide.2 (Z1r _ _ _ _ _ _ _ (by omega) (by omega) (by omega) (by omega) (by omega) (by omega) (by omega) (by omega) (by omega) (by omega) (by omega) (by omega)))).mono ?_;rintro e w4 ⟨rfl,hb4⟩;have A1:=hDD.out.1.below hb4 (by omega);have A2:=hDD.out.2.below hb4 (by omega);have r0:w4.cell? ⟨w.heap.size+1,0,none⟩=some (qB false):=A1.cell (i:=0) rfl;have r1:=Ze A1 0;have e0:w4.cell? ⟨w.heap.size+1+1,0,none⟩=some (O qL 0):=A2.cell (i:=0) rfl;have e1:=Ze A2 0)
   have hz4:=hb4.size;have A1b:Boxed w4 (w.heap.size+1) 4 (qB false):=A1;have A2b:Boxed w4 (w.heap.size+1+1) 30 (O qL 0):=A2;refine⟨(ZD hb4).trans (((KeepsOthers.setCell _ _ _).trans (KeepsOthers.setCell _ _ _)).from _),⟨⟨(A1b.set (qB false)).other (by omega) _,(A2b.other (by omega) _).set _⟩,rfl,S,by simp,?_⟩,?_⟩
   ·rw [HS.out]
    exact Ht.out
   ·exact ((((hBB.out.mono (by omega):Below w.heap.size W0 W)).trans (hb4.mono (by omega))).setCell (p:=⟨w.heap.size+1,0,none⟩) (by simp) _).setCell (p:=⟨w.heap.size+1+1,0,none⟩) (by simp;omega) _
  ·have dt:decide (turnV ax ay bx by' px py<0)=false:=by simpa using ht
   have Ht:=qH ht;clear ht
   gi_wp2_with (refine⟨trivial,?_⟩;gi_at_call 66;refine (CallsIn.inRound ll (callsIn_wide.2 (Z1r _ _ _ _ _ _ _ (by omega) (by omega) (by omega) (by omega) (by omega) (by omega) (by omega) (by omega) (by omega) (by omega) (by omega) (by omega)))).mono ?_;rintro e w4 ⟨rfl,hb4⟩)
   refine⟨ZD hb4,hb4.mono (by omega),hBB.out.trans (hb4.mono (by omega)),fun s hs=>?_⟩
   rcases List.mem_append.1 hs with hs | hs
   ·exact hpp.out s hs
   ·obtain rfl:s=S:=by simpa using hs
    rw [HS.out];have:=Ht.out
    show 0<=turnV ax ay bx by' px py
    omega
 case done =>
  rintro D ys W hD rfl ⟨hB1,hp1⟩ hK;have hr:inside l ⟨px,py⟩=true:=by
   rw [HT.out.1];exact decide_eq_true (fun i hi=>hp1 ⟨sideP l i,HPL.out i⟩ (Z2T.2 ⟨i,hi,rfl⟩))
  have HR:=qH hr;have hzW:=hB1.size;have A1:=C1.out.below hB1 (by omega)
  have A2:=C2.out.below hB1 (by omega)
  clear hr hp1;have r0:W.cell? ⟨w.heap.size+1,0,none⟩=some (qB false):=A1.cell (i:=0) rfl;have r1:=Ze A1 0;have e0:W.cell? ⟨w.heap.size+1+1,0,none⟩=some (O qL 0):=A2.cell (i:=0) rfl;have e1:=Ze A2 0;have hK':=((KeepsOthers.setCell W ⟨w.heap.size+1,0,none⟩ (qB true)).trans (KeepsOthers.setCell _ ⟨w.heap.size+1+1,0,none⟩ (O qL 0))).same D _ hK rfl;have z1:=World.cell?_setCell_same' W ⟨w.heap.size+1,0,none⟩ (qB true) (by rw [r0];rfl)
  have z1':((W.setCell ⟨w.heap.size+1,0,none⟩ (qB true)).setCell ⟨w.heap.size+1+1,0,none⟩ (O qL 0)).cell? ⟨w.heap.size+1,0,none⟩=some (qB true):=by rw [World.cell?_setCell_other _ _ _ _ (by simp)];exact z1
  have z2:=World.cell?_setCell_same' (W.setCell ⟨w.heap.size+1,0,none⟩ (qB true)) ⟨w.heap.size+1+1,0,none⟩ (O qL 0) (by rw [World.cell?_setCell_other _ _ _ _ (by simp),e0];rfl)
  have y1:=cell_kept z1' (grownBy_putObj' _ D (.deferred none)) (fun r e=>by cases e;exact⟨_,hK',rfl⟩)
  have y2:=cell_kept z2 (grownBy_putObj' _ D (.deferred none)) (fun r e=>by cases e;exact⟨_,hK',rfl⟩)
  have HK:=qH hK';have HC:=qH (qI y1 y2);have HBL:=qH ((BW.trans (hB1.mono (by omega)):Below w.heap.size w W))
  clear hK' z1 z1' z2 y1 y2 A1 A2;go_wp2;refine⟨by simp,.inl ⟨_,_,rfl,run_takeDeferred HK.out,?_⟩⟩
  refine⟨qT #[qB true,O qL 0],by simp [results,Tryz.f27,go_sem,HC.out.1,HC.out.2],by rw [HR.out],?_⟩
  exact ((HBL.out.setCell (p:=⟨w.heap.size+1,0,none⟩) (by simp) _).setCell (p:=⟨w.heap.size+1+1,0,none⟩) (by simp;omega) _).trans (belowK_b (w:=w) (qN _) _ D _ _ (by omega) HK.out rfl rfl)
 case stop =>
  rintro D c pre W hD ⟨k2,hk2,rfl⟩ ⟨⟨⟨bR1,bR2⟩,rfl,s,hs,hns⟩,hB1⟩ hK;have hr:inside l ⟨px,py⟩=false:=by
   rw [HT.out.1];refine decide_eq_false fun h4=>?_
   obtain⟨i,hi,rfl⟩:=Z2T.1 hs;have:=h4 i (by omega)
   dsimp only at hns;omega
  have HR:=qH hr;have hzW:=hB1.size;clear hr hns hs;have y1:=cell_kept bR1.cell (grownBy_putObj' _ D (.deferred none)) (fun r e=>by cases e;exact⟨_,hK,rfl⟩)
  have y2:=cell_kept bR2.cell (grownBy_putObj' _ D (.deferred none)) (fun r e=>by cases e;exact⟨_,hK,rfl⟩)
  have HK:=qH hK;have HC:=qH (qI y1 y2);clear hK y1 y2;refine wpIn_wide.2 ?_;go_wp2;refine⟨by simp,.inl ⟨_,_,rfl,run_takeDeferred HK.out,?_⟩⟩
  refine⟨qT #[qB false,O qL 0],by simp [results,Tryz.f27,go_sem,HC.out.1,HC.out.2],by rw [HR.out],?_⟩
  exact (BW.trans hB1).trans (belowK_b (w:=w) (qN _) _ D _ _ (by omega) HK.out rfl rfl)
noncomputable def hasB (l:List Pt) (x:Pt):Bool:=Zb l && Z3 x && inside l x
noncomputable def hasE (l:List Pt) (x:Pt):Int:=if (Zb l && Z3 x)=true then 0 else 1
theorem Z9P (v:Value) (l:List Pt) (x:Pt) (w:World) (hp:Z7 w.heap.size w v l) :
  Calls Tryz.prog 27 #[v,.agg #[O qL x.x,O qL x.y]] w fun e w'=>e=.returned (qT #[qB (hasB l x),O qL (hasE l x)])/\Below w.heap.size w w':=by
 unfold hasB hasE;cases h:(Zb l && Z3 x)
 ·simp only [Bool.false_and,Bool.false_eq_true,if_false]
  exact Zcs v l x w hp h
 ·simp only [Bool.true_and,if_true]
  simp only [Bool.and_eq_true] at h;by_cases h3:l.length<3
  ·exact Z9L v l x w hp h.1 h.2 h3
  ·exact Zcr v l x w hp h.1 h.2 h3
end
end Go.Proofs.YthipcinibldgnaaGreat
