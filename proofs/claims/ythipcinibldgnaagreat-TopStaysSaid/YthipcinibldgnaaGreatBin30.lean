/- package cert: Make. | Passages and integers appended to an empty row of the call's own; one number of a certificate less. | the example of layer 36 .. -/
import Derived.Test.YthipcinibldgnaaGreatBin25
import Derived.Test.YthipcinibldgnaaGreatBin29
open Go.Value renaming int->O,pointer->qP,slice->qS
open Go.Obj renaming cells->qC
open Go.IntKind renaming i64->qL
open Go.Lib renaming hid->qH
open Go.RowKit.Below renaming refl->qK
open Go.World renaming setCell->qU,alloc->qV,block_lt_of_cell?->qO
open Nat renaming le_refl->qN
open And renaming intro->qI
open Go.Act renaming put->qJ
set_option linter.unusedSimpArgs false
set_option linter.unusedVariables false
set_option maxRecDepth 8000
set_option maxHeartbeats 6400000
namespace Go.Proofs.YthipcinibldgnaaGreat
section
attribute [local irreducible] wpQuiet
open Go.RowKit
noncomputable def mkP (m:Msn) (l:List Int) (k:Nat):Psg:=⟨corL (atW m k) (rdA m l k) (atW m (k+1)) (rdB m l (k+1)),rdA m l k,rdB m l (k+1),usT m l (k+1),usE m l (k+1)⟩
def mkR (m:Msn) (k:Nat):Int:=homeE m (k+1) (dep m (k+1))
noncomputable def mkQ (m:Msn) (l:List Int) (k:Nat):Int:=kpsE m k (rdA m l k) (rdB m l (k+1)) (usT m l (k+1)) (usE m l (k+1))
noncomputable def mkF (m:Msn) (l:List Int):Nat->Nat->Int
 | 0,_=>0
 | n+1,k=>if mkQ m l k=0 then mkF m l n (k+1) else mkQ m l k
noncomputable def mkE (m:Msn) (l:List Int):Int:=if radOkB m l=true then mkF m l (m.ways.length-1) 0 else 1
noncomputable def mkC (m:Msn) (l:List Int):Crt:=if mkE m l=0 then ⟨l,upto (mkP m l) (m.ways.length-1),upto (mkR m) (m.ways.length-1)⟩ else ⟨[],[],[]⟩
theorem Z5a (m:Msn) (l:List Int):∀ n k i,i<n->(∀ j,k<=j->j<k+i->mkQ m l j=0)->mkQ m l (k+i)≠0->mkF m l n k=mkQ m l (k+i)
 | 0,_,_,h,_,_=>by omega
 | n+1,k,0,_,_,h=>by rw [Nat.add_zero] at h ⊢;exact if_neg h
 | n + 1, k, i + 1, hi, h0, h => by
  have e:=Z5a m l n (k+1) i (by omega) (fun j h1 h2=>h0 j (by omega) (by omega)) (by rw [show k+1+i=k+(i+1) by omega];exact h)
  rw [show k+1+i=k+(i+1) by omega] at e
  rw [<- e];exact if_pos (h0 k (qN _) (by omega))
theorem Z59 (m:Msn) (l:List Int):∀ n k,(∀ j,k<=j->j<k+n->mkQ m l j=0)->mkF m l n k=0
 | 0,_,_=>rfl
 | n+1,k,h=>(if_pos (h k (qN _) (by omega))).trans (Z59 m l n (k+1) (fun j h1 h2=>h j (by omega) (by omega)))
theorem set3 {X Z:World} {B:Nat} {a b c:Value} {T:TypeId} {v0 v1 v2:Value} (H:Has X B #[a,b,c] T) (hz:((X.setCell ⟨B,0,none⟩ v0).setCell ⟨B,1,none⟩ v1).setCell ⟨B,2,none⟩ v2=Z) :
  Has Z B #[v0,v1,v2] T/\(∀ n,n<=B->Below n X Z)/\X.grownBy Z (some B):=by
 subst hz;refine⟨?_,fun n hn=>((((qK n X).setCell (p:=⟨B,0,none⟩) hn v0).setCell (p:=⟨B,1,none⟩) hn v1).setCell (p:=⟨B,2,none⟩) hn v2),⟨rfl,rfl,rfl,by simp [qU],fun k _ hk=>?_⟩⟩
 ·have:=((H.set 0 v0).set 1 v1).set 2 v2
  simpa only [zq4,zr4,zs4] using this
 ·have d:k≠B:=fun e=>hk (by rw [e])
  iterate 3 (rw [Below.heap_setCell _ _ _ _ (by exact d)])
theorem psgInfo:(Tryz.prog.info? 58).map (fun i=>(i.zero,i.size,i.bytes))=some (some (.agg #[qS none 0 0,O qL 0,O qL 0,O qL 0,O qL 0]),5,56):=by kernel_rfl
theorem Z5b (m : Msn) (vw vh vr vl : Value) (l : List Int) (w : World) (hm : MsnAt w.heap.size w m vw vh vr) (hl : Z8 w.heap.size w vl l) (hl0 : l.length <= 1000000) :
  Calls Tryz.prog 14 #[.agg (Zc m vw vh vr),vl] w fun e w'=>∃ vs vp ve,e=.returned (.tuple #[.agg #[vs,vp,ve],O qL (mkE m l)])/\CrtAt w'.heap.size w' (mkC m l) vs vp ve/\Below w.heap.size w w':=by
 have f0:=fun Q (B:Below w.heap.size w Q)=>Z3w m vw vh vr vl l Q ((hm.below B).mono B.size) ((hl.below B).mono B.size)
 have f1:=fun Q (B:Below w.heap.size w Q) hV hS=>Z26 m vw vh vr vl l Q ((hm.below B).mono B.size) ((hl.below B).mono B.size) hV hS
 have f2:=fun Q (B:Below w.heap.size w Q) hV hS=>Z7l m vw vh vr vl l Q ((hm.below B).mono B.size) ((hl.below B).mono B.size) hV hS
 have f3:=fun Q (B:Below w.heap.size w Q)=>Z5t vl l Q ((hl.below B).mono B.size) hl0
 have f4:=fun Q (B:Below w.heap.size w Q) hV i hi pv u v t e ht he=>Z4J m vw vh vr Q ((hm.below B).mono B.size) hV i hi pv u v t e ht he
 have f5:=fun Q (B:Below w.heap.size w Q) hV k hk=>Z1p m vw vh vr k Q ((hm.below B).mono B.size) hV hk
 have HE:mkE m l=if radOkB m l=true then mkF m l (m.ways.length-1) 0 else 1:=rfl
 have HC:mkC m l=if mkE m l=0 then ⟨l,upto (mkP m l) (m.ways.length-1),upto (mkR m) (m.ways.length-1)⟩ else ⟨[],[],[]⟩:=rfl
 have hv2:=fun h=>Z0a (m:=m) (l:=l) h
 obtain⟨⟨-,a1,cap1,rfl,hcw⟩,⟨-,a2,cap2,rfl,-⟩,⟨-,a3,cap3,rfl,-⟩⟩:=hm;obtain⟨-,al,A,rfl,-⟩:=hl;have HCW:=qH hcw;clear hcw;unfold Zc at *;generalize mkE m l=me at *;generalize mkC m l=mc at *;replace f0:=qH f0;replace f1:=qH f1;replace f2:=qH f2;replace f3:=qH f3;replace f4:=qH f4;replace f5:=qH f5;replace HC:=qH HC;have H:=qH (qK w.heap.size w);cases hok:radOkB m l
 ·have g0:=f0.out
  rw [Z9B,hok] at g0;have HV:=qH (show me=1 by rw [HE,hok];rfl)
  have HCV:=qH (show mc=⟨[],[],[]⟩ by rw [HC.out,HV.out];rfl)
  replace g0:=qH g0;clear f0 f1 f2 f3 f4 f5 hv2 hok HE HC;go_enter Tryz.func14,Tryz.ntmps14;go_wp2_with fail;generalize hXX0:qV (qV w _) _=X0;obtain⟨q0,q1,G,hzX0⟩:=box2 hXX0;clear hXX0;have H:=qH G;clear G;have MB:=qH q0;clear q0;have RV:=qH q1;clear q1 hzX0;obtain⟨c0,c1,c2,c3,c4,c5,c6,c7,c8,c9,F⟩:=Zh (m:=m) MB.out;refine (g0.out _ H.out).mono ?_;rintro e Q ⟨u1,u2,rfl,-,-,b1⟩;replace H:=zAd H b1;have z:=qH b1;clear b1 c0 c1 c2 c3 c4 c5 c6 c7 c8 c9 F;obtain⟨c0,c1,c2,c3,c4,c5,c6,c7,c8,c9,F⟩:=Zh (m:=m) (zCj MB z);clear c0 c1 c2 c3 c4 c5 c6 c7 c8 c9 F;have s:=(zCj RV z);have e0:=cX 0 s rfl;have e1:=cX 1 s rfl;have e2:=cX 2 s rfl;have z0:=Ze s 0;have z1:=Ze s 1;have z2:=Ze s 2;go_wp2;clear e0 e1 e2 z0 z1 z2;generalize hZ9:qU (qU (qU Q _ _) _ _) _ _=Z9;obtain⟨HZ9,hl9,hg9⟩:=set3 s hZ9;have r0:=cX 0 HZ9 rfl;have r1:=cX 1 HZ9 rfl;have r2:=cX 2 HZ9 rfl;have B9:=H.out.trans (hl9 w.heap.size (by omega))
  clear s hZ9;exact bodyPost_ret (v:=.tuple #[.agg #[qS none 0 0,qS none 0 0,qS none 0 0],O qL 1]) (by simp [results,Tryz.f14,go_sem,r0,r1,r2]) rfl ⟨_,_,_,by rw [HV.out],by rw [HCV.out];exact⟨Z8.nil _ _,⟨by simp,none,0,rfl,.inl rfl⟩,Z8.nil _ _⟩,B9⟩
 obtain⟨hV,hS⟩:=hv2 hok;have V:=(Zm m).1 hV;have n41:=V.n41;have n2:=V.n2;have HME:=qH (show me=mkF m l (m.ways.length-1) 0 by rw [HE,hok];rfl)
 obtain⟨n,hn⟩:∃ n,m.ways.length-1=n:=⟨_,rfl⟩;have jw:IntKind.i64.wrap ((m.ways.length:Int)-1)=(n:Int):=by rw [show (m.ways.length:Int)-1=(n:Int) by omega];exact zW2
 have hnl:n+1=m.ways.length:=by omega
 replace HME:=HME.out;replace HC:=HC.out;rw [hn] at HME HC;have hsp:=fun k h0 h1 h2=>Z5a m l n 0 k h0 h1 h2
 have hze:=Z59 m l n 0;simp only [Nat.zero_add,Nat.zero_le,true_implies] at hsp hze;rw [<- HME] at hze;simp only [<- HME] at hsp;have HSP:=qH hsp;have HZE:=qH hze;replace HC:=qH HC;have g1':=fun Q B=>f1.out Q B hV hS
 have g2':=fun Q B=>f2.out Q B hV hS
 have k1:=fun vb n0 W (h:Z8 n0 W vb (rdBU m l))=>ZI h (by rw [ZG];omega)
 have k2:=fun va n0 W (h:Z8 n0 W va (rdAU m l))=>ZI h (by rw [show (rdAU m l).length=m.ways.length from Zq _ _];omega)
 have k3:=fun vt n0 W (h:Z8 n0 W vt (usedT m l))=>ZI h (by rw [Z0N];omega)
 have k4:=fun ve n0 W (h:Z8 n0 W ve (usedE m l))=>ZI h (by rw [Z0O];omega)
 simp only [ZG,Z0N,Z0O,show (rdAU m l).length=m.ways.length from Zq _ _] at k1 k2 k3 k4
 have y1:=fun k (hk:k+1<m.ways.length)=>show (rdBU m l).getD (k+1) 0=rdB m l (k+1) from Z1H hk
 have y2:=fun k (hk:k<m.ways.length)=>show (rdAU m l).getD k 0=rdA m l k from Z4Y hk
 have y3:=fun k (hk:k+1<m.ways.length)=>show (usedT m l).getD (k+1) 0=usT m l (k+1) from Z0W _ hk
 have y4:=fun k (hk:k+1<m.ways.length)=>show (usedE m l).getD (k+1) 0=usE m l (k+1) from Z0W _ hk
 replace g1':=qH g1';replace g2':=qH g2';replace k1:=qH k1;replace k2:=qH k2;replace k3:=qH k3;replace k4:=qH k4;replace y1:=qH y1;replace y2:=qH y2;replace y3:=qH y3;replace y4:=qH y4;have VV:=qH V;have HV0:=qH hV;clear f0 f1 f2 hv2 hok HE hsp hze V hV hS hn;go_enter Tryz.func14,Tryz.ntmps14;go_wp2_with fail;generalize hXX0:qV (qV w _) _=X0;obtain⟨q0,q1,G,hzX0⟩:=box2 hXX0;clear hXX0;have H:=qH G;clear G;have MB:=qH q0;clear q0;have RV:=qH q1;clear q1 hzX0;obtain⟨c0,c1,c2,c3,c4,c5,c6,c7,c8,c9,F⟩:=Zh (m:=m) MB.out;refine (g1'.out _ H.out).mono ?_;rintro e Q ⟨v1,u1,rfl,p1,q1,b1,-,-⟩;replace H:=zAd H b1;have z:=qH b1;clear b1;obtain⟨b1,o1,e1,hv1,hb1,hc1⟩:=k1.out _ _ _ p1;subst hv1;obtain⟨b1',o1',e1',hv1,hb1',hc1'⟩:=k2.out _ _ _ q1;subst hv1;have BE:=qH hc1;have AF:=qH hc1';have LBE:=qH hb1;have LAF:=qH hb1';clear hc1 hc1' hb1 hb1' p1 q1 c0 c1 c2 c3 c4 c5 c6 c7 c8 c9 F;obtain⟨c0,c1,c2,c3,c4,c5,c6,c7,c8,c9,F⟩:=Zh (m:=m) (zCj MB z);go_wp2_with fail;refine (g2'.out _ H.out).mono ?_;rintro e w2 ⟨v2,u2,rfl,p2,q2,b2,-,-⟩;replace H:=zAd H b2;replace z:=zAd z b2;have B_w1:=qH b2;clear b2;obtain⟨b2,o2,e2,hv1,hb2,hc2⟩:=k3.out _ _ _ p2;subst hv1;obtain⟨b2',o2',e2',hv1,hb2',hc2'⟩:=k4.out _ _ _ q2;subst hv1;have TI:=qH hc2;have EN:=qH hc2';have LTI:=qH hb2;have LEN:=qH hb2';clear hc2 hc2' hb2 hb2' p2 q2 c0 c1 c2 c3 c4 c5 c6 c7 c8 c9 F;obtain⟨c0,c1,c2,c3,c4,c5,c6,c7,c8,c9,F⟩:=Zh (m:=m) (zCj MB z);have HLW:=qH (show w.heap.size+1<w2.heap.size from (zCj RV z).lt)
 go_wp2_with fail;refine (f3.out _ H.out).mono ?_;rintro e w3 ⟨vS,rfl,p3,b3,hN3⟩;replace H:=zAd H b3;replace z:=zAd z b3;replace B_w1:=zAd B_w1 b3;have B_w2:=qH b3;clear b3;have PS:=qH p3;clear p3;have HN3:=qH hN3;clear hN3;obtain⟨-,aS,cS,hvS,-⟩:=PS.out;subst hvS;clear c0 c1 c2 c3 c4 c5 c6 c7 c8 c9 F;obtain⟨c0,c1,c2,c3,c4,c5,c6,c7,c8,c9,F⟩:=Zh (m:=m) (zCj MB z);have HS1:=qH (show Q.heap.size<=w3.heap.size from B_w1.out.size)
 have HS2:=qH (show w2.heap.size<=w3.heap.size from B_w2.out.size)
 have HSR:=qH (zCj RV z).lt;go_upto_region 8 with fail
 generalize hXZ:qV w3 _=Z;obtain⟨q0,G,hzZ⟩:=box1 hXZ;clear hXZ;replace H:=zAd H G;replace z:=zAd z G;replace B_w1:=zAd B_w1 G;replace B_w2:=zAd B_w2 G;have B_w3:=qH G;clear G;have CB:=qH q0;clear q0 c0 c1 c2 c3 c4 c5 c6 c7 c8 c9 F;obtain⟨c0,c1,c2,c3,c4,c5,c6,c7,c8,c9,F⟩:=Zh (m:=m) (zCj MB z);obtain⟨bC,hbC⟩:∃ x,w3.heap.size=x:=⟨_,rfl⟩;rw [hbC] at CB hzZ ⊢;replace PS:=PS.out;rw [hbC] at PS;replace PS:=qH PS;have hS0:bC<=w3.heap.size:=by omega
 have hBZ:=H.out.size;go_wp2;clear c0 c1 c2 c3 c4 c5 c6 c7 c8 c9 F;have hMB:=qH (zCj MB z);have hRV:=qH (zCj RV z);have QS:=qH (show Z8 bC Z _ l from PS.out.below (B_w3.out.mono hS0))
 have hs1:=HS1.out;have hs2:=HS2.out;have hsr:w.heap.size+1<bC:=by rw [<- hbC];exact HSR.out
 rw [hbC] at hs1 hs2;have ZBE:=qH (fun j (hj:j<m.ways.length)=>(B_w1.out.cell (p:=⟨b1,o1+j,none⟩) LBE.out).trans (BE.out j hj))
 have MBE:b1<bC:=by have:=LBE.out;omega
 have ZAF:=qH (fun j (hj:j<m.ways.length)=>(B_w1.out.cell (p:=⟨b1',o1'+j,none⟩) LAF.out).trans (AF.out j hj))
 have MAF:b1'<bC:=by have:=LAF.out;omega
 have ZTI:=qH (fun j (hj:j<m.ways.length)=>(B_w2.out.cell (p:=⟨b2,o2+j,none⟩) LTI.out).trans (TI.out j hj))
 have MTI:b2<bC:=by have:=LTI.out;omega
 have ZEN:=qH (fun j (hj:j<m.ways.length)=>(B_w2.out.cell (p:=⟨b2',o2'+j,none⟩) LEN.out).trans (EN.out j hj))
 have MEN:b2'<bC:=by have:=LEN.out;omega
 obtain⟨i0,hi0,hz0',hz1',hz2'⟩:=info_parts intInfo;have HI:=qH hi0;obtain⟨i5,hi5,hy0',hy1',hy2'⟩:=info_parts psgInfo;have HI5:=qH hi5;clear hi0 hi5 hS0 hs1 hs2
 go_loopw [47] (fun i wr=>∃ (k:Nat) (v1 v2:Value) (x1:List Value),k<=n/\i=O qL k/\(∀ j,j<k->mkQ m l j=0)/\Has wr bC #[qS aS l.length (l.length+cS),v1,v2] 47/\MkS bC Z wr (mkP m l) v1 v2 k k x1 ((upto (mkR m) k).map (O qL)) k x1) (fun i _=>n-(intOf i).toNat)
 case atStart=>exact⟨0,qS none 0 0,qS none 0 0,[],Nat.zero_le _,rfl,fun j h=>by omega,CB.out,⟨qK _ _,World.ownsRow_nil _ _ _ _,World.ownsRow_nil _ _ _ _,.inl rfl,PsR.nil⟩⟩
 case round =>
  obtain⟨k,v1,v2,x1,hk,rfl,hall,hCB,hMK⟩:=hrel;obtain⟨wo,hwo⟩:∃ x,x=wr:=⟨_,rfl⟩;subst hwo;obtain⟨av1,cv1,rfl⟩:=Z2O hMK.r1;obtain⟨av2,cv2,rfl⟩:=Z2O hMK.r2;have HA:=qH hall;have HCB:=qH hCB;have MK:=qH hMK;have BB:=qH hMK.bel;have hbC2:=hCB.lt;replace H:=qH (H.out.trans (BB.out.mono (by omega)))
  have hMO:=qH (hMB.out.below BB.out (by omega))
  have hRO:=qH (hRV.out.below BB.out (by omega))
  clear hall hCB hMK;by_cases hlt:k<n
  ·have R:k+1<m.ways.length:=by omega
   have hk0:k<m.ways.length:=by omega
   obtain⟨bw,ow,rfl,hbw,hcw⟩:=HCW.out.resolve_left (by intro h;rw [h] at R;simp at R)
   obtain⟨p1,p2,-⟩:=hcw k hk0;obtain⟨p3,p4,-⟩:=hcw (k+1) R;have xB:=(BB.out.cell (p:=⟨b1,o1+(k+1),none⟩) MBE).trans (ZBE.out (k+1) R);have xA:=(BB.out.cell (p:=⟨b1',o1'+k,none⟩) MAF).trans (ZAF.out k hk0);have xT:=(BB.out.cell (p:=⟨b2,o2+(k+1),none⟩) MTI).trans (ZTI.out (k+1) R);have xE:=(BB.out.cell (p:=⟨b2',o2'+(k+1),none⟩) MEN).trans (ZEN.out (k+1) R);rw [y1.out k R] at xB;rw [y2.out k hk0] at xA;rw [y3.out k R] at xT;rw [y4.out k R] at xE;have rk0:=rd_le VV.out l (k:=k) hk0;have rk1:=rd_le VV.out l (k:=k+1) R;have ub:=Z1l VV.out l (k+1) R;have hcor:=Z4H VV.out (a:=k) (b:=k+1) hk0 R ⟨rk0.2.2.1,rk0.2.2.2⟩ ⟨rk1.1,rk1.2.1⟩;have f6:=fun Q=>Z2X (atW m k) (atW m (k+1)) (rdA m l k) (rdB m l (k+1)) Q
   rw [hcor] at f6;have HP:Hid (mkP m l k=⟨corL (atW m k) (rdA m l k) (atW m (k+1)) (rdB m l (k+1)),rdA m l k,rdB m l (k+1),usT m l (k+1),usE m l (k+1)⟩):=rfl;have HQ:Hid (mkQ m l k=kpsE m k (rdA m l k) (rdB m l (k+1)) (usT m l (k+1)) (usE m l (k+1))):=rfl;have HR:Hid (mkR m k=homeE m (k+1) (dep m (k+1))):=rfl;unfold atW at f6 HP;generalize corL ⟨(wy m.ways k).x,(wy m.ways k).y⟩ (rdA m l k) ⟨(wy m.ways (k+1)).x,(wy m.ways (k+1)).y⟩ (rdB m l (k+1))=A at *;simp only at f6;generalize rdA m l k=qa at *;generalize rdB m l (k+1)=qb at *;generalize usT m l (k+1)=qt at *;generalize usE m l (k+1)=qe at *;generalize (wy m.ways k).x=px at *;generalize (wy m.ways k).y=py at *;generalize (wy m.ways (k+1)).x=qx at *;generalize (wy m.ways (k+1)).y=qy at *;have g4:=f4.out;have g5:=fun Q B=>f5.out Q B HV0.out (k+1) R
   generalize homeT m (k+1) (dep m (k+1))=hT' at *;generalize homeE m (k+1) (dep m (k+1))=hE' at *;obtain⟨kq,hkq⟩:∃ x,kpsE m k qa qb qt qe=x:=⟨_,rfl⟩;have N:=fun Q B=>g4 Q B HV0.out k R (qS none 0 0) qa qb qt qe (by omega) (by omega)
   rw [hkq] at N HQ;replace f6:=qH f6;replace N:=qH N;replace g5:=qH g5;have dk:decide ((k:Int)<(n:Int))=true:=by rw [decide_eq_true_eq];omega
   have kl:(k:Int)<(n:Int):=by omega
   have kl0:(0:Int)<=(k:Int):=by omega
   have kl1:(k:Int)<m.ways.length:=by omega
   have kl2:(k:Int)+1<m.ways.length:=by omega
   have kl3:(0:Int)<=(k:Int)+1:=by omega
   have kl4:((k+1:Nat):Int)<m.ways.length:=by omega
   have jk:IntKind.i64.wrap ((k:Int)+1)=((k+1:Nat):Int):=by rw [show (k:Int)+1=((k+1:Nat):Int) by omega];exact zW2
   have jk2:IntKind.i64.wrap ((k:Int)+1)=(k:Int)+1:=zW2;have HP1:=qH (qI p1 (qI p2 (qI p3 p4)));have hk8:k<=40:=by omega
   clear hcw p1 p2 p3 p4 g4 hkq hcor rk0 rk1 ub;have S:=qH (qK wo.heap.size wo);go_upto_region 11 with fail
   refine (wpIn_wide (n:=9)).1 ?_;refine Zi (Zk _) 21 (fun X=>Below wo.heap.size wo X) (by kernel_rfl) (by kernel_rfl) (by kernel_rfl) fun hH inv0=>?_
   have hD:=Below.drew (qK wo.heap.size wo);generalize hXX1:wo.drew=X1 at *;clear hXX1;replace H:=zAd H hD;have S:=qH hD;clear hD;refine sk hH 0 (qS (some ⟨b1',o1',none⟩) m.ways.length (m.ways.length+e1')) (Zd rfl) inv0 (fun X hX=>?_) fun inv1=>?_
   ·go_simp
   simp only [pT];clear inv0;refine sk hH 1 (O qL (k:Int)) (Zd rfl) inv1 (fun X hX=>?_) fun inv2=>?_
   ·go_simp
   simp only [pT];clear inv1;refine sk hH 2 (qP (some ⟨b1',o1'+k,none⟩)) (Zd rfl) inv2 (fun X hX=>?_) fun inv3=>?_
   ·go_simp
   simp only [pT];clear inv2;refine sk hH 3 (O qL qa) (Zd rfl) inv3 (fun X hX=>?_) fun inv4=>?_
   ·have r0:=(hX.cell (p:=⟨b1',o1'+k,none⟩) (qO _ _ xA)).trans xA;go_simp
   simp only [pT];clear inv3;refine sk hH 4 (qS (some ⟨b1,o1,none⟩) m.ways.length (m.ways.length+e1)) (Zd rfl) inv4 (fun X hX=>?_) fun inv5=>?_
   ·go_simp
   simp only [pT];clear inv4;refine sk hH 5 (O qL (k:Int)) (Zd rfl) inv5 (fun X hX=>?_) fun inv6=>?_
   ·go_simp
   simp only [pT];clear inv5;refine sk hH 6 (O qL ((k+1:Nat):Int)) (Zd rfl) inv6 (fun X hX=>?_) fun P=>?_
   ·go_simp
   simp only [pT];clear inv6;refine sk hH 7 (qP (some ⟨b1,o1+(k+1),none⟩)) (Zd rfl) P (fun X hX=>?_) fun J=>?_
   ·go_simp
   simp only [pT];clear P;refine sk hH 8 (O qL qb) (Zd rfl) J (fun X hX=>?_) fun M=>?_
   ·have r0:=(hX.cell (p:=⟨b1,o1+(k+1),none⟩) (qO _ _ xB)).trans xB;go_simp
   simp only [pT];clear J;refine sk hH 9 (qS (some ⟨b2,o2,none⟩) m.ways.length (m.ways.length+e2)) (Zd rfl) M (fun X hX=>?_) fun E=>?_
   ·go_simp
   simp only [pT];clear M;refine sk hH 10 (O qL (k:Int)) (Zd rfl) E (fun X hX=>?_) fun K=>?_
   ·go_simp
   simp only [pT];clear E;refine sk hH 11 (O qL ((k+1:Nat):Int)) (Zd rfl) K (fun X hX=>?_) fun inv12=>?_
   ·go_simp
   simp only [pT];clear K;refine sk hH 12 (qP (some ⟨b2,o2+(k+1),none⟩)) (Zd rfl) inv12 (fun X hX=>?_) fun inv13=>?_
   ·go_simp
   simp only [pT];clear inv12;refine sk hH 13 (O qL qt) (Zd rfl) inv13 (fun X hX=>?_) fun inv14=>?_
   ·have r0:=(hX.cell (p:=⟨b2,o2+(k+1),none⟩) (qO _ _ xT)).trans xT;go_simp
   simp only [pT];clear inv13;refine sk hH 14 (qS (some ⟨b2',o2',none⟩) m.ways.length (m.ways.length+e2')) (Zd rfl) inv14 (fun X hX=>?_) fun inv15=>?_
   ·go_simp
   simp only [pT];clear inv14;refine sk hH 15 (O qL (k:Int)) (Zd rfl) inv15 (fun X hX=>?_) fun inv16=>?_
   ·go_simp
   simp only [pT];clear inv15;refine sk hH 16 (O qL ((k+1:Nat):Int)) (Zd rfl) inv16 (fun X hX=>?_) fun inv17=>?_
   ·go_simp
   simp only [pT];clear inv16;refine sk hH 17 (qP (some ⟨b2',o2'+(k+1),none⟩)) (Zd rfl) inv17 (fun X hX=>?_) fun inv18=>?_
   ·go_simp
   simp only [pT];clear inv17;refine sk hH 18 (O qL qe) (Zd rfl) inv18 (fun X hX=>?_) fun inv19=>?_
   ·have r0:=(hX.cell (p:=⟨b2',o2'+(k+1),none⟩) (qO _ _ xE)).trans xE;go_simp
   simp only [pT];clear inv18;refine sk hH 19 (.agg #[qS none 0 0,O qL qa,O qL qb,O qL qt,O qL qe]) (Zd rfl) inv19 (fun X hX=>?_) fun inv20=>?_
   ·go_simp
   simp only [pT];clear inv19;have inv21:=HeadInv.put2 inv20 (j:=20) (by kernel_rfl) (by omega)
   clear inv20;refine sa1 (r:=20) S.out ?_;refine ZC (Zd rfl) rfl (v:=qP (some ⟨X1.heap.size,0,none⟩)) (w':=X1.alloc (qC #[qS none 0 0,O qL 0,O qL 0,O qL 0,O qL 0] 58)) (by go_simp) ?_
   simp only [pT];have hN:=Has.new X1 #[qS none 0 0,O qL 0,O qL 0,O qL 0,O qL 0] 58;have hA2:=(qK X1.heap.size X1).alloc (qN _) (qC #[qS none 0 0,O qL 0,O qL 0,O qL 0,O qL 0] 58);have hx1:=S.out.size;generalize X1.alloc (qC #[qS none 0 0,O qL 0,O qL 0,O qL 0,O qL 0] 58)=X2 at *;replace H:=zAd H hA2;replace S:=zAd S hA2;clear hA2 inv21 hH;refine Zj (by kernel_rfl) S.out ?_
   simp only [List.drop_succ_cons,List.drop_zero];refine ZF rfl rfl (g:=X1.heap.size) (cells:=#[qS none 0 0,O qL qa,O qL qb,O qL qt,O qL qe]) rfl rfl hN (by kernel_rfl) rfl (by simp [Value.oneCell']) ?_
   have hP:=Has.put (cells:=#[qS none 0 0,O qL qa,O qL qb,O qL qt,O qL qe]) hN;replace H:=qH (Below.setRow H.out (C:=X1.heap.size) (by have:=BB.out.size;omega) #[qS none 0 0,O qL qa,O qL qb,O qL qt,O qL qe])
   replace S:=qH (Below.setRow S.out (C:=X1.heap.size) hx1 #[qS none 0 0,O qL qa,O qL qb,O qL qt,O qL qe]);generalize X2.setRow X1.heap.size #[qS none 0 0,O qL qa,O qL qb,O qL qt,O qL qe]=X3 at *;obtain⟨bP,hbP⟩:∃ x,X1.heap.size=x:=⟨_,rfl⟩;rw [hbP] at hP hx1 ⊢;have PB:=qH hP;clear hP hN hbP xA xB xT xE;gi_wp2;obtain⟨c0,c1,c2,c3,c4,c5,c6,c7,c8,c9,F⟩:=Zh (m:=m) (zCj hMO S);have D:=PB.out;have y0':=cX 0 D rfl;have y1':=cX 1 D rfl;have y2':=cX 2 D rfl;have y3':=cX 3 D rfl;have y4':=cX 4 D rfl;have yz:=Ze D 0;have ltPB:=D.lt;go_wp2_with fail;refine (N.out _ H.out).mono ?_;rintro e w4 ⟨rfl,b4⟩;replace H:=zAd H b4;replace S:=zAd S b4;have T:=qH b4;clear b4 c0 c1 c2 c3 c4 c5 c6 c7 c8 c9 F D y0' y1' y2' y3' y4' yz ltPB;obtain⟨c0,c1,c2,c3,c4,c5,c6,c7,c8,c9,F⟩:=Zh (m:=m) (zCj hMO S);have D:=(zCj PB T);have y0':=cX 0 D rfl;have y1':=cX 1 D rfl;have y2':=cX 2 D rfl;have y3':=cX 3 D rfl;have y4':=cX 4 D rfl;have yz:=Ze D 0;have ltPB:=D.lt;by_cases hq0:kq=0;rotate_left
   ·skip
    have dq:(kq == 0)=false:=by rw [beq_eq_false_iff_ne];exact hq0
    have HV:=qH (show me=kq by rw [HSP.out k hlt HA.out (by rw [HQ.out];exact hq0)];exact HQ.out)
    have HCV:=qH (show mc=⟨[],[],[]⟩ by rw [HC.out,if_neg (by rw [HV.out];exact hq0)])
    clear hq0 c0 c1 c2 c3 c4 c5 c6 c7 c8 c9 F D y0' y1' y2' y3' y4' yz ltPB;have s:=(zCj hRO S);have e0:=cX 0 s rfl;have e1:=cX 1 s rfl;have e2:=cX 2 s rfl;have z0:=Ze s 0;have z1:=Ze s 1;have z2:=Ze s 2;go_wp2;clear e0 e1 e2 z0 z1 z2;generalize hZ9:qU (qU (qU w4 _ _) _ _) _ _=Z9;obtain⟨HZ9,hl9,hg9⟩:=set3 s hZ9;have r0:=cX 0 HZ9 rfl;have r1:=cX 1 HZ9 rfl;have r2:=cX 2 HZ9 rfl;have B9:=H.out.trans (hl9 w.heap.size (by omega))
    clear s hZ9;exact bodyPost_ret (v:=.tuple #[.agg #[qS none 0 0,qS none 0 0,qS none 0 0],O qL kq]) (by simp [results,Tryz.f14,go_sem,r0,r1,r2]) rfl ⟨_,_,_,by rw [HV.out],by rw [HCV.out];exact⟨Z8.nil _ _,⟨by simp,none,0,rfl,.inl rfl⟩,Z8.nil _ _⟩,B9⟩
   subst hq0;go_upto_region 15 with fail
   clear c0 c1 c2 c3 c4 c5 c6 c7 c8 c9 F D y0' y1' y2' y3' y4' yz ltPB;have m0:w4.cell? ⟨w.heap.size,0,none⟩=some (qS (some ⟨bw,ow,none⟩) m.ways.length (m.ways.length+cap1)):=(zCj hMO S).cell (i:=0) rfl;have l1:=(zCj PB T).cell (i:=1) rfl;have l2:=(zCj PB T).cell (i:=2) rfl;have p1:=cY H.out HP1.out.1 hbw;have p2:=cY H.out HP1.out.2.1 hbw;have p3:=cY H.out HP1.out.2.2.1 hbw;have p4:=cY H.out HP1.out.2.2.2 hbw;have hzo:=S.out.size;have hbX0:bP<w4.heap.size:=(zCj PB T).lt;refine (wpIn_wide (n:=9)).1 ?_;refine Z20 (Zk _) (fun X=>Below bP w4 X/\X.cell? ⟨bP,1,none⟩=some (O qL qa)/\X.cell? ⟨bP,2,none⟩=some (O qL qb)) (by kernel_rfl) (by kernel_rfl) (by kernel_rfl) fun hsel=>?_
   have hD:=Below.drew (qK w4.heap.size w4);have hS5:=qI (hD.mono (Nat.le_of_lt hbX0)) (qI (cY hD l1 hbX0) (cY hD l2 hbX0));generalize hXX5:w4.drew=X5 at *;clear hXX5;replace H:=zAd H hD;replace S:=zAd S hD;replace T:=zAd T hD;clear hD;refine Zv hsel (i:=0) (v:=qP (some ⟨w.heap.size,0,none⟩)) (Zd rfl) (by kernel_rfl) (by kernel_rfl) rfl (fun X hX=>?_) ?_
   ·go_simp
   simp only [pT];refine Zv hsel (i:=1) (v:=qS (some ⟨bw,ow,none⟩) m.ways.length (m.ways.length+cap1)) (Zd rfl) (by kernel_rfl) (by kernel_rfl) rfl (fun X hX=>?_) ?_
   ·have qm0:=(hX.1.cell (p:=⟨w.heap.size,0,none⟩) (show w.heap.size<bP by omega)).trans m0;go_simp
   simp only [pT];refine Zv hsel (i:=2) (v:=O qL (k:Int)) (Zd rfl) (by kernel_rfl) (by kernel_rfl) rfl (fun X hX=>?_) ?_
   ·go_simp
   simp only [pT];refine Zv hsel (i:=3) (v:=qP (some ⟨bw,ow+k*5,none⟩)) (Zd rfl) (by kernel_rfl) (by kernel_rfl) rfl (fun X hX=>?_) ?_
   ·go_simp
   simp only [pT];refine Zv hsel (i:=4) (v:=qP (some ⟨bw,ow+k*5,none⟩)) (Zd rfl) (by kernel_rfl) (by kernel_rfl) rfl (fun X hX=>?_) ?_
   ·go_simp
   simp only [pT];refine Zv hsel (i:=5) (v:=.agg #[O qL px,O qL py]) (Zd rfl) (by kernel_rfl) (by kernel_rfl) rfl (fun X hX=>?_) ?_
   ·have qp1:=(hX.1.cell (p:=⟨bw,ow+k*5,none⟩) (show bw<bP by omega)).trans p1;have qp2:=(hX.1.cell (p:=⟨bw,ow+k*5+1,none⟩) (show bw<bP by omega)).trans p2;go_simp
   simp only [pT];refine Zv hsel (i:=6) (v:=qP (some ⟨bP,1,none⟩)) (Zd rfl) (by kernel_rfl) (by kernel_rfl) rfl (fun X hX=>?_) ?_
   ·go_simp
   simp only [pT];refine Zv hsel (i:=7) (v:=O qL qa) (Zd rfl) (by kernel_rfl) (by kernel_rfl) rfl (fun X hX=>?_) ?_
   ·have q1:=hX.2.1;go_simp
   simp only [pT];refine Zv hsel (i:=8) (v:=qP (some ⟨w.heap.size,0,none⟩)) (Zd rfl) (by kernel_rfl) (by kernel_rfl) rfl (fun X hX=>?_) ?_
   ·go_simp
   simp only [pT];refine Zv hsel (i:=9) (v:=qS (some ⟨bw,ow,none⟩) m.ways.length (m.ways.length+cap1)) (Zd rfl) (by kernel_rfl) (by kernel_rfl) rfl (fun X hX=>?_) ?_
   ·have qm0:=(hX.1.cell (p:=⟨w.heap.size,0,none⟩) (show w.heap.size<bP by omega)).trans m0;go_simp
   simp only [pT];refine Zv hsel (i:=10) (v:=O qL (k:Int)) (Zd rfl) (by kernel_rfl) (by kernel_rfl) rfl (fun X hX=>?_) ?_
   ·go_simp
   simp only [pT];refine Zv hsel (i:=11) (v:=O qL ((k+1:Nat):Int)) (Zd rfl) (by kernel_rfl) (by kernel_rfl) rfl (fun X hX=>?_) ?_
   ·go_simp
   simp only [pT];refine Zv hsel (i:=12) (v:=qP (some ⟨bw,ow+(k+1)*5,none⟩)) (Zd rfl) (by kernel_rfl) (by kernel_rfl) rfl (fun X hX=>?_) ?_
   ·go_simp
   simp only [pT];refine Zv hsel (i:=13) (v:=qP (some ⟨bw,ow+(k+1)*5,none⟩)) (Zd rfl) (by kernel_rfl) (by kernel_rfl) rfl (fun X hX=>?_) ?_
   ·go_simp
   simp only [pT];refine Zv hsel (i:=14) (v:=.agg #[O qL qx,O qL qy]) (Zd rfl) (by kernel_rfl) (by kernel_rfl) rfl (fun X hX=>?_) ?_
   ·have qp3:=(hX.1.cell (p:=⟨bw,ow+(k+1)*5,none⟩) (show bw<bP by omega)).trans p3;have qp4:=(hX.1.cell (p:=⟨bw,ow+(k+1)*5+1,none⟩) (show bw<bP by omega)).trans p4;go_simp
   simp only [pT];refine Zv hsel (i:=15) (v:=qP (some ⟨bP,2,none⟩)) (Zd rfl) (by kernel_rfl) (by kernel_rfl) rfl (fun X hX=>?_) ?_
   ·go_simp
   simp only [pT];refine Zv hsel (i:=16) (v:=O qL qb) (Zd rfl) (by kernel_rfl) (by kernel_rfl) rfl (fun X hX=>?_) ?_
   ·have q1:=hX.2.2;go_simp
   simp only [pT];have hzx5:wo.heap.size<=X5.heap.size:=S.out.size;refine sa1 (r:=17) hS5 ?_;refine Zo (Zd rfl) rfl (f:=44) (args:=#[.agg #[O qL px,O qL py],O qL qa,.agg #[O qL qx,O qL qy],O qL qb]) (by go_simp) (f6.out X5) ?_
   rintro e w8 ⟨vc,rfl,p9,b8,n9⟩;refine⟨_,rfl,?_⟩;simp only [pT];have d:bP<X5.heap.size:=qO _ _ hS5.2.1;have hS8:=qI (hS5.1.trans (b8.mono (by omega))) (qI (cY b8 hS5.2.1 d) (cY b8 hS5.2.2 d))
   replace H:=zAd H b8;replace S:=zAd S b8;replace T:=zAd T b8;clear b8;have P1:=qH p9;have N1:=qH n9;clear p9 n9 hS5;refine Zv hsel (i:=18) (v:=.tuple #[vc,O qL 0]) (Zd rfl) (by kernel_rfl) (by kernel_rfl) rfl (fun X hX=>?_) ?_
   ·go_simp
   simp only [pT];refine Zv hsel (i:=19) (v:=vc) (Zd rfl) (by kernel_rfl) (by kernel_rfl) rfl (fun X hX=>?_) ?_
   ·go_simp
   simp only [pT];refine Zv hsel (i:=20) (v:=O qL 0) (Zd rfl) (by kernel_rfl) (by kernel_rfl) rfl (fun X hX=>?_) ?_
   ·go_simp
   simp only [pT];refine Zv hsel (i:=21) (v:=qP (some ⟨bP,0,none⟩)) (Zd rfl) (by kernel_rfl) (by kernel_rfl) rfl (fun X hX=>?_) ?_
   ·go_simp
   simp only [pT];obtain⟨g1,d1,hv1⟩:=P1.out.len;subst hv1;clear m0 l1 l2 p1 p2 p3 p4;have D:=(zCj PB T);have l0:=cX 0 D rfl;have z0:=Ze D 0;have HB2:=D.set 0 (qS g1 A.length (A.length+d1));refine sa1 (r:=22) hS8 ?_;refine Z05 (Zd rfl) rfl (w':=w8.setCell ⟨bP,0,none⟩ (qS g1 A.length (A.length+d1))) (by go_simp) ?_
   refine Z6D (by kernel_rfl) ⟨hS8.1.setCell (p:=⟨bP,0,none⟩) (qN _) _,by exact cX 1 HB2 rfl,by exact cX 2 HB2 rfl⟩ ?_
   clear l0 z0 hS8 hsel;have hwo:wo.heap.size<=bP:=by omega
   have hg9:w8.grownBy (w8.setCell ⟨bP,0,none⟩ (qS g1 A.length (A.length+d1))) (some bP):=⟨rfl,rfl,rfl,by simp [qU],fun k _ hk=>Below.heap_setCell _ _ _ k (fun e=>hk (by rw [e]))⟩
   have P2:=P1.out.offG hg9 (fun r e=>by cases e;by_cases hl:A=[];exact .inl hl;exact .inr fun e2=>by have:=(Z7E N1.out P1.out e2).resolve_left hl;omega)
   have F2:=qH (MK.out.fresh hbC2 N1.out hzx5 P1.out);replace H:=qH (H.out.setCell (p:=⟨bP,0,none⟩) (show w.heap.size<=bP by omega) (qS g1 A.length (A.length+d1)))
   replace S:=qH (S.out.setCell (p:=⟨bP,0,none⟩) hwo (qS g1 A.length (A.length+d1)));generalize w8.setCell ⟨bP,0,none⟩ (qS g1 A.length (A.length+d1))=Y at *;simp only [zq4,zr4,zs4] at HB2;have PB2:=qH HB2;have PP:=qH P2;clear D HB2 hg9 P2 d hbX0;obtain⟨c0,c1,c2,c3,c4,c5,c6,c7,c8,c9,F⟩:=Zh (m:=m) (zCj hMO S);go_wp2_with fail;refine (g5.out _ H.out).mono ?_;rintro e w6 ⟨rfl,b6⟩;replace H:=zAd H b6;replace S:=zAd S b6;have B_Y:=qH b6;clear b6 c0 c1 c2 c3 c4 c5 c6 c7 c8 c9 F;obtain⟨c0,c1,c2,c3,c4,c5,c6,c7,c8,c9,F⟩:=Zh (m:=m) (zCj hMO S);clear c0 c1 c2 c3 c4 c5 c6 c7 c8 c9 F;have M0:=(MK.out.up S.out (by omega)).one (u:=qS g1 A.length (A.length+d1)) (by rw [HP.out];exact ((PP.out.below B_Y.out).mono B_Y.out.size)) (by rw [HP.out];exact F2.out)
   rw [HP.out] at M0;simp only at M0;have o:=MK.out.free (zCj HCB S) (.inl (qN _));have c:=MK.out.free (zCj PB2 B_Y) (.inr hwo);have hb0:bC<w6.heap.size:=by have:=S.out.size;omega
   go_upto_region 17 with fail
   refine (wpIn_wide (n:=9)).1 ?_;refine Zi (Zk _) 11 (fun X=>Has X bC #[qS aS l.length (l.length+cS),qS av1 k cv1,qS av2 k cv2] 47/\Has X bP #[qS g1 A.length (A.length+d1),O qL qa,O qL qb,O qL qt,O qL qe] 58) (by kernel_rfl) (by kernel_rfl) (by kernel_rfl) fun hH inv0=>?_
   have hD:=Below.drew (qK w6.heap.size w6);have I:=M0.up hD (by omega)
   replace o:=o.up hD;replace c:=c.up hD;have d:=Nat.lt_of_lt_of_le hb0 hD.size;generalize hXXD:w6.drew=X0 at *;clear hXXD M0;refine sk hH 0 (qP (some ⟨bC,1,none⟩)) (Zd rfl) inv0 (fun X hX=>?_) fun inv1=>?_
   ·go_simp
   simp only [pT];clear inv0;refine sk hH 1 (qS av1 k cv1) (Zd rfl) inv1 (fun X hX=>?_) fun inv2=>?_
   ·have r0:=hX.1.cell (i:=1) rfl;go_simp
   simp only [pT];clear inv1;refine sk hH 2 (.agg #[qS g1 A.length (A.length+d1),O qL qa,O qL qb,O qL qt,O qL qe]) (Zd rfl) inv2 (fun X hX=>?_) fun inv3=>?_
   ·have r0:=hX.2.cell (i:=0) rfl;have r1:=hX.2.cell (i:=1) rfl;have r2:=hX.2.cell (i:=2) rfl;have r3:=hX.2.cell (i:=3) rfl;have r4:=hX.2.cell (i:=4) rfl;go_simp
   simp only [pT];clear inv2;refine sk hH 5 (qP (some ⟨bC,2,none⟩)) (Zd rfl) inv3 (fun X hX=>?_) fun inv4=>?_
   ·go_simp
   simp only [pT];clear inv3;refine sk hH 6 (qS av2 k cv2) (Zd rfl) inv4 (fun X hX=>?_) fun inv5=>?_
   ·have r0:=hX.1.cell (i:=2) rfl;go_simp
   simp only [pT];clear inv4;refine sk hH 7 (O qL hE') (Zd rfl) inv5 (fun X hX=>?_) fun inv6=>?_
   ·go_simp
   simp only [pT];clear inv5;have q:=qI o.1 c.1;refine Zw (rs:=[3,8]) (by kernel_rfl) (by simp) q (by simp) (fun i hi'=>?_)
   simp only [List.mem_cons,List.not_mem_nil,or_false] at hi';rcases hi' with rfl | rfl
   ·skip
    have P:=HeadInv.put2 inv6 (j:=3) (by kernel_rfl) (by omega)
    refine ZC (Zd rfl) rfl (v:=qS (some ⟨X0.heap.size,0,none⟩) 1 1) (w':=X0.alloc (qC #[qS g1 A.length (A.length+d1),O qL qa,O qL qb,O qL qt,O qL qe] 58)) (by go_simp) ?_
    simp only [pT];have G:=(qK X0.heap.size X0).alloc (qN _) (qC #[qS g1 A.length (A.length+d1),O qL qa,O qL qb,O qL qt,O qL qe] 58);have b3:=I.free (Has.new X0 #[qS g1 A.length (A.length+d1),O qL qa,O qL qb,O qL qt,O qL qe] 58) (.inr (qN _));replace o:=o.up G;replace c:=c.up G;replace I:=I.up G (by omega)
    replace d:=Nat.lt_of_lt_of_le d G.size;generalize X0.alloc (qC #[qS g1 A.length (A.length+d1),O qL qa,O qL qb,O qL qt,O qL qe] 58)=X1 at *;obtain⟨s3,U⟩:∃ x,X0.heap.size=x:=⟨_,rfl⟩;rw [U] at b3 ⊢;clear G U inv6 q;have q:=qI o.1 c.1;refine Zw (rs:=[4,8]) (by kernel_rfl) (by simp) q (by simp) (fun i hi'=>?_)
    simp only [List.mem_cons,List.not_mem_nil,or_false] at hi';rcases hi' with rfl | rfl
    ·skip
     have J:=HeadInv.put2 P (j:=4) (by kernel_rfl) (by omega)
     refine ZA (Zd rfl) rfl (.tmp 109) (.tmp 111) 45 rfl (bC+1) 58 i5 (.agg #[.slice none 0 0,.int .i64 0,.int .i64 0,.int .i64 0,.int .i64 0]) 5 56 Tryz.underlying45 HI5.out hy0' hy1' hy2' rfl (by decide) _ _ _ rfl I.r1 ⟨s3,0,none⟩ 1 1 [.slice g1 A.length (A.length+d1),.int .i64 qa,.int .i64 qb,.int .i64 qt,.int .i64 qe] rfl rfl (Z1K b3.1) (by simp [Value.oneCell']) (by unfold maxLen;omega) (by omega) d ?_
     intro u1 X2 hr1 hg1 ho1;simp only [pT];replace o:=o.app1 hg1 ho1;replace c:=c.app1 hg1 ho1;have L:X1.heap.size<=X2.heap.size:=hg1.size;replace I:=I.app1 (by omega) hg1 hr1 ho1
     replace d:=Nat.lt_of_lt_of_le d L;obtain⟨N,cp4,rfl⟩:=Z2O hr1;clear hg1 hr1 ho1 b3 L P q;refine sk hH 10 (qP (some ⟨bC,1,none⟩)) (Zd rfl) J (fun X hX=>?_) fun M=>?_
     ·go_simp
     simp only [pT];clear J;have q:=qI o.1 c.1;refine sa1 (r:=8) q ?_;have E:=HeadInv.put2 M (j:=8) (by kernel_rfl) (by omega)
     refine ZC (Zd rfl) rfl (v:=qS (some ⟨X2.heap.size,0,none⟩) 1 1) (w':=X2.alloc (qC #[O qL hE'] 3)) (by go_simp) ?_
     simp only [pT];have G:=(qK X2.heap.size X2).alloc (qN _) (qC #[O qL hE'] 3);have b8:=I.free (Has.new X2 #[O qL hE'] 3) (.inr (qN _));replace o:=o.up G;replace c:=c.up G;replace I:=I.up G (by omega)
     replace d:=Nat.lt_of_lt_of_le d G.size;generalize X2.alloc (qC #[O qL hE'] 3)=X3 at *;obtain⟨s8,U⟩:∃ x,X2.heap.size=x:=⟨_,rfl⟩;rw [U] at b8 ⊢;clear G U M q;have q:=qI o.1 c.1;refine sa1 (r:=9) q ?_;have K:=HeadInv.put2 E (j:=9) (by kernel_rfl) (by omega)
     refine ZA (Zd rfl) rfl (.tmp 114) (.tmp 116) 29 rfl (bC+1) 3 i0 (.int .i64 0) 1 8 Tryz.underlying29 HI.out hz0' hz1' hz2' rfl (by decide) _ _ _ rfl I.r2 ⟨s8,0,none⟩ 1 1 [.int .i64 hE'] rfl rfl (Z1K b8.1) (by simp [Value.oneCell']) (by unfold maxLen;omega) (by omega) d ?_
     intro u2 X4 hr2 hg2 ho2;simp only [pT];replace o:=o.app2 hg2 ho2;replace c:=c.app2 hg2 ho2;have L:X3.heap.size<=X4.heap.size:=hg2.size;replace I:=I.app2 (by omega) hg2 hr2 ho2
     replace d:=Nat.lt_of_lt_of_le d L;obtain⟨g9',cp9,rfl⟩:=Z2O hr2;clear hg2 hr2 ho2 b8 L E q K hH;refine Zj (by kernel_rfl) ⟨o.1,c.1⟩ ?_
     simp only [List.drop_succ_cons,List.drop_zero];have e1:=o.1.cell (i:=1) rfl;have e2:=o.1.cell (i:=2) rfl;have z1:=Ze o.1 1;have z2:=Ze o.1 2;have HT9:=qH ((I.set 1 (qS N (k+1) cp4)).set 2 (qS g9' (k+1) cp9));have HC9:=qH ((o.1.set 1 (qS N (k+1) cp4)).set 2 (qS g9' (k+1) cp9));have hC1:=qH o;clear I c o;gi_wp2;go_wp2;go_roundw
     case rel =>
      refine⟨k+1,qS N (k+1) cp4,qS g9' (k+1) cp9,x1++[qS g1 A.length (A.length+d1),O qL qa,O qL qb,O qL qt,O qL qe],by omega,by go_num,fun j hj=>?_,?_,?_⟩
      ·by_cases e:j=k
       ·rw [e];exact HQ.out
       ·exact HA.out j (by omega)
      ·have:=HC9.out
       simpa only [zq4,zr4,zs4] using this
      ·have:=HT9.out
       rw [show (upto (mkR m) (k+1)).map (O qL)=((upto (mkR m) k).map (O qL))++[O qL hE'] by rw [ZB,<- HR.out];simp]
       exact this
     case measure=>simp [intOf];omega
    ·skip
     have J:=HeadInv.put2 P (j:=8) (by kernel_rfl) (by omega)
     refine ZC (Zd rfl) rfl (v:=qS (some ⟨X1.heap.size,0,none⟩) 1 1) (w':=X1.alloc (qC #[O qL hE'] 3)) (by go_simp) ?_
     simp only [pT];have G:=(qK X1.heap.size X1).alloc (qN _) (qC #[O qL hE'] 3);have b8:=I.free (Has.new X1 #[O qL hE'] 3) (.inr (qN _));replace o:=o.up G;replace c:=c.up G;replace I:=I.up G (by omega)
     replace d:=Nat.lt_of_lt_of_le d G.size;replace b3:=b3.up G;generalize X1.alloc (qC #[O qL hE'] 3)=X2 at *;obtain⟨s8,U⟩:∃ x,X1.heap.size=x:=⟨_,rfl⟩;rw [U] at b8 ⊢;clear G U P q;have q:=qI o.1 c.1;refine sa1 (r:=4) q ?_;have M:=HeadInv.put2 J (j:=4) (by kernel_rfl) (by omega)
     refine ZA (Zd rfl) rfl (.tmp 109) (.tmp 111) 45 rfl (bC+1) 58 i5 (.agg #[.slice none 0 0,.int .i64 0,.int .i64 0,.int .i64 0,.int .i64 0]) 5 56 Tryz.underlying45 HI5.out hy0' hy1' hy2' rfl (by decide) _ _ _ rfl I.r1 ⟨s3,0,none⟩ 1 1 [.slice g1 A.length (A.length+d1),.int .i64 qa,.int .i64 qb,.int .i64 qt,.int .i64 qe] rfl rfl (Z1K b3.1) (by simp [Value.oneCell']) (by unfold maxLen;omega) (by omega) d ?_
     intro u1 X3 hr1 hg1 ho1;simp only [pT];replace b8:=b8.app1 hg1 ho1;replace o:=o.app1 hg1 ho1;replace c:=c.app1 hg1 ho1;have L:X2.heap.size<=X3.heap.size:=hg1.size;replace I:=I.app1 (by omega) hg1 hr1 ho1
     replace d:=Nat.lt_of_lt_of_le d L;obtain⟨N,cp4,rfl⟩:=Z2O hr1;clear hg1 hr1 ho1 b3 L J q;refine sk hH 10 (qP (some ⟨bC,1,none⟩)) (Zd rfl) M (fun X hX=>?_) fun E=>?_
     ·go_simp
     simp only [pT];clear M;have q:=qI o.1 c.1;refine sa1 (r:=9) q ?_;have K:=HeadInv.put2 E (j:=9) (by kernel_rfl) (by omega)
     refine ZA (Zd rfl) rfl (.tmp 114) (.tmp 116) 29 rfl (bC+1) 3 i0 (.int .i64 0) 1 8 Tryz.underlying29 HI.out hz0' hz1' hz2' rfl (by decide) _ _ _ rfl I.r2 ⟨s8,0,none⟩ 1 1 [.int .i64 hE'] rfl rfl (Z1K b8.1) (by simp [Value.oneCell']) (by unfold maxLen;omega) (by omega) d ?_
     intro u2 X4 hr2 hg2 ho2;simp only [pT];replace o:=o.app2 hg2 ho2;replace c:=c.app2 hg2 ho2;have L:X3.heap.size<=X4.heap.size:=hg2.size;replace I:=I.app2 (by omega) hg2 hr2 ho2
     replace d:=Nat.lt_of_lt_of_le d L;obtain⟨g9',cp9,rfl⟩:=Z2O hr2;clear hg2 hr2 ho2 b8 L E q K hH;refine Zj (by kernel_rfl) ⟨o.1,c.1⟩ ?_
     simp only [List.drop_succ_cons,List.drop_zero];have e1:=o.1.cell (i:=1) rfl;have e2:=o.1.cell (i:=2) rfl;have z1:=Ze o.1 1;have z2:=Ze o.1 2;have HT9:=qH ((I.set 1 (qS N (k+1) cp4)).set 2 (qS g9' (k+1) cp9));have HC9:=qH ((o.1.set 1 (qS N (k+1) cp4)).set 2 (qS g9' (k+1) cp9));have hC1:=qH o;clear I c o;gi_wp2;go_wp2;go_roundw
     case rel =>
      refine⟨k+1,qS N (k+1) cp4,qS g9' (k+1) cp9,x1++[qS g1 A.length (A.length+d1),O qL qa,O qL qb,O qL qt,O qL qe],by omega,by go_num,fun j hj=>?_,?_,?_⟩
      ·by_cases e:j=k
       ·rw [e];exact HQ.out
       ·exact HA.out j (by omega)
      ·have:=HC9.out
       simpa only [zq4,zr4,zs4] using this
      ·have:=HT9.out
       rw [show (upto (mkR m) (k+1)).map (O qL)=((upto (mkR m) k).map (O qL))++[O qL hE'] by rw [ZB,<- HR.out];simp]
       exact this
     case measure=>simp [intOf];omega
   ·skip
    have P:=HeadInv.put2 inv6 (j:=8) (by kernel_rfl) (by omega)
    refine ZC (Zd rfl) rfl (v:=qS (some ⟨X0.heap.size,0,none⟩) 1 1) (w':=X0.alloc (qC #[O qL hE'] 3)) (by go_simp) ?_
    simp only [pT];have G:=(qK X0.heap.size X0).alloc (qN _) (qC #[O qL hE'] 3);have b8:=I.free (Has.new X0 #[O qL hE'] 3) (.inr (qN _));replace o:=o.up G;replace c:=c.up G;replace I:=I.up G (by omega)
    replace d:=Nat.lt_of_lt_of_le d G.size;generalize X0.alloc (qC #[O qL hE'] 3)=X1 at *;obtain⟨s8,U⟩:∃ x,X0.heap.size=x:=⟨_,rfl⟩;rw [U] at b8 ⊢;clear G U inv6 q;have q:=qI o.1 c.1;refine sa1 (r:=3) q ?_;have J:=HeadInv.put2 P (j:=3) (by kernel_rfl) (by omega)
    refine ZC (Zd rfl) rfl (v:=qS (some ⟨X1.heap.size,0,none⟩) 1 1) (w':=X1.alloc (qC #[qS g1 A.length (A.length+d1),O qL qa,O qL qb,O qL qt,O qL qe] 58)) (by go_simp) ?_
    simp only [pT];have G:=(qK X1.heap.size X1).alloc (qN _) (qC #[qS g1 A.length (A.length+d1),O qL qa,O qL qb,O qL qt,O qL qe] 58);have b3:=I.free (Has.new X1 #[qS g1 A.length (A.length+d1),O qL qa,O qL qb,O qL qt,O qL qe] 58) (.inr (qN _));replace o:=o.up G;replace c:=c.up G;replace I:=I.up G (by omega)
    replace d:=Nat.lt_of_lt_of_le d G.size;replace b8:=b8.up G;generalize X1.alloc (qC #[qS g1 A.length (A.length+d1),O qL qa,O qL qb,O qL qt,O qL qe] 58)=X2 at *;obtain⟨s3,U⟩:∃ x,X1.heap.size=x:=⟨_,rfl⟩;rw [U] at b3 ⊢;clear G U P q;have q:=qI o.1 c.1;refine sa1 (r:=4) q ?_;have M:=HeadInv.put2 J (j:=4) (by kernel_rfl) (by omega)
    refine ZA (Zd rfl) rfl (.tmp 109) (.tmp 111) 45 rfl (bC+1) 58 i5 (.agg #[.slice none 0 0,.int .i64 0,.int .i64 0,.int .i64 0,.int .i64 0]) 5 56 Tryz.underlying45 HI5.out hy0' hy1' hy2' rfl (by decide) _ _ _ rfl I.r1 ⟨s3,0,none⟩ 1 1 [.slice g1 A.length (A.length+d1),.int .i64 qa,.int .i64 qb,.int .i64 qt,.int .i64 qe] rfl rfl (Z1K b3.1) (by simp [Value.oneCell']) (by unfold maxLen;omega) (by omega) d ?_
    intro u1 X3 hr1 hg1 ho1;simp only [pT];replace b8:=b8.app1 hg1 ho1;replace o:=o.app1 hg1 ho1;replace c:=c.app1 hg1 ho1;have L:X2.heap.size<=X3.heap.size:=hg1.size;replace I:=I.app1 (by omega) hg1 hr1 ho1
    replace d:=Nat.lt_of_lt_of_le d L;obtain⟨N,cp4,rfl⟩:=Z2O hr1;clear hg1 hr1 ho1 b3 L J q;refine sk hH 10 (qP (some ⟨bC,1,none⟩)) (Zd rfl) M (fun X hX=>?_) fun E=>?_
    ·go_simp
    simp only [pT];clear M;have q:=qI o.1 c.1;refine sa1 (r:=9) q ?_;have K:=HeadInv.put2 E (j:=9) (by kernel_rfl) (by omega)
    refine ZA (Zd rfl) rfl (.tmp 114) (.tmp 116) 29 rfl (bC+1) 3 i0 (.int .i64 0) 1 8 Tryz.underlying29 HI.out hz0' hz1' hz2' rfl (by decide) _ _ _ rfl I.r2 ⟨s8,0,none⟩ 1 1 [.int .i64 hE'] rfl rfl (Z1K b8.1) (by simp [Value.oneCell']) (by unfold maxLen;omega) (by omega) d ?_
    intro u2 X4 hr2 hg2 ho2;simp only [pT];replace o:=o.app2 hg2 ho2;replace c:=c.app2 hg2 ho2;have L:X3.heap.size<=X4.heap.size:=hg2.size;replace I:=I.app2 (by omega) hg2 hr2 ho2
    replace d:=Nat.lt_of_lt_of_le d L;obtain⟨g9',cp9,rfl⟩:=Z2O hr2;clear hg2 hr2 ho2 b8 L E q K hH;refine Zj (by kernel_rfl) ⟨o.1,c.1⟩ ?_
    simp only [List.drop_succ_cons,List.drop_zero];have e1:=o.1.cell (i:=1) rfl;have e2:=o.1.cell (i:=2) rfl;have z1:=Ze o.1 1;have z2:=Ze o.1 2;have HT9:=qH ((I.set 1 (qS N (k+1) cp4)).set 2 (qS g9' (k+1) cp9));have HC9:=qH ((o.1.set 1 (qS N (k+1) cp4)).set 2 (qS g9' (k+1) cp9));have hC1:=qH o;clear I c o;gi_wp2;go_wp2;go_roundw
    case rel =>
     refine⟨k+1,qS N (k+1) cp4,qS g9' (k+1) cp9,x1++[qS g1 A.length (A.length+d1),O qL qa,O qL qb,O qL qt,O qL qe],by omega,by go_num,fun j hj=>?_,?_,?_⟩
     ·by_cases e:j=k
      ·rw [e];exact HQ.out
      ·exact HA.out j (by omega)
     ·have:=HC9.out
      simpa only [zq4,zr4,zs4] using this
     ·have:=HT9.out
      rw [show (upto (mkR m) (k+1)).map (O qL)=((upto (mkR m) k).map (O qL))++[O qL hE'] by rw [ZB,<- HR.out];simp]
      exact this
    case measure=>simp [intOf];omega
  obtain rfl:k=n:=by omega
  have jj:decide ((k:Int)<(k:Int))=false:=by simp
  have HV:=qH (show me=0 from HZE.out HA.out)
  have HCV:=qH (show mc=⟨l,upto (mkP m l) k,upto (mkR m) k⟩ by rw [HC.out,if_pos HV.out])
  have hk8:k<=40:=by omega
  have q0:=cX 0 HCB.out rfl;have q1:=cX 1 HCB.out rfl;have q2:=cX 2 HCB.out rfl;have s:=hRO.out;have e0:=cX 0 s rfl;have e1:=cX 1 s rfl;have e2:=cX 2 s rfl;have z0:=Ze s 0;have z1:=Ze s 1;have z2:=Ze s 2;go_wp2;clear e0 e1 e2 z0 z1 z2 q0 q1 q2;generalize hZ9:qU (qU (qU wo _ _) _ _) _ _=Z9;obtain⟨HZ9,hl9,hg9⟩:=set3 s hZ9;have r0:=cX 0 HZ9 rfl;have r1:=cX 1 HZ9 rfl;have r2:=cX 2 HZ9 rfl;have B9:=H.out.trans (hl9 w.heap.size (by omega))
  obtain⟨F1,F2⟩:=MK.out.fin (b:=w.heap.size+1) (by omega) hg9 (by omega)
  have F3:=Z8.own F2 (by rw [Zq];omega)
  have F0:Z8 Z9.heap.size Z9 (qS aS l.length (l.length+cS)) l:=((QS.out.below BB.out).mono (Nat.le_of_lt hbC2)).offG hg9 (fun r e=>by
   cases e;by_cases hl:l=[]
   ·exact .inl hl
   right
   intro e2;obtain⟨-,a',c',e3,hc'⟩:=QS.out;obtain⟨b',o',e4,-,-⟩:=hc'.resolve_left hl;simp only [Value.slice.injEq] at e3;have h4:=HN3.out b' o' _ _ (by rw [e3.1,e4])
   rw [e3.1,e4] at e2;simp only [Value.ownBlock,Option.some.injEq] at e2;have:=HLW.out;omega)
  clear s hZ9;exact bodyPost_ret (v:=.tuple #[.agg #[qS aS l.length (l.length+cS),qS av1 k cv1,qS av2 k cv2],O qL 0]) (by simp [results,Tryz.f14,go_sem,r0,r1,r2]) rfl ⟨_,_,_,by rw [HV.out],by rw [HCV.out];exact⟨F0,F1,F3⟩,B9⟩
end
section
open Go.RowKit
def numP:Nat->Psg->Int
 | 0,p=>p.fr
 | 1,p=>p.tw
 | 2,p=>p.tm
 | _,p=>p.en
section
variable {n0:Nat} {A B W:World} {cur:Array Value} {l:List Psg}
end
end
theorem Z6u {p:List Pt} (h:Zb p=true):withinB p p=true:=by
 have k:∀ k,k<=p.length->(cornersTo p p k).length=k:=fun k=>by
  induction k with
  | zero=>intro _;rfl
  | succ k ih =>
   intro hk;simp only [cornersTo,Z1c h (show k<p.length by omega),if_true]
   rw [List.length_append,ih (by omega)]
   rfl
 unfold withinB cornersP;rw [h,k _ (qN _)];simp
theorem Z9T {m:Msn} {l:List Int}:∀ n k,mkF m l n k=0->∀ j,k<=j->j<k+n->mkQ m l j=0
 | 0,_,_,_,_,_=>by omega
 | n + 1, k, h, j, h1, h2 => by
  have h':(if mkQ m l k=0 then mkF m l n (k+1) else mkQ m l k)=0:=h
  by_cases e:mkQ m l k=0
  ·rw [if_pos e] at h'
   by_cases ej:j=k
   ·rw [ej];exact e
   ·exact Z9T n (k+1) h' j (by omega) (by omega)
  ·rw [if_neg e] at h';exact absurd h' e
theorem mk_ok {m:Msn} {l:List Int} (h:mkE m l=0):radOkB m l=true/\∀ j,j<m.ways.length-1->mkQ m l j=0:=by
 unfold mkE at h;cases hr:radOkB m l
 ·rw [hr,if_neg (by decide)] at h;omega
 ·rw [hr,if_pos rfl] at h
  exact⟨rfl,fun j hj=>Z9T _ 0 h j (Nat.zero_le _) (by omega)⟩
theorem Z2R {m:Msn} {l:List Int} (h:mkE m l=0):mkC m l=⟨l,upto (mkP m l) (m.ways.length-1),upto (mkR m) (m.ways.length-1)⟩:=if_pos h
theorem Z18 (g:Nat->Psg) {n j:Nat} (h:j<n):pgd (upto g n) j=g j:=by simp [pgd,upto,List.getD,h]
theorem Z3R (g:Nat->Int) {n j:Nat} (h:j<n):(upto g n).getD j 0=g j:=by simp [upto,List.getD,h]
theorem Z9l {m:Msn} {l:List Int} (h:stopsB m l=true):¬ (0:Int) ∈ l:=by
 intro h0;obtain⟨k,a,e⟩:=List.getElem_of_mem h0;have hs:∀ k,k<l.length->stopOk m l k:=of_decide_eq_true h;have c:=Z0x (m:=m) (l:=l) (k:=l.length) hs k (by omega)
 have d:=(hs k a).1;have b:l.getD k 0=0:=by rw [List.getD,List.getElem?_eq_getElem a,e];rfl
 omega
theorem ZbE (a b:Int):min2 a b=min a b:=by unfold min2;split <;> omega
theorem mk_bef {m:Msn} {l:List Int} (hs:stopsB m l=true) {R:List Int} {n:Nat}:∀ i,i<n ->
  befR m ⟨l,upto (mkP m l) n,R⟩ i=rdA m l i/\befT m ⟨l,upto (mkP m l) n,R⟩ i+tLeg m i (i+1)=usT m l (i+1)/\befE m ⟨l,upto (mkP m l) n,R⟩ i+eLeg m i (i+1)=usE m l (i+1)
 | 0, _ => by
  have hw:waitT m l 0=0:=if_neg (Z9l hs);refine⟨rfl,?_,?_⟩
  ·show (0:Int)+_=usT m l 0+waitT m l 0+_
   rw [hw];rfl
  ·show (0:Int)+_=usE m l 0+m.idle*waitT m l 0+_
   rw [hw,Int.mul_zero];rfl
 | i + 1, hi => by
  have hp:pgd (upto (mkP m l) n) (i+1-1)=mkP m l i:=by rw [Nat.add_sub_cancel];exact Z18 _ (by omega)
  have d:¬ (i+1=0):=by omega
  have f:usT m l (i+1+1)=usT m l (i+1)+waitT m l (i+1)+tLeg m (i+1) (i+1+1):=rfl;have a:usE m l (i+1+1)=usE m l (i+1)+m.idle*waitT m l (i+1)+eLeg m (i+1) (i+1+1):=rfl;have b:(mkP m l i).tw=rdB m l (i+1):=rfl;have e:(mkP m l i).tm=usT m l (i+1):=rfl;have c:(mkP m l i).en=usE m l (i+1):=rfl;rw [f,a,Z0R,ZbE];unfold befR befT befE waitT;simp only [if_neg d,hp,b,e,c];by_cases hm:((i+1:Nat):Int) ∈ l
  ·simp only [if_pos hm];exact⟨trivial,trivial,trivial⟩
  ·simp only [if_neg hm];exact⟨trivial,by omega,by rw [Int.mul_zero,Int.add_zero]⟩
theorem ZcN {m:Msn} {l:List Int} {i:Nat} (hE:mkE m l=0) (hi:i<m.ways.length-1) :
  (∀ r,r<4->0<=numP r (pgd (mkC m l).psg i)/\numP r (pgd (mkC m l).psg i)<=1000000000)/\0<=(mkC m l).ret.getD i 0/\(mkC m l).ret.getD i 0<=1000000000:=by
 obtain⟨b,c⟩:=mk_ok hE;have V:=(Zm m).1 (Z0a b).1;obtain⟨-,-,j,f⟩:=Z7I.1 (c i hi);have p:=rd_le V l (k:=i) (by omega)
 have o:=rd_le V l (k:=i+1) (by omega)
 have g:=Z1l V l (i+1) (by omega)
 have n:=Z0H V (a:=i+1) (by omega) (dep m (i+1)) (qN _)
 have d:=V.battery;have e:=V.deadline;rw [Z2R hE]
 show (∀ r,r<4->0<=numP r (pgd (upto (mkP m l) (m.ways.length-1)) i)/\numP r (pgd (upto (mkP m l) (m.ways.length-1)) i)<=1000000000)/\0<=(upto (mkR m) (m.ways.length-1)).getD i 0/\(upto (mkR m) (m.ways.length-1)).getD i 0<=1000000000
 rw [Z18 _ hi,Z3R _ hi];refine⟨fun r b=>?_,?_⟩
 ·match r,b with
  | 0,_=>show 0<=rdA m l i/\rdA m l i<=1000000000;omega
  | 1,_=>show 0<=rdB m l (i+1)/\rdB m l (i+1)<=1000000000;omega
  | 2,_=>show 0<=usT m l (i+1)/\usT m l (i+1)<=1000000000;omega
  | 3,_=>show 0<=usE m l (i+1)/\usE m l (i+1)<=1000000000;omega
 ·show 0<=homeE m (i+1) (dep m (i+1))/\homeE m (i+1) (dep m (i+1))<=1000000000;omega
theorem Z58 {m:Msn} {l:List Int} (hE:mkE m l=0):chkB m (mkC m l)=true/\chkE m (mkC m l)=0:=by
 obtain⟨p,v⟩:=mk_ok hE;obtain⟨x,z⟩:=Z0a p;have V:=(Zm m).1 x;have s:=fun i hi=>ZcN (l:=l) (i:=i) hE hi
 rw [Z2R hE] at s ⊢;have a:∀ i,i<m.ways.length-1->corE (atW m i) (rdA m l i) (atW m (i+1)) (rdB m l (i+1))=0:=fun i hi=>by
  have c:=rd_le V l (k:=i) (by omega)
  have d:=rd_le V l (k:=i+1) (by omega)
  exact Z4H V (by omega) (by omega) ⟨c.2.2.1,c.2.2.2⟩ ⟨d.1,d.2.1⟩
 have b:∀ i,i<m.ways.length-1->Zb (mkP m l i).cor=true:=fun i hi=>by
  show Zb (corL (atW m i) (rdA m l i) (atW m (i+1)) (rdB m l (i+1)))=true
  unfold corL;rw [if_pos (a i hi)];exact Z0g (Z2o (a i hi))
 have r:frmB m ⟨l,upto (mkP m l) (m.ways.length-1),upto (mkR m) (m.ways.length-1)⟩=true:=by
  unfold frmB;simp only [p,Zq,decide_true,Bool.true_and,decide_eq_true_eq];intro j hj;have n:=s j hj;have c:=rd_le V l (k:=j) (by omega)
  have d:=rd_le V l (k:=j+1) (by omega)
  unfold okP wthB;simp only [Z18 _ hj] at n ⊢;rw [b j hj];have t:=n.1 2 (by omega)
  have q:=n.1 3 (by omega)
  have e:numP 2 (mkP m l j)=(mkP m l j).tm:=rfl;have f:numP 3 (mkP m l j)=(mkP m l j).en:=rfl;rw [e] at t;rw [f] at q;simp only [Bool.true_and,Bool.and_eq_true,decide_eq_true_eq];exact⟨⟨c.2.2.1,c.2.2.2⟩,⟨d.1,d.2.1⟩,t,q,n.2⟩
 refine⟨?_,by unfold chkE;rw [if_pos r]⟩
 unfold chkB;rw [r,Bool.true_and,decide_eq_true_eq];intro i hi;simp only [Zq] at hi;obtain⟨B,F,H⟩:=mk_bef z (R:=upto (mkR m) (m.ways.length-1)) (n:=m.ways.length-1) i hi;obtain⟨o,-,y,G⟩:=Z7I.1 (v i hi);have C:=Z3R (mkR m) hi;have g:mkR m i=homeE m (i+1) (dep m (i+1)):=rfl;unfold lgB lg1 lg2 lg3 lg4;simp only [Z18 _ hi,B,C,g];simp only [Bool.and_eq_true,decide_eq_true_eq,Bool.not_eq_true'];have A:(mkP m l i).fr=rdA m l i:=rfl;have e:(mkP m l i).tw=rdB m l (i+1):=rfl;have f:(mkP m l i).tm=usT m l (i+1):=rfl;have D:(mkP m l i).en=usE m l (i+1):=rfl;have u:(mkP m l i).cor=corL (atW m i) (rdA m l i) (atW m (i+1)) (rdB m l (i+1)):=rfl;have E:rdB m l (i+1)=rdA m l i+gLeg m i (i+1):=rfl;have w:=Z6u (b i hi);rw [u] at w;rw [A,e,f,D,u];unfold ccB clrB at o;rw [Bool.and_eq_true,decide_eq_true_eq,Bool.not_eq_true'] at o;exact⟨⟨Int.le_refl _,by omega⟩,⟨by omega,by omega,Int.le_refl _⟩,⟨y,v i hi⟩,a i hi,w,o.2⟩
def refK (k:Int):Int:=if k=1\/k=5 then 50 else if k=2 then 52 else if k=3 then 51 else if k=4 then 6 else 0
theorem cc_bk {m:Msn} (V:VMsn m) (l:List Int) {a:Nat} (ha:a<m.ways.length):∀ j,j<=dep m a->ccC m a (rdB m l a) j=bkC m a (rdB m l a) j
 | 0,_=>rfl
 | j + 1, h => by
  simp only [ccC,bkC];rw [cc_bk V l ha j (by omega),Zcx V (Z0o V.ways ha (j:=j) (by omega)) (Z0o V.ways ha h) (bk_bd V l ha (by omega)) (bk_bd V l ha h)]
theorem Z7t {m:Msn} (V:VMsn m) (l:List Int) {k:Nat} (hk:k+1<m.ways.length):mkQ m l k=refK (kindV m l k):=by
 have a:=rd_le V l (k:=k) (by omega)
 have b:=rd_le V l (k:=k+1) hk;unfold mkQ kpsE hwE kindV;rw [Zcx V (by omega) hk ⟨a.2.2.1,a.2.2.2⟩ ⟨b.1,b.2.1⟩,cc_bk V l hk _ (qN _)]
 generalize clrB m k (rdA m l k) (k+1) (rdB m l (k+1))=b1;generalize bkC m (k+1) (rdB m l (k+1)) (dep m (k+1))=b2;generalize lieB m (bkR m (k+1) (rdB m l (k+1)) (dep m (k+1)))=b3;by_cases h1:usE m l (k+1)+homeE m (k+1) (dep m (k+1))>m.battery <;> by_cases h2:usT m l (k+1)+homeT m (k+1) (dep m (k+1))>m.deadline <;> simp only [h1,h2,if_true,if_false] <;> cases b1 <;> cases b2 <;> cases b3 <;> decide
theorem Z6S (m:Msn) (l:List Int) (k:Nat):kindV m l k=0\/kindV m l k=1\/kindV m l k=2\/kindV m l k=3\/kindV m l k=4\/kindV m l k=5:=by
 unfold kindV
 repeat' split
 all_goals simp
theorem kpk_in (m:Msn) (l:List Int):kpK m l=0\/kpK m l=1\/kpK m l=2\/kpK m l=3\/kpK m l=4\/kpK m l=5:=by
 unfold kpK leadK
 split
 ·split
  ·exact Z6S m l _
  ·exact .inl rfl
 ·exact .inl rfl
theorem Z3y {m:Msn} {l:List Int} (hr:radOkB m l=true):mkE m l=refK (kpK m l):=by
 have V:=(Zm m).1 (Z0a hr).1;obtain⟨d,b,c⟩:=Z11 m l;unfold mkE kpK leadK;rw [if_pos hr,if_pos hr];have a:∀ j,j<leadN m l->mkQ m l j=0:=fun j hj=>by rw [Z7t V l (by omega),b j hj];decide
 by_cases h:leadN m l<m.ways.length-1
 ·rw [if_pos h,<- Z7t V l (by omega)]
  have e:=Z5a m l (m.ways.length-1) 0 (leadN m l) h (fun j _ hj=>a j (by omega)) (by
   rw [Nat.zero_add,Z7t V l (by omega)]
   have:=c h;rcases Z6S m l (leadN m l) with e | e | e | e | e | e
   ·exact absurd e this
   all_goals (rw [e];decide))
  rwa [Nat.zero_add] at e
 ·rw [if_neg h]
  exact Z59 m l _ 0 fun j _ hj=>a j (by omega)
section
open Go.RowKit
def exQ:Msn:=⟨[⟨0,0,0,0,0⟩,⟨100,0,0,0,0⟩,⟨200,0,0,0,0⟩],hmA,0,[roX],10000,100,0,0,0,1000,1000⟩
theorem Z7R:gLeg exQ 0 1=10/\gLeg exQ 1 2=10/\gLeg exQ 1 0=10/\gLeg exQ 2 0=20:=Z2k hmA
theorem Z6b:tLeg exQ 0 1=1/\tLeg exQ 1 2=1/\tLeg exQ 1 0=1/\tLeg exQ 2 0=2:=Z3U hmA
theorem Z3T:validB exQ=true:=by
 have g:grownV exQ=50:=Z6d hmA;rw [Zm];refine⟨by show 2<=3;decide,by show 3<=41;decide,by show 1<=100;decide,by show waysB [⟨0,0,0,0,0⟩,⟨100,0,0,0,0⟩,⟨200,0,0,0,0⟩]=true;decide,Z0I,?_,by show (0:Int)<=0/\(0:Int)<=100000;decide,by show (1:Int)<=10000/\(10000:Int)<=20000/\(0:Int)<=100/\(100:Int)<=500/\(0:Int)<=0/\(0:Int)<=5000;decide,by show (0:Int)<=0/\(0:Int)<=1000;decide,by show (0:Int)<=0/\(0:Int)<=1000;decide,by show (0:Int)<=1000/\(1000:Int)<=1000000000;decide,by show (0:Int)<=1000/\(1000:Int)<=1000000000;decide,by rw [g];decide⟩
 simp only [rocksB,exQ];refine decide_eq_true fun j hj=>?_
 obtain rfl:j=0:=by simp at hj;omega
 exact Z09
theorem ZaB:rdA exQ [] 0=0/\rdB exQ [] 1=10/\rdA exQ [] 1=10/\rdB exQ [] 2=20:=by
 obtain⟨e,d,-,-⟩:=Z7R;have b:rdA exQ [] 0=0:=rfl;have a:rdB exQ [] 1=10:=by rw [Z0Q,b,e];rfl
 have c:rdA exQ [] 1=10:=by rw [Z0R,if_neg (by simp),a]
 exact⟨b,a,c,by rw [Z0Q,c,d];rfl⟩
theorem exQ_e (i j:Nat):eLeg exQ i j=0:=by simp [eLeg,exQ]
theorem exQ_us:usE exQ [] 1=0/\usT exQ [] 1<=10:=by
 obtain⟨c,-⟩:=Z6b;have a:∀ k,waitT exQ [] k=0:=fun k=>if_neg (by simp)
 have b:exQ.idle=0:=rfl;simp only [usE,usT,a,exQ_e,b,c]
 decide
theorem ZbX:homeE exQ 1 1=0/\homeT exQ 1 1=1:=by
 obtain⟨-,-,a,-⟩:=Z6b;simp only [homeE,homeT,exQ_e];exact⟨rfl,by show 0+tLeg exQ 1 0=1;rw [a];rfl⟩
theorem exQ_bk (r:Int):bkR exQ 1 r 1=r+10/\bkC exQ 1 r 1=clrB exQ 1 r 0 (r+10):=by
 obtain⟨-,-,b,-⟩:=Z7R;have a:bkR exQ 1 r 1=r+10:=by show r+gLeg exQ 1 0=_;rw [b]
 exact⟨a,by show (true && clrB exQ 1 r 0 (bkR exQ 1 r 1))=_;rw [a];rfl⟩
theorem exQ_k0:kindV exQ [] 0=0:=by
 obtain⟨b,a,-,-⟩:=ZaB;obtain⟨d,o⟩:=exQ_us;obtain⟨k,e⟩:=ZbX;obtain⟨m,f⟩:=exQ_bk 10;have c:exQ.battery=1000:=rfl;have l:exQ.deadline=1000:=rfl;have n:clrB exQ 0 0 1 10=true:=Zb0 hmA;have g:clrB exQ 1 10 0 20=true:=ZaZ hmA;have j:lieB exQ 20=true:=Z2w;unfold kindV;rw [show (0:Nat)+1=1 from rfl,b,a,n,show dep exQ 1=1 from rfl,f,m,show (10:Int)+10=20 from rfl,g,j,if_neg (by decide),if_neg (by decide),if_neg (by decide),d,k,c,e,l,if_neg (by decide),if_neg (by omega)]
theorem ZaD:kindV exQ [] 1=1:=by
 obtain⟨-,-,a,b⟩:=ZaB;have c:clrB exQ 1 10 2 20=false:=ZcA hmA;unfold kindV;rw [show (1:Nat)+1=2 from rfl,a,b,c,if_pos rfl]
theorem Z7Q:radOkB exQ []=true:=by
 unfold radOkB;rw [Z3T,Bool.true_and];unfold stopsB;exact decide_eq_true fun k hk=>absurd hk (by simp)
theorem Z3c:leadN exQ []=1:=Z38 (by show 1<=3-1;decide) (fun j hj=>by
 obtain rfl:j=0:=by omega
 exact exQ_k0) (fun _=>by rw [ZaD];decide)
theorem ZaC:kpL exQ []=1/\kpK exQ []=1:=by
 obtain⟨b,a,-⟩:=kp_of Z7Q;exact⟨by rw [b];unfold leadV;rw [Z3c];rfl,by rw [a];unfold leadK;rw [Z3c,if_pos (by show 1<3-1;decide),ZaD]⟩
theorem Zd9:rfB exQ=true/\rfL exQ=[]:=by
 have a:(bestP exQ).2=[]:=List.sublist_nil.1 (Z89 exQ);have b:(bestP exQ).1=1:=by rw [<- Z6o,a];exact ZaC.1
 have e:rfB exQ=true:=by
  unfold rfB;rw [Z3T,b]
  show (true && !decide ((1:Int)=((3-1:Nat):Int)))=true
  decide
 exact⟨e,by unfold rfL;rw [if_pos e,a]⟩
theorem ZbW:mkE exQ []=50:=by
 rw [Z3y Z7Q,ZaC.2]
 decide
theorem Zd7:ownC exQ [] 1=c3L:=by
 obtain⟨-,-,a,b⟩:=ZaB;unfold ownC;rw [show 1+1=2 from rfl,a,b,show atW exQ 1=⟨100,0⟩ from rfl,show atW exQ 2=⟨200,0⟩ from rfl,Zcz]
theorem c3_com:∃ x,comX c3L roX=some x:=by
 have b:comL c3L roX 1=[⟨190,15⟩]:=by show cornersP roX c3L=_;unfold cornersP;rw [ZJ Z1M];decide +kernel
 unfold comX;by_cases h:(comL c3L roX 0).length≠0
 ·rw [if_pos h];exact⟨_,rfl⟩
 ·rw [if_neg h,b,if_pos (by decide)];exact⟨_,rfl⟩
theorem Zd8:outE exQ (ownC exQ [] 1)=0:=by
 have a:okRocks c3L [roX]=true:=by
  unfold okRocks;rw [Z1M,Bool.true_and];refine decide_eq_true fun j hj=>?_
  obtain rfl:j=0:=by simp at hj;omega
  exact Z09
 have b:hitTo c3L [roX] 1=some 0:=by
  have d:rk [roX] 0=roX:=rfl;simp [hitTo,d,Z81]
 have e:firI c3L [roX]=0:=by unfold firI;simp [a,b,natO]
 unfold outE;rw [Zd7,show exQ.rocks=[roX] from rfl,e,show rk [roX] (0:Int).toNat=roX from rfl]
 obtain⟨x,c⟩:=c3_com;unfold hitE;rw [Z1M,Z09,c]
 rfl
theorem Z2U:mkE (exP hmA) [1]=0/\(mkC (exP hmA) [1]).psg.length=2/\(pgd (mkC (exP hmA) [1]).psg 1).tw=12:=by
 have h:mkE (exP hmA) [1]=0:=by rw [Z3y (ZaG Z0I).2.1,exA_1.2.1];decide
 refine⟨h,?_,?_⟩
 ·rw [Z2R h];exact Zq _ _
 ·rw [Z2R h]
  show (pgd (upto (mkP (exP hmA) [1]) 2) 1).tw=12
  rw [Z18 _ (by decide)]
  exact (ZaF hmA).2.2.2
end
section
attribute [local irreducible] wpQuiet
open Go.RowKit
theorem Z51 (x y:Int) (w:World) :
  Calls Tryz.prog 60 #[O qL x,O qL y] w fun e w'=>e=.returned (.agg #[O qL x,O qL y])/\Below w.heap.size w w':=by
 go_enter Tryz.func60,Tryz.ntmps60;go_wp2;exact bodyPost_ret (v:=.agg #[O qL x,O qL y]) (by simp [results,Tryz.f60,go_sem]) rfl ⟨rfl,zB2⟩
theorem exP_at {W:World} {a b c d:Nat} (h1:Has W a #[O qL 0,O qL 0,O qL 0,O qL 0,O qL 0,O qL 100,O qL 0,O qL 2,O qL 0,O qL 0,O qL 200,O qL 0,O qL 0,O qL 0,O qL 0] 65) (h2:Has W b #[O qL (-100),O qL (-100),O qL 100,O qL (-100),O qL 100,O qL 100,O qL (-100),O qL 100] 36) (h3:Has W c #[O qL 185,O qL 90,O qL 190,O qL 15,O qL 195,O qL 90] 36) (h4:Has W d #[qS (some ⟨c,0,none⟩) 3 3] 23) :
  MsnAt W.heap.size W (exP hmA) (qS (some ⟨a,0,none⟩) 3 3) (qS (some ⟨b,0,none⟩) 4 4) (qS (some ⟨d,0,none⟩) 1 1):=by
 refine⟨⟨by simp [exP],some ⟨a,0,none⟩,0,rfl,.inr ⟨a,0,rfl,h1.lt,fun j hj=>?_⟩⟩,Z7.has (l:=hmA) (cap:=0) h2 (by simp [hmA]) rfl,Z6.has (ls:=[roX]) (cap:=0) h4 (by simp) fun j hj=>?_⟩
 ·rcases (show j=0\/j=1\/j=2 by simp [exP] at hj;omega) with rfl | rfl | rfl
  ·exact⟨cX 0 h1 rfl,cX 1 h1 rfl,cX 2 h1 rfl,cX 3 h1 rfl,cX 4 h1 rfl⟩
  ·exact⟨cX 5 h1 rfl,cX 6 h1 rfl,cX 7 h1 rfl,cX 8 h1 rfl,cX 9 h1 rfl⟩
  ·exact⟨cX 10 h1 rfl,cX 11 h1 rfl,cX 12 h1 rfl,cX 13 h1 rfl,cX 14 h1 rfl⟩
 ·obtain rfl:j=0:=by simp at hj;omega
  exact⟨_,rfl,Z7.has (l:=roX) (cap:=0) h3 (by simp [roX]) rfl⟩
theorem exQ_at {W:World} {a b c d:Nat} (h1:Has W a #[O qL 0,O qL 0,O qL 0,O qL 0,O qL 0,O qL 100,O qL 0,O qL 0,O qL 0,O qL 0,O qL 200,O qL 0,O qL 0,O qL 0,O qL 0] 65) (h2:Has W b #[O qL (-100),O qL (-100),O qL 100,O qL (-100),O qL 100,O qL 100,O qL (-100),O qL 100] 36) (h3:Has W c #[O qL 185,O qL 90,O qL 190,O qL 15,O qL 195,O qL 90] 36) (h4:Has W d #[qS (some ⟨c,0,none⟩) 3 3] 23) :
  MsnAt W.heap.size W exQ (qS (some ⟨a,0,none⟩) 3 3) (qS (some ⟨b,0,none⟩) 4 4) (qS (some ⟨d,0,none⟩) 1 1):=by
 refine⟨⟨by simp [exQ],some ⟨a,0,none⟩,0,rfl,.inr ⟨a,0,rfl,h1.lt,fun j hj=>?_⟩⟩,Z7.has (l:=hmA) (cap:=0) h2 (by simp [hmA]) rfl,Z6.has (ls:=[roX]) (cap:=0) h4 (by simp) fun j hj=>?_⟩
 ·rcases (show j=0\/j=1\/j=2 by simp [exQ] at hj;omega) with rfl | rfl | rfl
  ·exact⟨cX 0 h1 rfl,cX 1 h1 rfl,cX 2 h1 rfl,cX 3 h1 rfl,cX 4 h1 rfl⟩
  ·exact⟨cX 5 h1 rfl,cX 6 h1 rfl,cX 7 h1 rfl,cX 8 h1 rfl,cX 9 h1 rfl⟩
  ·exact⟨cX 10 h1 rfl,cX 11 h1 rfl,cX 12 h1 rfl,cX 13 h1 rfl,cX 14 h1 rfl⟩
 ·obtain rfl:j=0:=by simp at hj;omega
  exact⟨_,rfl,Z7.has (l:=roX) (cap:=0) h3 (by simp [roX]) rfl⟩
theorem set11 {X Z:World} {B:Nat} {cs:Array Value} {T:TypeId} {v0 v1 v2 v3 v4 v5 v6 v7 v8 v9 v10:Value} (H:Has X B cs T) (hs:cs.size=11) (hz:(((((((((((X.setCell ⟨B,0,none⟩ v0).setCell ⟨B,1,none⟩ v1).setCell ⟨B,2,none⟩ v2).setCell ⟨B,3,none⟩ v3).setCell ⟨B,4,none⟩ v4).setCell ⟨B,5,none⟩ v5).setCell ⟨B,6,none⟩ v6).setCell ⟨B,7,none⟩ v7).setCell ⟨B,8,none⟩ v8).setCell ⟨B,9,none⟩ v9).setCell ⟨B,10,none⟩ v10)=Z) :
  Has Z B #[v0,v1,v2,v3,v4,v5,v6,v7,v8,v9,v10] T/\(∀ n,n<=B->Below n X Z)/\Z.heap.size=X.heap.size/\∀ b,b≠B->Z.heap[b]?=X.heap[b]?:=by
 subst hz;obtain⟨l,rfl⟩:∃ l:List Value,cs=l.toArray:=⟨cs.toList,by simp⟩
 obtain⟨g,d,m,e,j,f,k,o,c,q,a,rfl⟩:∃ g d m e j f k o c q a,l=[g,d,m,e,j,f,k,o,c,q,a]:=by
  match l,hs with
  | [g,d,m,e,j,f,k,o,c,q,a],_=>exact⟨_,_,_,_,_,_,_,_,_,_,_,rfl⟩
 refine⟨?_,fun n hn=>?_,by simp,fun b hb=>?_⟩
 ·have:=(((((((((((H.set 0 v0).set 1 v1).set 2 v2).set 3 v3).set 4 v4).set 5 v5).set 6 v6).set 7 v7).set 8 v8).set 9 v9).set 10 v10)
  simpa only [zq4,zr4,zs4] using this
 ·exact ((((((((((((qK n X).setCell (p:=⟨B,0,none⟩) hn v0).setCell (p:=⟨B,1,none⟩) hn v1).setCell (p:=⟨B,2,none⟩) hn v2).setCell (p:=⟨B,3,none⟩) hn v3).setCell (p:=⟨B,4,none⟩) hn v4).setCell (p:=⟨B,5,none⟩) hn v5).setCell (p:=⟨B,6,none⟩) hn v6).setCell (p:=⟨B,7,none⟩) hn v7).setCell (p:=⟨B,8,none⟩) hn v8).setCell (p:=⟨B,9,none⟩) hn v9).setCell (p:=⟨B,10,none⟩) hn v10)
 ·iterate 11 (rw [Below.heap_setCell _ _ _ _ (by exact hb)])
theorem Zbg (w:World):Calls Tryz.prog 28 #[] w fun e w'=>∃ a b c d,e=.returned (.agg (Zc (exP hmA) (qS (some ⟨a,0,none⟩) 3 3) (qS (some ⟨b,0,none⟩) 4 4) (qS (some ⟨d,0,none⟩) 1 1)))/\Has w' a #[O qL 0,O qL 0,O qL 0,O qL 0,O qL 0,O qL 100,O qL 0,O qL 2,O qL 0,O qL 0,O qL 200,O qL 0,O qL 0,O qL 0,O qL 0] 65/\Has w' b #[O qL (-100),O qL (-100),O qL 100,O qL (-100),O qL 100,O qL 100,O qL (-100),O qL 100] 36/\Has w' c #[O qL 185,O qL 90,O qL 190,O qL 15,O qL 195,O qL 90] 36/\Has w' d #[qS (some ⟨c,0,none⟩) 3 3] 23/\(w.heap.size<=a/\b≠a/\c≠a/\d≠a)/\Below w.heap.size w w':=by
 have o:=qH (fun x y P=>Z51 x y P)
 have k:=qH (qK w.heap.size w);go_enter Tryz.func28,Tryz.ntmps28;go_wp2_with fail;generalize r:qV w _=X0;obtain⟨n,l,hzX0⟩:=box1 r;clear r;have k:=qH l;clear l;have RV:=qH n;clear n;refine (o.out (-100) (-100) X0).mono ?_;rintro e P ⟨rfl,Q⟩;replace k:=zAd k Q;have f:=qH Q;clear Q;go_wp2_with fail;refine (o.out 100 (-100) P).mono ?_;rintro e w2 ⟨rfl,J⟩;replace k:=zAd k J;replace f:=zAd f J;clear J;go_wp2_with fail;refine (o.out 100 100 w2).mono ?_;rintro e w3 ⟨rfl,U⟩;replace k:=zAd k U;replace f:=zAd f U;clear U;go_wp2_with fail;refine (o.out (-100) 100 w3).mono ?_;rintro e w4 ⟨rfl,b4⟩;replace k:=zAd k b4;replace f:=zAd f b4;clear b4;have nh:=qH (show w.heap.size<w4.heap.size by have:=f.out.size;omega)
 go_upto_region 2 with fail
 generalize p:qV w4 _=X1;obtain⟨n,l,C⟩:=box1 p;clear p;replace k:=zAd k l;replace f:=zAd f l;clear l;have HB:=qH n;clear n;go_wp2_with fail;refine (o.out 185 90 X1).mono ?_;rintro e w5 ⟨rfl,I⟩;replace k:=zAd k I;replace f:=zAd f I;have j:=qH I;clear I;go_wp2_with fail;refine (o.out 190 15 w5).mono ?_;rintro e w6 ⟨rfl,G⟩;replace k:=zAd k G;replace f:=zAd f G;replace j:=zAd j G;clear G;go_wp2_with fail;refine (o.out 195 90 w6).mono ?_;rintro e w7 ⟨rfl,H⟩;replace k:=zAd k H;replace f:=zAd f H;replace j:=zAd j H;clear H;have nk:=qH (show w.heap.size<w7.heap.size by have:=f.out.size;omega)
 go_upto_region 3 with fail
 generalize q:qV w7 _=X2;obtain⟨n,l,F⟩:=box1 q;clear q;replace k:=zAd k l;replace f:=zAd f l;replace j:=zAd j l;clear l;have KB:=qH n;clear n;go_wp2_with fail;refine (o.out 100 0 X2).mono ?_;rintro e w8 ⟨rfl,A⟩;replace k:=zAd k A;replace f:=zAd f A;replace j:=zAd j A;have m:=qH A;clear A;go_wp2_with fail;refine (o.out 200 0 w8).mono ?_;rintro e w9 ⟨rfl,E⟩;replace k:=zAd k E;replace f:=zAd f E;replace j:=zAd j E;replace m:=zAd m E;clear E C F;have g:=(zCj RV f);have ltR:=g.lt;have s:=qH (zCj HB j);have u:=qH (zCj KB m);have bl:=qH s.out.lt;have kl:=qH u.out.lt;have Y:=cX 0 g rfl;have z0:=Ze g 0;have M:=cX 1 g rfl;have z1:=Ze g 1;have r2:=cX 2 g rfl;have z2:=Ze g 2;have W:=cX 3 g rfl;have z3:=Ze g 3;have N:=cX 4 g rfl;have z4:=Ze g 4;have L:=cX 5 g rfl;have z5:=Ze g 5;have R:=cX 6 g rfl;have z6:=Ze g 6;have T:=cX 7 g rfl;have z7:=Ze g 7;have r8:=cX 8 g rfl;have z8:=Ze g 8;have r9:=cX 9 g rfl;have z9:=Ze g 9;have z:=cX 10 g rfl;have V:=Ze g 10;have HR:=qH g;clear g;go_wp2;clear Y z0 M z1 r2 z2 W z3 N z4 L z5 R z6 T z7 r8 z8 r9 z9 z V;generalize hZ:qU (qU (qU (qU (qU (qU (qU (qU (qU (qU (qU w9 _ _) _ _) _ _) _ _) _ _) _ _) _ _) _ _) _ _) _ _) _ _=Z;obtain⟨HZ,S,t,B⟩:=set11 HR.out rfl hZ;clear hZ;generalize D:qV (qV Z _) _=X;obtain⟨n,q1,l,-⟩:=box2 D;clear D;have K:w.heap.size<Z.heap.size:=HZ.lt;have g:=HZ.below l K;have hH:=(Has.eq s.out B (by have:=nh.out;omega)).below l (by rw [t];exact s.out.lt)
 have hK:=(Has.eq u.out B (by have:=nk.out;omega)).below l (by rw [t];exact u.out.lt)
 have BX:=k.out.trans ((S w.heap.size (qN _)).trans (l.mono (by omega)))
 have nb:=bl.out;have nc:=kl.out;rw [t] at n q1;have Y:=cX 0 g rfl;have M:=cX 1 g rfl;have r2:=cX 2 g rfl;have W:=cX 3 g rfl;have N:=cX 4 g rfl;have L:=cX 5 g rfl;have R:=cX 6 g rfl;have T:=cX 7 g rfl;have r8:=cX 8 g rfl;have r9:=cX 9 g rfl;have z:=cX 10 g rfl;exact bodyPost_ret (v:=.agg (Zc (exP hmA) _ _ _)) (by simp [results,Zc,exP,Tryz.f28,go_sem,Y,M,r2,W,N,L,R,T,r8,r9,z]) rfl ⟨_,_,_,_,rfl,n,hH,hK,q1,⟨by omega,by omega,by omega,by omega⟩,BX⟩
theorem Has.noslice {W:World} {B:Nat} {cs:Array Value} {T:TypeId} (h:Has W B cs T) (hi:∀ i:Nat,∀ a n c,cs[i]?≠some (qS a n c)) {i:Nat} {a:Option Addr} {n c:Nat} (hc:W.cell? ⟨B,i,none⟩=some (qS a n c)):False:=by
 simp only [World.cell?,show W.heap[B]?=_ from h] at hc
 exact hi i a n c (by simpa using hc)
theorem ZaL {n:Nat} {W:World} {c:Crt} {v1 v2 v3:Value} (h:CrtAt n W c v1 v2 v3):∃ a1 n1 c1 a2 n2 c2 a3 n3 c3,v1=qS a1 n1 c1/\v2=qS a2 n2 c2/\v3=qS a3 n3 c3:=by
 obtain⟨⟨-,a1,c1,d,-⟩,⟨-,a2,c2,a,-⟩,⟨-,a3,c3,b,-⟩⟩:=h;exact⟨_,_,_,_,_,_,_,_,_,d,a,b⟩
theorem ZbM {W:World} {B:Nat} {x:Int} {T:TypeId} (h:Has W B #[O qL x] T):Z8 W.heap.size W (qS (some ⟨B,0,none⟩) 1 1) [x]:=by
 refine⟨by simp,some ⟨B,0,none⟩,0,rfl,.inr ⟨B,0,rfl,h.lt,fun j hj=>?_⟩⟩
 obtain rfl:j=0:=by simp at hj;omega
 exact cX 0 h rfl
theorem Z8I (W:World) (a:Addr) (v:Value):W.grownBy (W.setCell a v) (some a.block):=⟨rfl,rfl,rfl,by simp [qU],fun k _ hk=>Below.heap_setCell _ _ _ k (fun e=>hk (by rw [e]))⟩
theorem Z8a (vw vh vr:Value) (w:World) (hm:MsnAt w.heap.size w exQ vw vh vr):Calls Tryz.prog 10 #[.agg (Zc exQ vw vh vr)] w fun e w'=>∃ v x y,e=.returned (.tuple #[.agg #[v,O qL 1,O qL 1,O qL 0,O qL x,O qL y],.bool true,O qL 0])/\Z8 w'.heap.size w' v []/\Below w.heap.size w w'/\brB exQ [] 1 1 0 ⟨x,y⟩=true:=by
 obtain⟨j,b⟩:=Zd9;refine (Z95 _ vw vh vr w hm (by show 3<=13;decide) j).mono ?_
 rintro e w' ⟨v,q,n,a,f,k,rfl⟩;rw [b,Z3c,ZaD] at a;rw [b] at f;have o:n=0:=by
  rcases a with⟨-,-,rfl,-⟩ | ⟨h,-⟩ | ⟨h,-⟩ | ⟨h,-⟩
  ·exact Zd8
  ·exact absurd h (by decide)
  ·exact absurd h (by decide)
  ·exact absurd h (by decide)
 subst o;rw [if_pos rfl];obtain⟨r,x,rfl,d⟩:=Zbo ((Zm _).1 Z3T) (by show 1+1<3;decide) a
 have l:onR exQ r x=true/\hasB (ownC exQ [] 1) x=true:=by simpa [askB,inO] using d
 have g:r=0:=by
  have c:=l.1;unfold onR at c;simp only [Bool.and_eq_true,decide_eq_true_eq] at c;have:exQ.rocks.length=1:=rfl;omega
 subst g;refine⟨v,x.x,x.y,rfl,f,k,?_⟩;obtain⟨p,m⟩:=ZaC;unfold brB;rw [Z7Q,p,m,Z3c,d]
 rfl
theorem Z6K (w:World):Calls Tryz.prog 5 #[] w fun e w'=>e=.returned (.bool true)/\Below w.heap.size w w':=by
 have fx:=qH (fun w1=>Zbg w1)
 have o:=qH (qK w.heap.size w);go_enter Tryz.func5,Tryz.ntmps5;go_wp2_with fail;refine (fx.out w).mono ?_;rintro e w1 ⟨a,b,c,d,rfl,ha,hb,hc,hd,⟨n0,n1,n2,n3⟩,b1⟩;have o:=qH b1;clear b1;have HA:=qH ha;clear ha;have HB:=qH hb;clear hb;have HC:=qH hc;clear hc;have HD:=qH hd;clear hd;simp only [Zc,exP];have NN:=qH (qI n0 (qI n1 (qI n2 n3)));clear n0 n1 n2 n3;have MM:=qH (exP_at HA.out HB.out HC.out HD.out);go_wp2_with fail;generalize R:qV w1 _=X1;obtain⟨I,l,hzX1⟩:=box1 R;clear R;replace o:=zAd o l;have f:=qH l;clear l;have L:=qH I;clear I hzX1;obtain⟨G,K,D,B,A,F,H,z,J,E,s⟩:=Zh (m:=exP hmA) L.out;have v:=L.out.lt;have g1:=Z9i (exP hmA) _ _ _ X1 ((MM.out.below f.out).mono f.out.size) (by rw [Z1X];decide)
 simp only [Z74.1,Z74.2.1,Z74.2.2.1] at g1;refine (g1).mono ?_;rintro e w2 ⟨v1,rfl,p1,b2,n1'⟩;replace o:=zAd o b2;replace f:=zAd f b2;have j:=qH b2;clear b2;have P1:=qH p1;clear p1 g1;have NB:=qH n1';clear n1';obtain⟨-,ga,gk,hv1,-⟩:=P1.out;subst hv1;clear G K D B A F H z J E s v;obtain⟨G,K,D,B,A,F,H,z,J,E,s⟩:=Zh (m:=exP hmA) (zCj L j);have v:=(zCj L j).lt;go_wp2_with fail;have g2:=Z5b (exP hmA) _ _ _ _ [1] w2 ((MM.out.below f.out).mono f.out.size) P1.out (by simp)
 rw [Z2U.1] at g2;refine (g2).mono ?_;rintro e w3 ⟨v1,v2,v3,rfl,p2,b3⟩;replace o:=zAd o b3;replace f:=zAd f b3;replace j:=zAd j b3;have u:=qH b3;clear b3;have CC:=qH p2;clear p2 g2;obtain⟨ca1,cn1,cc1,ca2,cn2,cc2,ca3,cn3,cc3,rfl,rfl,rfl⟩:=ZaL CC.out;have yw3:=j.out.size;go_upto_region 4 with fail
 generalize N:qV w3 _=X3;obtain⟨I,l,hzX3⟩:=box1 N;clear N;replace o:=zAd o l;replace f:=zAd f l;replace j:=zAd j l;replace u:=zAd u l;have t:=qH l;clear l;have CB:=qH I;clear I hzX3 G K D B A F H z J E s v;obtain⟨G,K,D,B,A,F,H,z,J,E,s⟩:=Zh (m:=exP hmA) (zCj L j);have v:=(zCj L j).lt;have S:=CB.out;have k0':=cX 0 S rfl;have k1':=cX 1 S rfl;have k2':=cX 2 S rfl;go_wp2_with fail;have g3:=ZaW (exP hmA) _ _ _ (mkC (exP hmA) [1]) _ _ _ X3 ((MM.out.below f.out).mono f.out.size) ((CC.out.below t.out).mono t.out.size);rw [(Z58 Z2U.1).1,(Z58 Z2U.1).2] at g3;refine (g3).mono ?_;rintro e V ⟨rfl,b4⟩;replace o:=zAd o b4;replace f:=zAd f b4;replace j:=zAd j b4;replace u:=zAd u b4;replace t:=zAd t b4;have M:=qH b4;clear b4 g3 G K D B A F H z J E s v S k0' k1' k2';have l:=(zCj HA f);have W:=(zCj L j);have l0:V.cell? ⟨w1.heap.size,0,none⟩=some (qS (some ⟨a,0,none⟩) 3 3):=cX 0 W rfl;have l1:=cX 7 l rfl;have l2:=Ze l 7;have zA:=l.lt;obtain⟨-,⟨-,pa,pk,hvp,C⟩,-⟩:=((CC.out.below t.out).mono t.out.size);simp only [Z2U.2.1,Value.slice.injEq] at hvp;obtain⟨rfl,rfl,rfl⟩:=hvp;obtain⟨pb,po,rfl,hpb,C⟩:=C.resolve_left (by intro h;have:=Z2U.2.1;rw [h] at this;exact absurd this (by decide))
 obtain⟨u0,hu0,hu1,-⟩:=C 0 (by rw [Z2U.2.1];decide)
 obtain⟨-,ua,uc,rfl,-⟩:=hu1;obtain⟨-,-,-,-,Y,-⟩:=C 1 (by rw [Z2U.2.1];decide)
 rw [Z2U.2.2] at Y;have npa:pb≠a:=by
  rintro rfl;refine l.noslice (fun i a n c h=>?_) hu0
  match i with
  | 0 | 1 | 2 | 3 | 4 | 5 | 6 | 7 | 8 | 9 | 10 | 11 | 12 | 13 | 14=>simp at h
  | i+15=>simp at h
 have aw:=HA.out.lt;have xw:=L.out.lt;have yw:=j.out.size;have HP:=qH (qI npa Y);have HA9:=qH l;have HB9:=qH (zCj HB f);have HC9:=qH (zCj HC f);have HD9:=qH (zCj HD f);have MB9:=qH W;have CB9:=qH (zCj CB M);have P19:=qH ((P1.out.below u.out).mono u.out.size);have AW:=qH (qI aw xw);clear l W C hu0 Y npa hpb;go_upto_region 6 with fail
 clear l0 l1 l2;generalize hZ:qU V _ _=Z;have X:∀ b,b≠a->(V.setCell ⟨a,7,none⟩ (O qL 0)).heap[b]?=V.heap[b]?:=fun b h=>Below.heap_setCell V ⟨a,7,none⟩ (O qL 0) b h
 have Q:=HA9.out.set 7 (O qL 0);have s2:=(X b NN.out.2.1).trans HB9.out;have s3:=(X c NN.out.2.2.1).trans HC9.out;have s4:=(X d NN.out.2.2.2).trans HD9.out;have s5:=(X _ (by have:=AW.out.1;omega)).trans MB9.out
 have s6:=(X _ (by have:=AW.out;have:=yw3;omega)).trans CB9.out
 have s7:=Z8.offG P19.out (Z8I V ⟨a,7,none⟩ (O qL 0)) (fun r e=>.inr fun e2=>by have h1:=NB.out _ e2;have h2:a=r:=(by simpa using e);have:=AW.out;omega)
 have s8:=o.out.setCell (p:=⟨a,7,none⟩) NN.out.1 (O qL 0);have s9:(V.setCell ⟨a,7,none⟩ (O qL 0)).cell? ⟨pb,po+1*5+2,none⟩=some (O qL 12):=by
  have:=HP.out.2;simp only [World.cell?,X pb HP.out.1] at this ⊢;exact this
 rw [hZ] at Q s2 s3 s4 s5 s6 s7 s8 s9;clear hZ X;simp only [zq4,zr4,zs4] at Q;replace o:=qH s8;have NA:=qH (show Has Z a _ _ from Q)
 have MQ:=qH (exQ_at (show Has Z a _ _ from Q) (show Has Z b _ _ from s2) (show Has Z c _ _ from s3) (show Has Z d _ _ from s4))
 have MZ:=qH (show Has Z _ _ _ from s5)
 have CZ:=qH (show Has Z _ _ _ from s6)
 have PZ:=qH s7;have HS:=qH s9;have hpz:=qH (show pb<Z.heap.size from qO _ _ s9)
 clear Q s2 s3 s4 s5 s6 s7 s8 s9 NA HA HB HC HD MM HA9 HB9 HC9 HD9 MB9 CB9 P19 L CB P1 CC HP AW NN NB f j u t M aw xw yw yw3 zA;obtain⟨G,K,D,B,A,F,H,z,J,E,s⟩:=Zh (m:=exQ) MZ.out;have x:=MZ.out.lt;go_wp2_with fail;have g4:=Z5b exQ _ _ _ (qS none 0 0) [] Z MQ.out (Z8.nil _ _) (by simp)
 rw [ZbW] at g4;refine (g4).mono ?_;rintro e w5 ⟨v4,v5,v6,rfl,p4,b5⟩;replace o:=zAd o b5;have g:=qH b5;clear b5 g4;obtain⟨da1,dn1,dc1,da2,dn2,dc2,da3,dn3,dc3,rfl,rfl,rfl⟩:=ZaL p4;clear p4 G K D B A F H z J E s x;go_upto_region 7 with fail
 generalize P:qV w5 _=X6;obtain⟨-,l,hzX6⟩:=box1 P;clear P;replace o:=zAd o l;replace g:=zAd g l;clear l hzX6;obtain⟨G,K,D,B,A,F,H,z,J,E,s⟩:=Zh (m:=exQ) (zCj MZ g);have x:=(zCj MZ g).lt;go_wp2_with fail;refine (Z8a _ _ _ X6 ((MQ.out.below g.out).mono g.out.size)).mono ?_;rintro e w6 ⟨v7,x7,y7,rfl,p7,b6,hbr⟩;replace o:=zAd o b6;replace g:=zAd g b6;clear b6;have P7:=qH p7;clear p7;obtain⟨-,g7,e7,hv7,-⟩:=P7.out;rw [List.length_nil,Nat.zero_add] at hv7;subst hv7;have HBR:=qH hbr;clear hbr G K D B A F H z J E s x;go_upto_region 8 with fail
 generalize U:qV w6 _=X7;obtain⟨I,l,hzX7⟩:=box1 U;clear U;replace o:=zAd o l;replace g:=zAd g l;have q:=qH l;clear l;have y:=qH I;clear I hzX7;obtain⟨G,K,D,B,A,F,H,z,J,E,s⟩:=Zh (m:=exQ) (zCj MZ g);have x:=(zCj MZ g).lt;have s0:=cX 0 y.out rfl;have Q:=cX 1 y.out rfl;have s2:=cX 2 y.out rfl;have s3:=cX 3 y.out rfl;have s4:=cX 4 y.out rfl;have s5:=cX 5 y.out rfl;go_wp2_with fail;have g8:=Z8W exQ _ _ _ _ [] 1 1 0 ⟨x7,y7⟩ X7 ((MQ.out.below g.out).mono g.out.size) ((P7.out.below q.out).mono q.out.size);rw [HBR.out,(kp_of Z7Q).2.2] at g8;refine (g8).mono ?_;rintro e w7 ⟨rfl,b7⟩;replace o:=zAd o b7;replace g:=zAd g b7;replace q:=zAd q b7;have k:=qH b7;clear b7 g8 G K D B A F H z J E s x s0 Q s2 s3 s4 s5;go_upto_region 10 with fail
 go_wp2_with fail;generalize T:qV w7 _=X9;obtain⟨I,l,hzX9⟩:=box1 T;clear T;replace o:=zAd o l;replace g:=zAd g l;replace q:=zAd q l;replace k:=zAd k l;clear l;have IB:=qH I;clear I hzX9;have g9:=Z8m _ _ [1] [1] X9 ((PZ.out.below g.out).mono g.out.size) (ZbM IB.out);rw [decide_eq_true (rfl:([1]:List Int)=[1])] at g9;refine (g9).mono ?_;rintro e w8 ⟨rfl,b8⟩;replace o:=zAd o b8;replace g:=zAd g b8;replace q:=zAd q b8;replace k:=zAd k b8;have B_X9:=qH b8;clear b8 g9;have S:=(zCj CZ g);have k0':=cX 0 S rfl;have k1':=cX 1 S rfl;have k2':=cX 2 S rfl;have s0:=(zCj y k).cell (i:=0) rfl;have Q:=(zCj y k).cell (i:=1) rfl;have s2:=(zCj y k).cell (i:=2) rfl;have s3:=(zCj y k).cell (i:=3) rfl;have s4:=(zCj y k).cell (i:=4) rfl;have s5:=(zCj y k).cell (i:=5) rfl;have t1:=cY g.out HS.out hpz.out;go_wp2;go_ret;exact⟨rfl,o.out⟩
end
theorem Zbh {m:Msn} {s:List Int} (h:radOkB m s=true):(mkE m s=0/\kpL m s=(m.ways.length:Int)-1)\/(mkE m s≠0/\kpL m s≠(m.ways.length:Int)-1):=by
 have V:=(Zm m).1 (Z0a h).1;have n2:=V.n2;rw [Z3y h];by_cases he:kpL m s=((m.ways.length-1:Nat):Int)
 ·exact .inl ⟨by rw [Za0 h he];decide,by omega⟩
 ·refine .inr ⟨?_,by omega⟩
  have a:=Z5d h he;rcases kpk_in m s with e | e | e | e | e | e
  ·omega
  all_goals (rw [e];decide)
theorem Z2M {p q:List Pt} (h:withinB p q=true):Zb p=true/\Zb q=true/\∀ k,k<p.length->hasB q (nth p k)=true:=by
 unfold withinB cornersP at h;simp only [Bool.and_eq_true,decide_eq_true_eq] at h;exact⟨h.1,h.2.1,Z2n _ h.2.2⟩
theorem Z4e {p q:List Pt} (h:withinB p q=true) {x:Pt} (hx:hasB p x=true):hasB q x=true:=by
 obtain⟨g,f,e⟩:=Z2M h;have d:GoValid p:=by simpa [Zb] using g
 have c:GoValid q:=by simpa [Zb] using f
 have a:Z3 x=true:=by
  unfold hasB at hx;simp only [Bool.and_eq_true] at hx;exact hx.1.2
 have b:∀ k,k<p.length->inside q (nth p k)=true:=fun k hk=>by
  have:=e k hk;unfold hasB at this;simp only [Bool.and_eq_true] at this;exact this.2
 rw [Z0T c a];exact ZM c.1 (Z2y d b c (Z01 d ((Z0T d a).1 hx)))
theorem ZaV {m:Msn} {c:Crt} (h:chkB m c=true):frmB m c=true/\∀ i,i<c.psg.length->lgB m c i=true:=by
 unfold chkB at h
 rwa [Bool.and_eq_true,decide_eq_true_eq] at h
theorem Z7s {m:Msn} (V:VMsn m) {j:Nat} (hj:j<m.rocks.length):Zb (rk m.rocks j)=true:=by
 have h:=V.rocks;unfold rocksB at h;exact of_decide_eq_true h j hj
theorem Zcl {x y z k n M:Int} (hn:0<n) (hk:0<=k) (hkn:k<=n) (e:n*z=(n-k)*x+k*y) (x1:-M<=x) (x2:x<=M) (y1:-M<=y) (y2:y<=M):-M<=z/\z<=M:=by
 have f:(n-k)*x<=(n-k)*M:=Int.mul_le_mul_of_nonneg_left x2 (by omega)
 have d:k*y<=k*M:=Int.mul_le_mul_of_nonneg_left y2 hk;have b:(n-k)*-M<=(n-k)*x:=Int.mul_le_mul_of_nonneg_left x1 (by omega)
 have c:k*-M<=k*y:=Int.mul_le_mul_of_nonneg_left y1 hk;have g:(n-k)*M+k*M=n*M:=by rw [<- Int.add_mul];congr 1;omega
 have a:(n-k)*-M+k*-M=n*-M:=by rw [<- Int.add_mul];congr 1;omega
 exact⟨Int.le_of_mul_le_mul_left (by omega:n*-M<=n*z) hn,Int.le_of_mul_le_mul_left (by omega:n*z<=n*M) hn⟩
theorem Z9M {m:Msn} {c:Crt} {i:Nat} (V:VMsn m) (_hi:i+1<m.ways.length) (hgv:Zb (pgd c.psg i).cor=true) (h4:lg4 m c i=true) {x y z:Pt} {k n:Nat} (hn:0<n) (hkn:k<=n) (hx:Z3 x=true) (hy:Z3 y=true)
  (ex:(n:Int)*z.x=((n:Int)-k)*x.x+k*y.x) (ey:(n:Int)*z.y=((n:Int)-k)*x.y+k*y.y)
  (nx:(x.x-(atW m i).x)*(x.x-(atW m i).x)+(x.y-(atW m i).y)*(x.y-(atW m i).y)<=(pgd c.psg i).fr*(pgd c.psg i).fr) (ny:(y.x-(atW m (i+1)).x)*(y.x-(atW m (i+1)).x)+(y.y-(atW m (i+1)).y)*(y.y-(atW m (i+1)).y)<=(pgd c.psg i).tw*(pgd c.psg i).tw) :
  Z3 z=true/\hasB (pgd c.psg i).cor z=true/\∀ j,j<m.rocks.length->inside (rk m.rocks j) z=false:=by
 have d:=Zt hx;have b:=Zt hy;have G:=Zcl (M:=500000) (by omega) (by omega) (by omega) ex d.1 d.2.1 b.1 b.2.1
 have F:=Zcl (M:=500000) (by omega) (by omega) (by omega) ey d.2.2.1 d.2.2.2 b.2.2.1 b.2.2.2
 have f:Z3 z=true:=by unfold Z3 placeB;rw [decide_eq_true_eq];omega
 unfold lg4 at h4;simp only [Bool.and_eq_true,decide_eq_true_eq,Bool.not_eq_true'] at h4;obtain⟨l,v,B⟩:=h4;have a:=Z6h l (p:=⟨x.x-(atW m i).x,x.y-(atW m i).y⟩) (q:=⟨y.x-(atW m (i+1)).x,y.y-(atW m (i+1)).y⟩) nx ny (s:=(n:Int)-k) (t:=k) (x:=z.x) (y:=z.y) (by omega) (by omega) (by omega)
  (by show ((n:Int)-k+k)*z.x=((n:Int)-k)*((atW m i).x+(x.x-(atW m i).x))+k*((atW m (i+1)).x+(y.x-(atW m (i+1)).x));rw [show (n:Int)-k+k=n by omega,show (atW m i).x+(x.x-(atW m i).x)=x.x by omega,show (atW m (i+1)).x+(y.x-(atW m (i+1)).x)=y.x by omega];exact ex)
  (by show ((n:Int)-k+k)*z.y=((n:Int)-k)*((atW m i).y+(x.y-(atW m i).y))+k*((atW m (i+1)).y+(y.y-(atW m (i+1)).y));rw [show (n:Int)-k+k=n by omega,show (atW m i).y+(x.y-(atW m i).y)=x.y by omega,show (atW m (i+1)).y+(y.y-(atW m (i+1)).y)=y.y by omega];exact ey)
 have w:corL (atW m i) (pgd c.psg i).fr (atW m (i+1)) (pgd c.psg i).tw=corH (atW m i) (pgd c.psg i).fr.toNat (atW m (i+1)) (pgd c.psg i).tw.toNat:=if_pos l;rw [<- w] at a;obtain⟨E,-,-⟩:=Z2M v;have o:GoValid (corL (atW m i) (pgd c.psg i).fr (atW m (i+1)) (pgd c.psg i).tw):=by simpa [Zb] using E
 have r:hasB (pgd c.psg i).cor z=true:=Z4e v ((Z0T o f).2 (ZM o.1 a));refine⟨f,r,fun j hj=>?_⟩
 have g:Zb (rk m.rocks j)=true:=Z7s V hj;have C:touchB (pgd c.psg i).cor (rk m.rocks j)=false:=by
  have A:okRocks (pgd c.psg i).cor m.rocks=true:=by unfold okRocks;rw [hgv,Bool.true_and];exact V.rocks
  have e:=B;unfold firB at e;rw [if_pos ⟨V.nr,A⟩] at e;exact (Z7M _).1 e j hj
 have u:=ZaT hgv g C r;have D:GoValid (rk m.rocks j):=by simpa [Zb] using g
 cases hc:inside (rk m.rocks j) z
 ·rfl
 ·rw [(Z0T D f).2 hc] at u;cases u
theorem Z3s {a b:Int} (hb:0<=b) (h:a*a<=b*b):a<=b:=by
 rcases Int.lt_or_le b a with c | c
 ·have e:=Int.mul_le_mul (show b+1<=a by omega) (show b+1<=a by omega) (by omega) (by omega)
  have d:(b+1)*(b+1)=b*b+2*b+1:=by grind
  omega
 ·exact c
def wn (x y r:Int):Prop:=x*x+y*y<=r*r
instance (x y r:Int):Decidable (wn x y r):=by unfold wn;infer_instance
theorem Zck {a b c d r g:Int} (hr:0<=r) (hg:0<=g) (h1:wn a b r) (h2:wn c d g):wn (a+c) (b+d) (r+g):=by
 unfold wn at *;have n:(a*a+b*b)*(c*c+d*d)<=(r*r)*(g*g):=Int.mul_le_mul h1 h2 (by have:=sq_nn c;have:=sq_nn d;omega) (Int.mul_nonneg hr hr)
 have j:(a*c+b*d)*(a*c+b*d)+(a*d-b*c)*(a*d-b*c)=(a*a+b*b)*(c*c+d*d):=by grind
 have k:=sq_nn (a*d-b*c);have e:(r*r)*(g*g)=(r*g)*(r*g):=by grind
 have f:a*c+b*d<=r*g:=Z3s (Int.mul_nonneg hr hg) (by omega)
 have m:(a+c)*(a+c)+(b+d)*(b+d)=(a*a+b*b)+2*(a*c+b*d)+(c*c+d*d):=by grind
 have l:(r+g)*(r+g)=r*r+2*(r*g)+g*g:=by grind
 omega
theorem wn_bd {x y r:Int} (hr:0<=r) (h:wn x y r):-r<=x/\x<=r/\-r<=y/\y<=r:=by
 unfold wn at h;have f:=sq_nn x;have j:=sq_nn y;have e:-x*-x=x*x:=Int.neg_mul_neg x x;have g:-y*-y=y*y:=Int.neg_mul_neg y y;have a:=Z3s (a:=x) hr (by omega)
 have b:=Z3s (a:=-x) hr (by omega)
 have c:=Z3s (a:=y) hr (by omega)
 have d:=Z3s (a:=-y) hr (by omega)
 omega
theorem Z96 {x y r s:Int} (hr:0<=r) (hs:r<=s) (h:wn x y r):wn x y s:=by
 unfold wn at *;have:=Int.mul_le_mul hs hs hr (by omega)
 omega
theorem Z9n {m:Msn} {l:List Int} (hE:mkE m l=0) {k:Nat} (hk:k+1<m.ways.length):kindV m l k=0:=by
 obtain⟨b,a⟩:=mk_ok hE;have h:=a k (by omega)
 rw [Z7t ((Zm m).1 (Z0a b).1) l hk] at h;rcases Z6S m l k with e | e | e | e | e | e
 ·exact e
 all_goals (rw [e] at h;exact absurd h (by decide))
theorem Zbm {m:Msn} {l:List Int} (hE:mkE m l=0) {k:Nat} (hk:k+1<m.ways.length):lieB m (bkR m (k+1) (rdB m l (k+1)) (dep m (k+1)))=true/\usE m l (k+1)+homeE m (k+1) (dep m (k+1))<=m.battery/\usT m l (k+1)+homeT m (k+1) (dep m (k+1))<=m.deadline:=by
 have h:=Z9n hE hk;unfold kindV at h
 split at h
 ·omega
 split at h
 ·omega
 split at h
 ·omega
 rename_i h3
 split at h
 ·omega
 split at h
 ·omega
 exact⟨by simpa using h3,by omega,by omega⟩
theorem Z7o {m:Msn} {l:List Int} (hE:mkE m l=0) {k:Nat} (hk:k+1<m.ways.length):pgd (mkC m l).psg k=mkP m l k/\Zb (mkP m l k).cor=true/\lg4 m (mkC m l) k=true:=by
 obtain⟨d,f⟩:=ZaV (Z58 hE).1;have c:pgd (mkC m l).psg k=mkP m l k:=by rw [Z2R hE];exact Z18 _ (by omega)
 have e:k<(mkC m l).psg.length:=by rw [Z2R hE];show k<(upto (mkP m l) (m.ways.length-1)).length;rw [Zq];omega
 have b:=f k e;unfold lgB at b;simp only [Bool.and_eq_true] at b;refine⟨c,?_,by simp_all⟩
 unfold frmB at d;simp only [Bool.and_eq_true,decide_eq_true_eq] at d;have a:okP (mkC m l) k=true:=by simp_all
 unfold okP at a;rw [c] at a;simp only [Bool.and_eq_true] at a
 simp_all
theorem Zbj {m:Msn} {l:List Int} (hE:mkE m l=0) {i:Nat} (hi:i+1<m.ways.length) {ox oy nx ny:Int} (h1:wn ox oy (rdA m l i)) (h2:wn nx ny (rdB m l (i+1))) {n s:Nat} (hn:0<n) (hs:s<=n) {z:Pt}
  (ex:(n:Int)*z.x=((atW m i).x+ox)*((n:Int)-s)+((atW m (i+1)).x+nx)*s) (ey:(n:Int)*z.y=((atW m i).y+oy)*((n:Int)-s)+((atW m (i+1)).y+ny)*s) :
  Z3 z=true/\hasB (mkP m l i).cor z=true/\∀ j,j<m.rocks.length->hasB (rk m.rocks j) z=false/\Zb (rk m.rocks j)=true:=by
 obtain⟨f,-⟩:=mk_ok hE;have V:=(Zm m).1 (Z0a f).1;obtain⟨e,g,w⟩:=Z7o hE hi;have E:=rd_le V l (k:=i) (by omega)
 have B:=rd_le V l (k:=i+1) hi;have C:=Z0U V (k:=i) (by omega)
 have F:=Z0U V (k:=i+1) hi;have D:=wn_bd (by omega) h1
 have A:=wn_bd (by omega) h2
 have v:Z3 ⟨(atW m i).x+ox,(atW m i).y+oy⟩=true:=by
  unfold Z3 placeB;rw [decide_eq_true_eq];simp only;omega
 have t:Z3 ⟨(atW m (i+1)).x+nx,(atW m (i+1)).y+ny⟩=true:=by
  unfold Z3 placeB;rw [decide_eq_true_eq];simp only;omega
 have r:(mkP m l i).fr=rdA m l i:=rfl;have o:(mkP m l i).tw=rdB m l (i+1):=rfl;obtain⟨d,a,p⟩:=Z9M (c:=mkC m l) (z:=z) V hi (by rw [e];exact g) w (x:=⟨(atW m i).x+ox,(atW m i).y+oy⟩) (y:=⟨(atW m (i+1)).x+nx,(atW m (i+1)).y+ny⟩) hn hs v t
  (by rw [ex];simp only;rw [Int.mul_comm ((n:Int)-s),Int.mul_comm (s:Int)]) (by rw [ey];simp only;rw [Int.mul_comm ((n:Int)-s),Int.mul_comm (s:Int)])
  (by rw [e,r];simp only;rw [show (atW m i).x+ox-(atW m i).x=ox by omega,show (atW m i).y+oy-(atW m i).y=oy by omega];exact h1)
  (by rw [e,o];simp only;rw [show (atW m (i+1)).x+nx-(atW m (i+1)).x=nx by omega,show (atW m (i+1)).y+ny-(atW m (i+1)).y=ny by omega];exact h2)
 rw [e] at a;refine⟨d,a,fun j hj=>?_⟩
 have b:=Z7s V hj;have u:GoValid (rk m.rocks j):=by simpa [Zb] using b
 refine⟨?_,b⟩;have:=Z0T u d;have q:=p j hj;cases hb:hasB (rk m.rocks j) z
 ·rfl
 ·rw [this.1 hb] at q;cases q
theorem Z9o {m:Msn} (V:VMsn m) {r:Int} (hr:0<=r/\r<=100000) (h:lieB m r=true) {x y:Int} (hxy:wn x y r):Z3 ⟨(atW m 0).x+x,(atW m 0).y+y⟩=true/\hasB m.home ⟨(atW m 0).x+x,(atW m 0).y+y⟩=true:=by
 obtain⟨j,g⟩:=hm_eq V hr;have d:=(Z7H V hr).2.2;rw [j,h] at d;have a:=Z0U V (k:=0) (by have:=V.n2;omega)
 have b:=wn_bd hr.1 hxy;have e:Z3 ⟨(atW m 0).x+x,(atW m 0).y+y⟩=true:=by
  unfold Z3 placeB;rw [decide_eq_true_eq];simp only;omega
 have G:GoValid (mvL (atW m 0) (Z4 r.toNat)):=by simpa [Zb] using g
 have D:=Z0t (n:=r.toNat) (by omega)
 have c:=Zac (atW m 0) D.1 (x:=⟨x,y⟩) (Z2J (by rw [show ((r.toNat:Nat):Int)=r by omega];exact hxy))
 have f:mvP (atW m 0) ⟨x,y⟩=⟨(atW m 0).x+x,(atW m 0).y+y⟩:=by unfold mvP;rw [Int.add_comm x,Int.add_comm y]
 rw [f] at c;exact⟨e,Z4e d ((Z0T G e).2 (ZM G.1 c))⟩
theorem Z9m {m:Msn} {l:List Int} (V:VMsn m) {i:Nat} (hi:i+1<m.ways.length) {ox oy gx gy:Int} (h1:wn ox oy (rdA m l i)) (h2:wn gx gy (gLeg m i (i+1))):wn (ox+gx) (oy+gy) (rdB m l (i+1)):=by
 have a:=rd_le V l (k:=i) (by omega)
 have g:=ZW V.leg V.ways (i:=i) (j:=i+1) (by omega) hi
 rw [Z0Q];exact Zck (by omega) (by omega) h1 h2
end Go.Proofs.YthipcinibldgnaaGreat
