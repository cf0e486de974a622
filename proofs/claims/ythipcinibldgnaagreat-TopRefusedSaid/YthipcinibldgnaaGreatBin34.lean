/- package cert: Make. | Passages and integers appended to an empty row of the call's own; one number of a certificate less. | the example of layer 36 .. -/
import Derived.Test.YthipcinibldgnaaGreatBin29
import Derived.Test.YthipcinibldgnaaGreatBin33
open Go.Value renaming int->O,pointer->qP,slice->qS
open Go.Obj renaming cells->qC
open Go.IntKind renaming i64->qL
open Go.Lib renaming hid->qH
open Go.RowKit.Below renaming refl->qK
open Go.World renaming setCell->qU,block_lt_of_cell?->qO
open Nat renaming le_refl->qN
open And renaming intro->qI
open Go.Act renaming put->qJ
namespace Go.Proofs.YthipcinibldgnaaGreat
section
attribute [local irreducible] wpQuiet
open Go.RowKit
noncomputable def mkP (m:Msn) (l:List Int) (k:Nat):Psg:=⟨corL (atW m k) (rdA m l k) (atW m (k+1)) (rdB m l (k+1)),rdA m l k,rdB m l (k+1),usT m l (k+1),usE m l (k+1)⟩
def mkR (m:Msn) (k:Nat):Int:=homeE m (k+1) (dep m (k+1))
noncomputable def mkQ (m:Msn) (l:List Int) (k:Nat):Int:=kpsE m k (rdA m l k) (rdB m l (k+1)) (usT m l (k+1)) (usE m l (k+1))
noncomputable def mkF (m:Msn) (l:List Int):Nat->Nat->Int
 | 0,_=>0
 | n+1,k=>if mkQ m l k=0 then mkF m l n (k+1) else mkQ m l k
noncomputable def mkE (m:Msn) (l:List Int):Int:=if radOkB m l=true then mkF m l (m.ways.length-1) 0 else 1
noncomputable def mkC (m:Msn) (l:List Int):Crt:=if mkE m l=0 then ⟨l,upto (mkP m l) (m.ways.length-1),upto (mkR m) (m.ways.length-1)⟩ else ⟨[],[],[]⟩
theorem Z4S (m:Msn) (l:List Int):∀ n k i,i<n->(∀ j,k<=j->j<k+i->mkQ m l j=0)->mkQ m l (k+i)≠0->mkF m l n k=mkQ m l (k+i)
 | 0,_,_,h,_,_=>by omega
 | n+1,k,0,_,_,h=>by rw [Nat.add_zero] at h ⊢;exact if_neg h
 | n + 1, k, i + 1, hi, h0, h => by
  have e:=Z4S m l n (k+1) i (by omega) (fun j h1 h2=>h0 j (by omega) (by omega)) (by rw [show k+1+i=k+(i+1) by omega];exact h)
  rw [show k+1+i=k+(i+1) by omega] at e
  rw [<- e];exact if_pos (h0 k (qN _) (by omega))
theorem Z4R (m:Msn) (l:List Int):∀ n k,(∀ j,k<=j->j<k+n->mkQ m l j=0)->mkF m l n k=0
 | 0,_,_=>rfl
 | n+1,k,h=>(if_pos (h k (qN _) (by omega))).trans (Z4R m l n (k+1) (fun j h1 h2=>h j (by omega) (by omega)))
theorem set3 {X Z:World} {B:Nat} {a b c:Value} {T:TypeId} {v0 v1 v2:Value} (H:Has X B #[a,b,c] T) (hz:((X.setCell ⟨B,0,none⟩ v0).setCell ⟨B,1,none⟩ v1).setCell ⟨B,2,none⟩ v2=Z) :
  Has Z B #[v0,v1,v2] T/\(∀ n,n<=B->Below n X Z)/\X.grownBy Z (some B):=by
 subst hz;refine⟨?_,fun n hn=>((((qK n X).setCell (p:=⟨B,0,none⟩) hn v0).setCell (p:=⟨B,1,none⟩) hn v1).setCell (p:=⟨B,2,none⟩) hn v2),⟨rfl,rfl,rfl,by simp [qU],fun k _ hk=>?_⟩⟩
 ·have:=((H.set 0 v0).set 1 v1).set 2 v2
  simpa only [zq4,zr4,zs4] using this
 ·have hk':k≠B:=fun e=>hk (by rw [e])
  iterate 3 (rw [Below.heap_setCell _ _ _ _ (by exact hk')])
theorem psgInfo:(Tryz.prog.info? 58).map (fun i=>(i.zero,i.size,i.bytes))=some (some (.agg #[qS none 0 0,O qL 0,O qL 0,O qL 0,O qL 0]),5,56):=by kernel_rfl
set_option linter.unusedSimpArgs false in
set_option linter.unusedVariables false in
set_option maxRecDepth 8000 in
set_option maxHeartbeats 6400000 in
theorem Z2U (m : Msn) (vw vh vr vl : Value) (l : List Int) (w : World) (hm : MsnAt w.heap.size w m vw vh vr) (hl : Z8 w.heap.size w vl l) (hl0 : l.length <= 1000000) :
  Calls Tryz.prog 14 #[.agg (Zc m vw vh vr),vl] w fun e w'=>∃ vs vp ve,e=.returned (.tuple #[.agg #[vs,vp,ve],O qL (mkE m l)])/\CrtAt w'.heap.size w' (mkC m l) vs vp ve/\Below w.heap.size w w':=by
 have f0:=fun w1 (B:Below w.heap.size w w1)=>Z3g m vw vh vr vl l w1 ((hm.below B).mono B.size) ((hl.below B).mono B.size)
 have f1:=fun w1 (B:Below w.heap.size w w1) hV hS=>Z1Y m vw vh vr vl l w1 ((hm.below B).mono B.size) ((hl.below B).mono B.size) hV hS
 have f2:=fun w1 (B:Below w.heap.size w w1) hV hS=>Z75 m vw vh vr vl l w1 ((hm.below B).mono B.size) ((hl.below B).mono B.size) hV hS
 have f3:=fun w1 (B:Below w.heap.size w w1)=>Z58 vl l w1 ((hl.below B).mono B.size) hl0
 have f4:=fun w1 (B:Below w.heap.size w w1) hV i hi pv u v t e ht he=>Z4t m vw vh vr w1 ((hm.below B).mono B.size) hV i hi pv u v t e ht he
 have f5:=fun w1 (B:Below w.heap.size w w1) hV k hk=>Z1Z m vw vh vr k w1 ((hm.below B).mono B.size) hV hk
 have HE:mkE m l=if radOkB m l=true then mkF m l (m.ways.length-1) 0 else 1:=rfl
 have HC:mkC m l=if mkE m l=0 then ⟨l,upto (mkP m l) (m.ways.length-1),upto (mkR m) (m.ways.length-1)⟩ else ⟨[],[],[]⟩:=rfl
 have hv2:=fun h=>Z05 (m:=m) (l:=l) h
 obtain⟨⟨-,a1,cap1,rfl,hcw⟩,⟨-,a2,cap2,rfl,-⟩,⟨-,a3,cap3,rfl,-⟩⟩:=hm;obtain⟨-,al,cl,rfl,-⟩:=hl;have HCW:=qH hcw;clear hcw;unfold Zc at *;generalize mkE m l=me at *;generalize mkC m l=mc at *;replace f0:=qH f0;replace f1:=qH f1;replace f2:=qH f2;replace f3:=qH f3;replace f4:=qH f4;replace f5:=qH f5;replace HC:=qH HC;have BW:=qH (qK w.heap.size w);cases hok:radOkB m l
 ·have g0:=f0.out
  rw [Z9a,hok] at g0;have HV:=qH (show me=1 by rw [HE,hok];rfl)
  have HCV:=qH (show mc=⟨[],[],[]⟩ by rw [HC.out,HV.out];rfl)
  replace g0:=qH g0;clear f0 f1 f2 f3 f4 f5 hv2 hok HE HC;go_enter Tryz.func14,Tryz.ntmps14;go_wp2_with fail;generalize hXX0:World.alloc (World.alloc w _) _=X0;obtain⟨q0,q1,hA,hzX0⟩:=box2 hXX0;clear hXX0;have BW:=qH hA;clear hA;have MB:=qH q0;clear q0;have RV:=qH q1;clear q1 hzX0;obtain⟨c0,c1,c2,c3,c4,c5,c6,c7,c8,c9,c10⟩:=Zg (m:=m) MB.out;refine (g0.out _ BW.out).mono ?_;rintro e w1 ⟨u1,u2,rfl,-,-,b1⟩;replace BW:=zAf BW b1;have B_X0:=qH b1;clear b1 c0 c1 c2 c3 c4 c5 c6 c7 c8 c9 c10;obtain⟨c0,c1,c2,c3,c4,c5,c6,c7,c8,c9,c10⟩:=Zg (m:=m) (zCl MB B_X0);clear c0 c1 c2 c3 c4 c5 c6 c7 c8 c9 c10;have hrv:=(zCl RV B_X0);have e0:=hrv.cell (i:=0) rfl;have e1:=hrv.cell (i:=1) rfl;have e2:=hrv.cell (i:=2) rfl;have z0:=Ze hrv 0;have z1:=Ze hrv 1;have z2:=Ze hrv 2;go_wp2;clear e0 e1 e2 z0 z1 z2;generalize hZ9:qU (qU (qU w1 _ _) _ _) _ _=Z9;obtain⟨HZ9,hl9,hg9⟩:=set3 hrv hZ9;have r0:=HZ9.cell (i:=0) rfl;have r1:=HZ9.cell (i:=1) rfl;have r2:=HZ9.cell (i:=2) rfl;have B9:=BW.out.trans (hl9 w.heap.size (by omega))
  clear hrv hZ9;exact bodyPost_ret (v:=.tuple #[.agg #[qS none 0 0,qS none 0 0,qS none 0 0],O qL 1]) (by simp [results,Tryz.f14,go_sem,r0,r1,r2]) rfl ⟨_,_,_,by rw [HV.out],by rw [HCV.out];exact⟨Z8.nil _ _,⟨by simp,none,0,rfl,.inl rfl⟩,Z8.nil _ _⟩,B9⟩
 obtain⟨hV,hS⟩:=hv2 hok;have V:=(Zj m).1 hV;have n41:=V.n41;have n2:=V.n2;have HME:=qH (show me=mkF m l (m.ways.length-1) 0 by rw [HE,hok];rfl)
 obtain⟨n,hn⟩:∃ n,m.ways.length-1=n:=⟨_,rfl⟩;have jw:IntKind.i64.wrap ((m.ways.length:Int)-1)=(n:Int):=by rw [show (m.ways.length:Int)-1=(n:Int) by omega];exact zW2
 have hnl:n+1=m.ways.length:=by omega
 replace HME:=HME.out;replace HC:=HC.out;rw [hn] at HME HC;have hsp:=fun k h0 h1 h2=>Z4S m l n 0 k h0 h1 h2
 have hze:=Z4R m l n 0;simp only [Nat.zero_add,Nat.zero_le,true_implies] at hsp hze;rw [<- HME] at hze;simp only [<- HME] at hsp;have HSP:=qH hsp;have HZE:=qH hze;replace HC:=qH HC;have g1':=fun w1 B=>f1.out w1 B hV hS
 have g2':=fun w1 B=>f2.out w1 B hV hS
 have k1:=fun vb n0 W (h:Z8 n0 W vb (rdBU m l))=>ZG h (by rw [ZF];omega)
 have k2:=fun va n0 W (h:Z8 n0 W va (rdAU m l))=>ZG h (by rw [show (rdAU m l).length=m.ways.length from Zq _ _];omega)
 have k3:=fun vt n0 W (h:Z8 n0 W vt (usedT m l))=>ZG h (by rw [Z0C];omega)
 have k4:=fun ve n0 W (h:Z8 n0 W ve (usedE m l))=>ZG h (by rw [Z0D];omega)
 simp only [ZF,Z0C,Z0D,show (rdAU m l).length=m.ways.length from Zq _ _] at k1 k2 k3 k4
 have y1:=fun k (hk:k+1<m.ways.length)=>show (rdBU m l).getD (k+1) 0=rdB m l (k+1) from Z1u hk
 have y2:=fun k (hk:k<m.ways.length)=>show (rdAU m l).getD k 0=rdA m l k from Z4J hk
 have y3:=fun k (hk:k+1<m.ways.length)=>show (usedT m l).getD (k+1) 0=usT m l (k+1) from Z0M _ hk
 have y4:=fun k (hk:k+1<m.ways.length)=>show (usedE m l).getD (k+1) 0=usE m l (k+1) from Z0M _ hk
 replace g1':=qH g1';replace g2':=qH g2';replace k1:=qH k1;replace k2:=qH k2;replace k3:=qH k3;replace k4:=qH k4;replace y1:=qH y1;replace y2:=qH y2;replace y3:=qH y3;replace y4:=qH y4;have VV:=qH V;have HV0:=qH hV;clear f0 f1 f2 hv2 hok HE hsp hze V hV hS hn;go_enter Tryz.func14,Tryz.ntmps14;go_wp2_with fail;generalize hXX0:World.alloc (World.alloc w _) _=X0;obtain⟨q0,q1,hA,hzX0⟩:=box2 hXX0;clear hXX0;have BW:=qH hA;clear hA;have MB:=qH q0;clear q0;have RV:=qH q1;clear q1 hzX0;obtain⟨c0,c1,c2,c3,c4,c5,c6,c7,c8,c9,c10⟩:=Zg (m:=m) MB.out;refine (g1'.out _ BW.out).mono ?_;rintro e w1 ⟨v1,u1,rfl,p1,q1,b1,-,-⟩;replace BW:=zAf BW b1;have B_X0:=qH b1;clear b1;obtain⟨b1,o1,e1,hv1,hb1,hc1⟩:=k1.out _ _ _ p1;subst hv1;obtain⟨b1',o1',e1',hv1,hb1',hc1'⟩:=k2.out _ _ _ q1;subst hv1;have BE:=qH hc1;have AF:=qH hc1';have LBE:=qH hb1;have LAF:=qH hb1';clear hc1 hc1' hb1 hb1' p1 q1 c0 c1 c2 c3 c4 c5 c6 c7 c8 c9 c10;obtain⟨c0,c1,c2,c3,c4,c5,c6,c7,c8,c9,c10⟩:=Zg (m:=m) (zCl MB B_X0);go_wp2_with fail;refine (g2'.out _ BW.out).mono ?_;rintro e w2 ⟨v2,u2,rfl,p2,q2,b2,-,-⟩;replace BW:=zAf BW b2;replace B_X0:=zAf B_X0 b2;have B_w1:=qH b2;clear b2;obtain⟨b2,o2,e2,hv1,hb2,hc2⟩:=k3.out _ _ _ p2;subst hv1;obtain⟨b2',o2',e2',hv1,hb2',hc2'⟩:=k4.out _ _ _ q2;subst hv1;have TI:=qH hc2;have EN:=qH hc2';have LTI:=qH hb2;have LEN:=qH hb2';clear hc2 hc2' hb2 hb2' p2 q2 c0 c1 c2 c3 c4 c5 c6 c7 c8 c9 c10;obtain⟨c0,c1,c2,c3,c4,c5,c6,c7,c8,c9,c10⟩:=Zg (m:=m) (zCl MB B_X0);have HLW:=qH (show w.heap.size+1<w2.heap.size from (zCl RV B_X0).lt)
 go_wp2_with fail;refine (f3.out _ BW.out).mono ?_;rintro e w3 ⟨vS,rfl,p3,b3,hN3⟩;replace BW:=zAf BW b3;replace B_X0:=zAf B_X0 b3;replace B_w1:=zAf B_w1 b3;have B_w2:=qH b3;clear b3;have PS:=qH p3;clear p3;have HN3:=qH hN3;clear hN3;obtain⟨-,aS,cS,hvS,-⟩:=PS.out;subst hvS;clear c0 c1 c2 c3 c4 c5 c6 c7 c8 c9 c10;obtain⟨c0,c1,c2,c3,c4,c5,c6,c7,c8,c9,c10⟩:=Zg (m:=m) (zCl MB B_X0);have HS1:=qH (show w1.heap.size<=w3.heap.size from B_w1.out.size)
 have HS2:=qH (show w2.heap.size<=w3.heap.size from B_w2.out.size)
 have HSR:=qH (zCl RV B_X0).lt;go_upto_region 8 with fail
 generalize hXZ:World.alloc w3 _=Z;obtain⟨q0,hA,hzZ⟩:=box1 hXZ;clear hXZ;replace BW:=zAf BW hA;replace B_X0:=zAf B_X0 hA;replace B_w1:=zAf B_w1 hA;replace B_w2:=zAf B_w2 hA;have B_w3:=qH hA;clear hA;have CB:=qH q0;clear q0 c0 c1 c2 c3 c4 c5 c6 c7 c8 c9 c10;obtain⟨c0,c1,c2,c3,c4,c5,c6,c7,c8,c9,c10⟩:=Zg (m:=m) (zCl MB B_X0);obtain⟨bC,hbC⟩:∃ x,w3.heap.size=x:=⟨_,rfl⟩;rw [hbC] at CB hzZ ⊢;replace PS:=PS.out;rw [hbC] at PS;replace PS:=qH PS;have hS0:bC<=w3.heap.size:=by omega
 have hBZ:=BW.out.size;go_wp2;clear c0 c1 c2 c3 c4 c5 c6 c7 c8 c9 c10;have hMB:=qH (zCl MB B_X0);have hRV:=qH (zCl RV B_X0);have QS:=qH (show Z8 bC Z _ l from PS.out.below (B_w3.out.mono hS0))
 have hs1:=HS1.out;have hs2:=HS2.out;have hsr:w.heap.size+1<bC:=by rw [<- hbC];exact HSR.out
 rw [hbC] at hs1 hs2;have ZBE:=qH (fun j (hj:j<m.ways.length)=>(B_w1.out.cell (p:=⟨b1,o1+j,none⟩) LBE.out).trans (BE.out j hj))
 have MBE:b1<bC:=by have:=LBE.out;omega
 have ZAF:=qH (fun j (hj:j<m.ways.length)=>(B_w1.out.cell (p:=⟨b1',o1'+j,none⟩) LAF.out).trans (AF.out j hj))
 have MAF:b1'<bC:=by have:=LAF.out;omega
 have ZTI:=qH (fun j (hj:j<m.ways.length)=>(B_w2.out.cell (p:=⟨b2,o2+j,none⟩) LTI.out).trans (TI.out j hj))
 have MTI:b2<bC:=by have:=LTI.out;omega
 have ZEN:=qH (fun j (hj:j<m.ways.length)=>(B_w2.out.cell (p:=⟨b2',o2'+j,none⟩) LEN.out).trans (EN.out j hj))
 have MEN:b2'<bC:=by have:=LEN.out;omega
 obtain⟨i0,hi0,hz0',hz1',hz2'⟩:=info_parts intInfo;have HI:=qH hi0;obtain⟨i5,hi5,hy0',hy1',hy2'⟩:=info_parts psgInfo;have HI5:=qH hi5;clear hi0 hi5 hS0 hs1 hs2
 go_loopw [47] (fun i wr=>∃ (k:Nat) (v1 v2:Value) (x1:List Value),k<=n/\i=O qL k/\(∀ j,j<k->mkQ m l j=0)/\Has wr bC #[qS aS l.length (l.length+cS),v1,v2] 47/\MkS bC Z wr (mkP m l) v1 v2 k k x1 ((upto (mkR m) k).map (O qL)) k x1) (fun i _=>n-(intOf i).toNat)
 case atStart=>exact⟨0,qS none 0 0,qS none 0 0,[],Nat.zero_le _,rfl,fun j h=>by omega,CB.out,⟨qK _ _,World.ownsRow_nil _ _ _ _,World.ownsRow_nil _ _ _ _,.inl rfl,PsR.nil⟩⟩
 case round =>
  obtain⟨k,v1,v2,x1,hk,rfl,hall,hCB,hMK⟩:=hrel;obtain⟨wo,hwo⟩:∃ x,x=wr:=⟨_,rfl⟩;subst hwo;obtain⟨av1,cv1,rfl⟩:=Z2B hMK.r1;obtain⟨av2,cv2,rfl⟩:=Z2B hMK.r2;have HA:=qH hall;have HCB:=qH hCB;have MK:=qH hMK;have BB:=qH hMK.bel;have hbC2:=hCB.lt;replace BW:=qH (BW.out.trans (BB.out.mono (by omega)))
  have hMO:=qH (hMB.out.below BB.out (by omega))
  have hRO:=qH (hRV.out.below BB.out (by omega))
  clear hall hCB hMK;by_cases hlt:k<n
  ·have hk1:k+1<m.ways.length:=by omega
   have hk0:k<m.ways.length:=by omega
   obtain⟨bw,ow,rfl,hbw,hcw⟩:=HCW.out.resolve_left (by intro h;rw [h] at hk1;simp at hk1)
   obtain⟨p1,p2,-⟩:=hcw k hk0;obtain⟨p3,p4,-⟩:=hcw (k+1) hk1;have xB:=(BB.out.cell (p:=⟨b1,o1+(k+1),none⟩) MBE).trans (ZBE.out (k+1) hk1);have xA:=(BB.out.cell (p:=⟨b1',o1'+k,none⟩) MAF).trans (ZAF.out k hk0);have xT:=(BB.out.cell (p:=⟨b2,o2+(k+1),none⟩) MTI).trans (ZTI.out (k+1) hk1);have xE:=(BB.out.cell (p:=⟨b2',o2'+(k+1),none⟩) MEN).trans (ZEN.out (k+1) hk1);rw [y1.out k hk1] at xB;rw [y2.out k hk0] at xA;rw [y3.out k hk1] at xT;rw [y4.out k hk1] at xE;have rk0:=rd_le VV.out l (k:=k) hk0;have rk1:=rd_le VV.out l (k:=k+1) hk1;have ub:=Z1K VV.out l (k+1) hk1;have hcor:=Z4r VV.out (a:=k) (b:=k+1) hk0 hk1 ⟨rk0.2.2.1,rk0.2.2.2⟩ ⟨rk1.1,rk1.2.1⟩;have f6:=fun w1=>Z2I (atW m k) (atW m (k+1)) (rdA m l k) (rdB m l (k+1)) w1
   rw [hcor] at f6;have HP:Hid (mkP m l k=⟨corL (atW m k) (rdA m l k) (atW m (k+1)) (rdB m l (k+1)),rdA m l k,rdB m l (k+1),usT m l (k+1),usE m l (k+1)⟩):=rfl;have HQ:Hid (mkQ m l k=kpsE m k (rdA m l k) (rdB m l (k+1)) (usT m l (k+1)) (usE m l (k+1))):=rfl;have HR:Hid (mkR m k=homeE m (k+1) (dep m (k+1))):=rfl;unfold atW at f6 HP;generalize corL ⟨(wy m.ways k).x,(wy m.ways k).y⟩ (rdA m l k) ⟨(wy m.ways (k+1)).x,(wy m.ways (k+1)).y⟩ (rdB m l (k+1))=cl at *;simp only at f6;generalize rdA m l k=qa at *;generalize rdB m l (k+1)=qb at *;generalize usT m l (k+1)=qt at *;generalize usE m l (k+1)=qe at *;generalize (wy m.ways k).x=px at *;generalize (wy m.ways k).y=py at *;generalize (wy m.ways (k+1)).x=qx at *;generalize (wy m.ways (k+1)).y=qy at *;have g4:=f4.out;have g5:=fun w1 B=>f5.out w1 B HV0.out (k+1) hk1
   generalize homeT m (k+1) (dep m (k+1))=hT' at *;generalize homeE m (k+1) (dep m (k+1))=hE' at *;obtain⟨kq,hkq⟩:∃ x,kpsE m k qa qb qt qe=x:=⟨_,rfl⟩;have g4':=fun w1 B=>g4 w1 B HV0.out k hk1 (qS none 0 0) qa qb qt qe (by omega) (by omega)
   rw [hkq] at g4' HQ;replace f6:=qH f6;replace g4':=qH g4';replace g5:=qH g5;have dk:decide ((k:Int)<(n:Int))=true:=zTq;have kl:(k:Int)<(n:Int):=by omega
   have kl0:(0:Int)<=(k:Int):=by omega
   have kl1:(k:Int)<m.ways.length:=by omega
   have kl2:(k:Int)+1<m.ways.length:=by omega
   have kl3:(0:Int)<=(k:Int)+1:=by omega
   have kl4:((k+1:Nat):Int)<m.ways.length:=by omega
   have jk:IntKind.i64.wrap ((k:Int)+1)=((k+1:Nat):Int):=by rw [show (k:Int)+1=((k+1:Nat):Int) by omega];exact zW2
   have jk2:IntKind.i64.wrap ((k:Int)+1)=(k:Int)+1:=zW2;have HP1:=qH (qI p1 (qI p2 (qI p3 p4)));have hk8:k<=40:=by omega
   clear hcw p1 p2 p3 p4 g4 hkq hcor rk0 rk1 ub;have BR:=qH (qK wo.heap.size wo);go_upto_region 11 with fail
   refine (wpIn_wide (n:=9)).1 ?_;refine Zi (Zk _) 21 (fun X=>Below wo.heap.size wo X) (by kernel_rfl) (by kernel_rfl) (by kernel_rfl) fun hH inv0=>?_
   have hD:=Below.drew (qK wo.heap.size wo);generalize hXX1:wo.drew=X1 at *;clear hXX1;replace BW:=zAf BW hD;have BR:=qH hD;clear hD;refine sk hH (i:=0) (v:=qS (some ⟨b1',o1',none⟩) m.ways.length (m.ways.length+e1')) (Zd rfl) inv0 (fun X hX=>?_) fun inv1=>?_
   ·go_simp
   simp only [qJ,zq4,zr4,zs4];clear inv0;refine sk hH (i:=1) (v:=O qL (k:Int)) (Zd rfl) inv1 (fun X hX=>?_) fun inv2=>?_
   ·go_simp
   simp only [qJ,zq4,zr4,zs4];clear inv1;refine sk hH (i:=2) (v:=qP (some ⟨b1',o1'+k,none⟩)) (Zd rfl) inv2 (fun X hX=>?_) fun inv3=>?_
   ·go_simp
   simp only [qJ,zq4,zr4,zs4];clear inv2;refine sk hH (i:=3) (v:=O qL qa) (Zd rfl) inv3 (fun X hX=>?_) fun inv4=>?_
   ·have r0:=(hX.cell (p:=⟨b1',o1'+k,none⟩) (qO _ _ xA)).trans xA;go_simp
   simp only [qJ,zq4,zr4,zs4];clear inv3;refine sk hH (i:=4) (v:=qS (some ⟨b1,o1,none⟩) m.ways.length (m.ways.length+e1)) (Zd rfl) inv4 (fun X hX=>?_) fun inv5=>?_
   ·go_simp
   simp only [qJ,zq4,zr4,zs4];clear inv4;refine sk hH (i:=5) (v:=O qL (k:Int)) (Zd rfl) inv5 (fun X hX=>?_) fun inv6=>?_
   ·go_simp
   simp only [qJ,zq4,zr4,zs4];clear inv5;refine sk hH (i:=6) (v:=O qL ((k+1:Nat):Int)) (Zd rfl) inv6 (fun X hX=>?_) fun inv7=>?_
   ·go_simp
   simp only [qJ,zq4,zr4,zs4];clear inv6;refine sk hH (i:=7) (v:=qP (some ⟨b1,o1+(k+1),none⟩)) (Zd rfl) inv7 (fun X hX=>?_) fun inv8=>?_
   ·go_simp
   simp only [qJ,zq4,zr4,zs4];clear inv7;refine sk hH (i:=8) (v:=O qL qb) (Zd rfl) inv8 (fun X hX=>?_) fun inv9=>?_
   ·have r0:=(hX.cell (p:=⟨b1,o1+(k+1),none⟩) (qO _ _ xB)).trans xB;go_simp
   simp only [qJ,zq4,zr4,zs4];clear inv8;refine sk hH (i:=9) (v:=qS (some ⟨b2,o2,none⟩) m.ways.length (m.ways.length+e2)) (Zd rfl) inv9 (fun X hX=>?_) fun inv10=>?_
   ·go_simp
   simp only [qJ,zq4,zr4,zs4];clear inv9;refine sk hH (i:=10) (v:=O qL (k:Int)) (Zd rfl) inv10 (fun X hX=>?_) fun inv11=>?_
   ·go_simp
   simp only [qJ,zq4,zr4,zs4];clear inv10;refine sk hH (i:=11) (v:=O qL ((k+1:Nat):Int)) (Zd rfl) inv11 (fun X hX=>?_) fun inv12=>?_
   ·go_simp
   simp only [qJ,zq4,zr4,zs4];clear inv11;refine sk hH (i:=12) (v:=qP (some ⟨b2,o2+(k+1),none⟩)) (Zd rfl) inv12 (fun X hX=>?_) fun inv13=>?_
   ·go_simp
   simp only [qJ,zq4,zr4,zs4];clear inv12;refine sk hH (i:=13) (v:=O qL qt) (Zd rfl) inv13 (fun X hX=>?_) fun inv14=>?_
   ·have r0:=(hX.cell (p:=⟨b2,o2+(k+1),none⟩) (qO _ _ xT)).trans xT;go_simp
   simp only [qJ,zq4,zr4,zs4];clear inv13;refine sk hH (i:=14) (v:=qS (some ⟨b2',o2',none⟩) m.ways.length (m.ways.length+e2')) (Zd rfl) inv14 (fun X hX=>?_) fun inv15=>?_
   ·go_simp
   simp only [qJ,zq4,zr4,zs4];clear inv14;refine sk hH (i:=15) (v:=O qL (k:Int)) (Zd rfl) inv15 (fun X hX=>?_) fun inv16=>?_
   ·go_simp
   simp only [qJ,zq4,zr4,zs4];clear inv15;refine sk hH (i:=16) (v:=O qL ((k+1:Nat):Int)) (Zd rfl) inv16 (fun X hX=>?_) fun inv17=>?_
   ·go_simp
   simp only [qJ,zq4,zr4,zs4];clear inv16;refine sk hH (i:=17) (v:=qP (some ⟨b2',o2'+(k+1),none⟩)) (Zd rfl) inv17 (fun X hX=>?_) fun inv18=>?_
   ·go_simp
   simp only [qJ,zq4,zr4,zs4];clear inv17;refine sk hH (i:=18) (v:=O qL qe) (Zd rfl) inv18 (fun X hX=>?_) fun inv19=>?_
   ·have r0:=(hX.cell (p:=⟨b2',o2'+(k+1),none⟩) (qO _ _ xE)).trans xE;go_simp
   simp only [qJ,zq4,zr4,zs4];clear inv18;refine sk hH (i:=19) (v:=.agg #[qS none 0 0,O qL qa,O qL qb,O qL qt,O qL qe]) (Zd rfl) inv19 (fun X hX=>?_) fun inv20=>?_
   ·go_simp
   simp only [qJ,zq4,zr4,zs4];clear inv19;have inv21:=HeadInv.put2 inv20 (j:=20) (by kernel_rfl) (by omega)
   clear inv20;refine sa1 (r:=20) BR.out ?_;refine ZE (Zd rfl) rfl (v:=qP (some ⟨X1.heap.size,0,none⟩)) (w':=X1.alloc (qC #[qS none 0 0,O qL 0,O qL 0,O qL 0,O qL 0] 58)) (by go_simp) ?_
   simp only [qJ,zq4,zr4,zs4];have hN:=Has.new X1 #[qS none 0 0,O qL 0,O qL 0,O qL 0,O qL 0] 58;have hA2:=(qK X1.heap.size X1).alloc (qN _) (qC #[qS none 0 0,O qL 0,O qL 0,O qL 0,O qL 0] 58);have hx1:=BR.out.size;generalize X1.alloc (qC #[qS none 0 0,O qL 0,O qL 0,O qL 0,O qL 0] 58)=X2 at *;replace BW:=zAf BW hA2;replace BR:=zAf BR hA2;clear hA2 inv21 hH;refine Zm (by kernel_rfl) BR.out ?_
   simp only [List.drop_succ_cons,List.drop_zero];refine Z0p rfl rfl (g:=X1.heap.size) (cells:=#[qS none 0 0,O qL qa,O qL qb,O qL qt,O qL qe]) rfl rfl hN (by kernel_rfl) rfl (by simp [Value.oneCell']) ?_
   have hP:=Has.put (cells:=#[qS none 0 0,O qL qa,O qL qb,O qL qt,O qL qe]) hN;replace BW:=qH (Below.setRow BW.out (C:=X1.heap.size) (by have:=BB.out.size;omega) #[qS none 0 0,O qL qa,O qL qb,O qL qt,O qL qe])
   replace BR:=qH (Below.setRow BR.out (C:=X1.heap.size) hx1 #[qS none 0 0,O qL qa,O qL qb,O qL qt,O qL qe]);generalize X2.setRow X1.heap.size #[qS none 0 0,O qL qa,O qL qb,O qL qt,O qL qe]=X3 at *;obtain⟨bP,hbP⟩:∃ x,X1.heap.size=x:=⟨_,rfl⟩;rw [hbP] at hP hx1 ⊢;have PB:=qH hP;clear hP hN hbP xA xB xT xE;gi_wp2;obtain⟨c0,c1,c2,c3,c4,c5,c6,c7,c8,c9,c10⟩:=Zg (m:=m) (zCl hMO BR);have hpb:=PB.out;have y0':=hpb.cell (i:=0) rfl;have y1':=hpb.cell (i:=1) rfl;have y2':=hpb.cell (i:=2) rfl;have y3':=hpb.cell (i:=3) rfl;have y4':=hpb.cell (i:=4) rfl;have yz:=Ze hpb 0;have ltPB:=hpb.lt;go_wp2_with fail;refine (g4'.out _ BW.out).mono ?_;rintro e w4 ⟨rfl,b4⟩;replace BW:=zAf BW b4;replace BR:=zAf BR b4;have B_X3:=qH b4;clear b4 c0 c1 c2 c3 c4 c5 c6 c7 c8 c9 c10 hpb y0' y1' y2' y3' y4' yz ltPB;obtain⟨c0,c1,c2,c3,c4,c5,c6,c7,c8,c9,c10⟩:=Zg (m:=m) (zCl hMO BR);have hpb:=(zCl PB B_X3);have y0':=hpb.cell (i:=0) rfl;have y1':=hpb.cell (i:=1) rfl;have y2':=hpb.cell (i:=2) rfl;have y3':=hpb.cell (i:=3) rfl;have y4':=hpb.cell (i:=4) rfl;have yz:=Ze hpb 0;have ltPB:=hpb.lt;by_cases hq0:kq=0;rotate_left
   ·skip
    have dq:(kq == 0)=false:=by rw [beq_eq_false_iff_ne];exact hq0
    have HV:=qH (show me=kq by rw [HSP.out k hlt HA.out (by rw [HQ.out];exact hq0)];exact HQ.out)
    have HCV:=qH (show mc=⟨[],[],[]⟩ by rw [HC.out,if_neg (by rw [HV.out];exact hq0)])
    clear hq0 c0 c1 c2 c3 c4 c5 c6 c7 c8 c9 c10 hpb y0' y1' y2' y3' y4' yz ltPB;have hrv:=(zCl hRO BR);have e0:=hrv.cell (i:=0) rfl;have e1:=hrv.cell (i:=1) rfl;have e2:=hrv.cell (i:=2) rfl;have z0:=Ze hrv 0;have z1:=Ze hrv 1;have z2:=Ze hrv 2;go_wp2;clear e0 e1 e2 z0 z1 z2;generalize hZ9:qU (qU (qU w4 _ _) _ _) _ _=Z9;obtain⟨HZ9,hl9,hg9⟩:=set3 hrv hZ9;have r0:=HZ9.cell (i:=0) rfl;have r1:=HZ9.cell (i:=1) rfl;have r2:=HZ9.cell (i:=2) rfl;have B9:=BW.out.trans (hl9 w.heap.size (by omega))
    clear hrv hZ9;exact bodyPost_ret (v:=.tuple #[.agg #[qS none 0 0,qS none 0 0,qS none 0 0],O qL kq]) (by simp [results,Tryz.f14,go_sem,r0,r1,r2]) rfl ⟨_,_,_,by rw [HV.out],by rw [HCV.out];exact⟨Z8.nil _ _,⟨by simp,none,0,rfl,.inl rfl⟩,Z8.nil _ _⟩,B9⟩
   subst hq0;go_upto_region 15 with fail
   clear c0 c1 c2 c3 c4 c5 c6 c7 c8 c9 c10 hpb y0' y1' y2' y3' y4' yz ltPB;have m0:w4.cell? ⟨w.heap.size,0,none⟩=some (qS (some ⟨bw,ow,none⟩) m.ways.length (m.ways.length+cap1)):=(zCl hMO BR).cell (i:=0) rfl;have l1:=(zCl PB B_X3).cell (i:=1) rfl;have l2:=(zCl PB B_X3).cell (i:=2) rfl;have p1:=(BW.out.cell (p:=⟨bw,ow+k*5,none⟩) hbw).trans HP1.out.1;have p2:=(BW.out.cell (p:=⟨bw,ow+k*5+1,none⟩) hbw).trans HP1.out.2.1;have p3:=(BW.out.cell (p:=⟨bw,ow+(k+1)*5,none⟩) hbw).trans HP1.out.2.2.1;have p4:=(BW.out.cell (p:=⟨bw,ow+(k+1)*5+1,none⟩) hbw).trans HP1.out.2.2.2;have hzo:=BR.out.size;have hbX0:bP<w4.heap.size:=(zCl PB B_X3).lt;refine (wpIn_wide (n:=9)).1 ?_;refine Z1R (Zk _) (fun X=>Below bP w4 X/\X.cell? ⟨bP,1,none⟩=some (O qL qa)/\X.cell? ⟨bP,2,none⟩=some (O qL qb)) (by kernel_rfl) (by kernel_rfl) (by kernel_rfl) fun hsel=>?_
   have hD:=Below.drew (qK w4.heap.size w4);have hS5:=qI (hD.mono (Nat.le_of_lt hbX0)) (qI ((hD.cell (p:=⟨bP,1,none⟩) hbX0).trans l1) ((hD.cell (p:=⟨bP,2,none⟩) hbX0).trans l2));generalize hXX5:w4.drew=X5 at *;clear hXX5;replace BW:=zAf BW hD;replace BR:=zAf BR hD;replace B_X3:=zAf B_X3 hD;clear hD;refine Zv hsel (i:=0) (v:=qP (some ⟨w.heap.size,0,none⟩)) (Zd rfl) (by kernel_rfl) (by kernel_rfl) rfl (fun X hX=>?_) ?_
   ·go_simp
   simp only [qJ,zq4,zr4,zs4];refine Zv hsel (i:=1) (v:=qS (some ⟨bw,ow,none⟩) m.ways.length (m.ways.length+cap1)) (Zd rfl) (by kernel_rfl) (by kernel_rfl) rfl (fun X hX=>?_) ?_
   ·have qm0:=(hX.1.cell (p:=⟨w.heap.size,0,none⟩) (show w.heap.size<bP by omega)).trans m0;go_simp
   simp only [qJ,zq4,zr4,zs4];refine Zv hsel (i:=2) (v:=O qL (k:Int)) (Zd rfl) (by kernel_rfl) (by kernel_rfl) rfl (fun X hX=>?_) ?_
   ·go_simp
   simp only [qJ,zq4,zr4,zs4];refine Zv hsel (i:=3) (v:=qP (some ⟨bw,ow+k*5,none⟩)) (Zd rfl) (by kernel_rfl) (by kernel_rfl) rfl (fun X hX=>?_) ?_
   ·go_simp
   simp only [qJ,zq4,zr4,zs4];refine Zv hsel (i:=4) (v:=qP (some ⟨bw,ow+k*5,none⟩)) (Zd rfl) (by kernel_rfl) (by kernel_rfl) rfl (fun X hX=>?_) ?_
   ·go_simp
   simp only [qJ,zq4,zr4,zs4];refine Zv hsel (i:=5) (v:=.agg #[O qL px,O qL py]) (Zd rfl) (by kernel_rfl) (by kernel_rfl) rfl (fun X hX=>?_) ?_
   ·have qp1:=(hX.1.cell (p:=⟨bw,ow+k*5,none⟩) (show bw<bP by omega)).trans p1;have qp2:=(hX.1.cell (p:=⟨bw,ow+k*5+1,none⟩) (show bw<bP by omega)).trans p2;go_simp
   simp only [qJ,zq4,zr4,zs4];refine Zv hsel (i:=6) (v:=qP (some ⟨bP,1,none⟩)) (Zd rfl) (by kernel_rfl) (by kernel_rfl) rfl (fun X hX=>?_) ?_
   ·go_simp
   simp only [qJ,zq4,zr4,zs4];refine Zv hsel (i:=7) (v:=O qL qa) (Zd rfl) (by kernel_rfl) (by kernel_rfl) rfl (fun X hX=>?_) ?_
   ·have q1:=hX.2.1;go_simp
   simp only [qJ,zq4,zr4,zs4];refine Zv hsel (i:=8) (v:=qP (some ⟨w.heap.size,0,none⟩)) (Zd rfl) (by kernel_rfl) (by kernel_rfl) rfl (fun X hX=>?_) ?_
   ·go_simp
   simp only [qJ,zq4,zr4,zs4];refine Zv hsel (i:=9) (v:=qS (some ⟨bw,ow,none⟩) m.ways.length (m.ways.length+cap1)) (Zd rfl) (by kernel_rfl) (by kernel_rfl) rfl (fun X hX=>?_) ?_
   ·have qm0:=(hX.1.cell (p:=⟨w.heap.size,0,none⟩) (show w.heap.size<bP by omega)).trans m0;go_simp
   simp only [qJ,zq4,zr4,zs4];refine Zv hsel (i:=10) (v:=O qL (k:Int)) (Zd rfl) (by kernel_rfl) (by kernel_rfl) rfl (fun X hX=>?_) ?_
   ·go_simp
   simp only [qJ,zq4,zr4,zs4];refine Zv hsel (i:=11) (v:=O qL ((k+1:Nat):Int)) (Zd rfl) (by kernel_rfl) (by kernel_rfl) rfl (fun X hX=>?_) ?_
   ·go_simp
   simp only [qJ,zq4,zr4,zs4];refine Zv hsel (i:=12) (v:=qP (some ⟨bw,ow+(k+1)*5,none⟩)) (Zd rfl) (by kernel_rfl) (by kernel_rfl) rfl (fun X hX=>?_) ?_
   ·go_simp
   simp only [qJ,zq4,zr4,zs4];refine Zv hsel (i:=13) (v:=qP (some ⟨bw,ow+(k+1)*5,none⟩)) (Zd rfl) (by kernel_rfl) (by kernel_rfl) rfl (fun X hX=>?_) ?_
   ·go_simp
   simp only [qJ,zq4,zr4,zs4];refine Zv hsel (i:=14) (v:=.agg #[O qL qx,O qL qy]) (Zd rfl) (by kernel_rfl) (by kernel_rfl) rfl (fun X hX=>?_) ?_
   ·have qp3:=(hX.1.cell (p:=⟨bw,ow+(k+1)*5,none⟩) (show bw<bP by omega)).trans p3;have qp4:=(hX.1.cell (p:=⟨bw,ow+(k+1)*5+1,none⟩) (show bw<bP by omega)).trans p4;go_simp
   simp only [qJ,zq4,zr4,zs4];refine Zv hsel (i:=15) (v:=qP (some ⟨bP,2,none⟩)) (Zd rfl) (by kernel_rfl) (by kernel_rfl) rfl (fun X hX=>?_) ?_
   ·go_simp
   simp only [qJ,zq4,zr4,zs4];refine Zv hsel (i:=16) (v:=O qL qb) (Zd rfl) (by kernel_rfl) (by kernel_rfl) rfl (fun X hX=>?_) ?_
   ·have q1:=hX.2.2;go_simp
   simp only [qJ,zq4,zr4,zs4];have hzx5:wo.heap.size<=X5.heap.size:=BR.out.size;refine sa1 (r:=17) hS5 ?_;refine Zr (Zd rfl) rfl (f:=44) (args:=#[.agg #[O qL px,O qL py],O qL qa,.agg #[O qL qx,O qL qy],O qL qb]) (by go_simp) (f6.out X5) ?_
   rintro e w8 ⟨vc,rfl,p9,b8,n9⟩;refine⟨_,rfl,?_⟩;simp only [qJ,zq4,zr4,zs4];have hbX:bP<X5.heap.size:=qO _ _ hS5.2.1;have hS8:=qI (hS5.1.trans (b8.mono (by omega))) (qI ((b8.cell (p:=⟨bP,1,none⟩) hbX).trans hS5.2.1) ((b8.cell (p:=⟨bP,2,none⟩) hbX).trans hS5.2.2))
   replace BW:=zAf BW b8;replace BR:=zAf BR b8;replace B_X3:=zAf B_X3 b8;clear b8;have P1:=qH p9;have N1:=qH n9;clear p9 n9 hS5;refine Zv hsel (i:=18) (v:=.tuple #[vc,O qL 0]) (Zd rfl) (by kernel_rfl) (by kernel_rfl) rfl (fun X hX=>?_) ?_
   ·go_simp
   simp only [qJ,zq4,zr4,zs4];refine Zv hsel (i:=19) (v:=vc) (Zd rfl) (by kernel_rfl) (by kernel_rfl) rfl (fun X hX=>?_) ?_
   ·go_simp
   simp only [qJ,zq4,zr4,zs4];refine Zv hsel (i:=20) (v:=O qL 0) (Zd rfl) (by kernel_rfl) (by kernel_rfl) rfl (fun X hX=>?_) ?_
   ·go_simp
   simp only [qJ,zq4,zr4,zs4];refine Zv hsel (i:=21) (v:=qP (some ⟨bP,0,none⟩)) (Zd rfl) (by kernel_rfl) (by kernel_rfl) rfl (fun X hX=>?_) ?_
   ·go_simp
   simp only [qJ,zq4,zr4,zs4];obtain⟨g1,d1,hv1⟩:=P1.out.len;subst hv1;clear m0 l1 l2 p1 p2 p3 p4;have hpb:=(zCl PB B_X3);have l0:=hpb.cell (i:=0) rfl;have z0:=Ze hpb 0;have HB2:=hpb.set 0 (qS g1 cl.length (cl.length+d1));refine sa1 (r:=22) hS8 ?_;refine ZY (Zd rfl) rfl (w':=w8.setCell ⟨bP,0,none⟩ (qS g1 cl.length (cl.length+d1))) (by go_simp) ?_
   refine Z6m (by kernel_rfl) ⟨hS8.1.setCell (p:=⟨bP,0,none⟩) (qN _) _,by exact HB2.cell (i:=1) rfl,by exact HB2.cell (i:=2) rfl⟩ ?_
   clear l0 z0 hS8 hsel;have hwo:wo.heap.size<=bP:=by omega
   have hg9:w8.grownBy (w8.setCell ⟨bP,0,none⟩ (qS g1 cl.length (cl.length+d1))) (some bP):=⟨rfl,rfl,rfl,by simp [qU],fun k _ hk=>Below.heap_setCell _ _ _ k (fun e=>hk (by rw [e]))⟩
   have P2:=P1.out.offG hg9 (fun r e=>by cases e;by_cases hl:cl=[];exact .inl hl;exact .inr fun e2=>by have:=(Z7n N1.out P1.out e2).resolve_left hl;omega)
   have F2:=qH (MK.out.fresh hbC2 N1.out hzx5 P1.out);replace BW:=qH (BW.out.setCell (p:=⟨bP,0,none⟩) (show w.heap.size<=bP by omega) (qS g1 cl.length (cl.length+d1)))
   replace BR:=qH (BR.out.setCell (p:=⟨bP,0,none⟩) hwo (qS g1 cl.length (cl.length+d1)));generalize w8.setCell ⟨bP,0,none⟩ (qS g1 cl.length (cl.length+d1))=Y at *;simp only [zq4,zr4,zs4] at HB2;have PB2:=qH HB2;have PP:=qH P2;clear hpb HB2 hg9 P2 hbX hbX0;obtain⟨c0,c1,c2,c3,c4,c5,c6,c7,c8,c9,c10⟩:=Zg (m:=m) (zCl hMO BR);go_wp2_with fail;refine (g5.out _ BW.out).mono ?_;rintro e w6 ⟨rfl,b6⟩;replace BW:=zAf BW b6;replace BR:=zAf BR b6;have B_Y:=qH b6;clear b6 c0 c1 c2 c3 c4 c5 c6 c7 c8 c9 c10;obtain⟨c0,c1,c2,c3,c4,c5,c6,c7,c8,c9,c10⟩:=Zg (m:=m) (zCl hMO BR);clear c0 c1 c2 c3 c4 c5 c6 c7 c8 c9 c10;have M0:=(MK.out.up BR.out (by omega)).one (u:=qS g1 cl.length (cl.length+d1)) (by rw [HP.out];exact ((PP.out.below B_Y.out).mono B_Y.out.size)) (by rw [HP.out];exact F2.out)
   rw [HP.out] at M0;simp only at M0;have hC:=MK.out.free (zCl HCB BR) (.inl (qN _));have hPB:=MK.out.free (zCl PB2 B_Y) (.inr hwo);have hb0:bC<w6.heap.size:=by have:=BR.out.size;omega
   go_upto_region 17 with fail
   refine (wpIn_wide (n:=9)).1 ?_;refine Zi (Zk _) 11 (fun X=>Has X bC #[qS aS l.length (l.length+cS),qS av1 k cv1,qS av2 k cv2] 47/\Has X bP #[qS g1 cl.length (cl.length+d1),O qL qa,O qL qb,O qL qt,O qL qe] 58) (by kernel_rfl) (by kernel_rfl) (by kernel_rfl) fun hH inv0=>?_
   have hD:=Below.drew (qK w6.heap.size w6);have hT:=M0.up hD (by omega)
   replace hC:=hC.up hD;replace hPB:=hPB.up hD;have hbX:=Nat.lt_of_lt_of_le hb0 hD.size;generalize hXXD:w6.drew=X0 at *;clear hXXD M0;refine sk hH (i:=0) (v:=qP (some ⟨bC,1,none⟩)) (Zd rfl) inv0 (fun X hX=>?_) fun inv1=>?_
   ·go_simp
   simp only [qJ,zq4,zr4,zs4];clear inv0;refine sk hH (i:=1) (v:=qS av1 k cv1) (Zd rfl) inv1 (fun X hX=>?_) fun inv2=>?_
   ·have r0:=hX.1.cell (i:=1) rfl;go_simp
   simp only [qJ,zq4,zr4,zs4];clear inv1;refine sk hH (i:=2) (v:=.agg #[qS g1 cl.length (cl.length+d1),O qL qa,O qL qb,O qL qt,O qL qe]) (Zd rfl) inv2 (fun X hX=>?_) fun inv3=>?_
   ·have r0:=hX.2.cell (i:=0) rfl;have r1:=hX.2.cell (i:=1) rfl;have r2:=hX.2.cell (i:=2) rfl;have r3:=hX.2.cell (i:=3) rfl;have r4:=hX.2.cell (i:=4) rfl;go_simp
   simp only [qJ,zq4,zr4,zs4];clear inv2;refine sk hH (i:=5) (v:=qP (some ⟨bC,2,none⟩)) (Zd rfl) inv3 (fun X hX=>?_) fun inv4=>?_
   ·go_simp
   simp only [qJ,zq4,zr4,zs4];clear inv3;refine sk hH (i:=6) (v:=qS av2 k cv2) (Zd rfl) inv4 (fun X hX=>?_) fun inv5=>?_
   ·have r0:=hX.1.cell (i:=2) rfl;go_simp
   simp only [qJ,zq4,zr4,zs4];clear inv4;refine sk hH (i:=7) (v:=O qL hE') (Zd rfl) inv5 (fun X hX=>?_) fun inv6=>?_
   ·go_simp
   simp only [qJ,zq4,zr4,zs4];clear inv5;have hS':=qI hC.1 hPB.1;refine ZB (rs:=[3,8]) (by kernel_rfl) (by simp) hS' (by simp) (fun i hi'=>?_)
   simp only [List.mem_cons,List.not_mem_nil,or_false] at hi';rcases hi' with rfl | rfl
   ·skip
    have inv7:=HeadInv.put2 inv6 (j:=3) (by kernel_rfl) (by omega)
    refine ZE (Zd rfl) rfl (v:=qS (some ⟨X0.heap.size,0,none⟩) 1 1) (w':=X0.alloc (qC #[qS g1 cl.length (cl.length+d1),O qL qa,O qL qb,O qL qt,O qL qe] 58)) (by go_simp) ?_
    simp only [qJ,zq4,zr4,zs4];have hA:=(qK X0.heap.size X0).alloc (qN _) (qC #[qS g1 cl.length (cl.length+d1),O qL qa,O qL qb,O qL qt,O qL qe] 58);have b3:=hT.free (Has.new X0 #[qS g1 cl.length (cl.length+d1),O qL qa,O qL qb,O qL qt,O qL qe] 58) (.inr (qN _));replace hC:=hC.up hA;replace hPB:=hPB.up hA;replace hT:=hT.up hA (by omega)
    replace hbX:=Nat.lt_of_lt_of_le hbX hA.size;generalize X0.alloc (qC #[qS g1 cl.length (cl.length+d1),O qL qa,O qL qb,O qL qt,O qL qe] 58)=X1 at *;obtain⟨s3,hs'⟩:∃ x,X0.heap.size=x:=⟨_,rfl⟩;rw [hs'] at b3 ⊢;clear hA hs' inv6 hS';have hS':=qI hC.1 hPB.1;refine ZB (rs:=[4,8]) (by kernel_rfl) (by simp) hS' (by simp) (fun i hi'=>?_)
    simp only [List.mem_cons,List.not_mem_nil,or_false] at hi';rcases hi' with rfl | rfl
    ·skip
     have inv8:=HeadInv.put2 inv7 (j:=4) (by kernel_rfl) (by omega)
     refine Zz (Zd rfl) rfl (.tmp 109) (.tmp 111) 45 rfl (bC+1) 58 i5 (.agg #[.slice none 0 0,.int .i64 0,.int .i64 0,.int .i64 0,.int .i64 0]) 5 56 Tryz.underlying45 HI5.out hy0' hy1' hy2' rfl (by decide) _ _ _ rfl hT.r1 ⟨s3,0,none⟩ 1 1 [.slice g1 cl.length (cl.length+d1),.int .i64 qa,.int .i64 qb,.int .i64 qt,.int .i64 qe] rfl rfl (Z1A b3.1) (by simp [Value.oneCell']) (by unfold maxLen;omega) (by omega) hbX ?_
     intro u1 X2 hr1 hg1 ho1;simp only [qJ,zq4,zr4,zs4];replace hC:=hC.app1 hg1 ho1;replace hPB:=hPB.app1 hg1 ho1;have hz':X1.heap.size<=X2.heap.size:=hg1.size;replace hT:=hT.app1 (by omega) hg1 hr1 ho1
     replace hbX:=Nat.lt_of_lt_of_le hbX hz';obtain⟨g4',cp4,rfl⟩:=Z2B hr1;clear hg1 hr1 ho1 b3 hz' inv7 hS';refine sk hH (i:=10) (v:=qP (some ⟨bC,1,none⟩)) (Zd rfl) inv8 (fun X hX=>?_) fun inv9=>?_
     ·go_simp
     simp only [qJ,zq4,zr4,zs4];clear inv8;have hS':=qI hC.1 hPB.1;refine sa1 (r:=8) hS' ?_;have inv10:=HeadInv.put2 inv9 (j:=8) (by kernel_rfl) (by omega)
     refine ZE (Zd rfl) rfl (v:=qS (some ⟨X2.heap.size,0,none⟩) 1 1) (w':=X2.alloc (qC #[O qL hE'] 3)) (by go_simp) ?_
     simp only [qJ,zq4,zr4,zs4];have hA:=(qK X2.heap.size X2).alloc (qN _) (qC #[O qL hE'] 3);have b8:=hT.free (Has.new X2 #[O qL hE'] 3) (.inr (qN _));replace hC:=hC.up hA;replace hPB:=hPB.up hA;replace hT:=hT.up hA (by omega)
     replace hbX:=Nat.lt_of_lt_of_le hbX hA.size;generalize X2.alloc (qC #[O qL hE'] 3)=X3 at *;obtain⟨s8,hs'⟩:∃ x,X2.heap.size=x:=⟨_,rfl⟩;rw [hs'] at b8 ⊢;clear hA hs' inv9 hS';have hS':=qI hC.1 hPB.1;refine sa1 (r:=9) hS' ?_;have inv11:=HeadInv.put2 inv10 (j:=9) (by kernel_rfl) (by omega)
     refine Zz (Zd rfl) rfl (.tmp 114) (.tmp 116) 29 rfl (bC+1) 3 i0 (.int .i64 0) 1 8 Tryz.underlying29 HI.out hz0' hz1' hz2' rfl (by decide) _ _ _ rfl hT.r2 ⟨s8,0,none⟩ 1 1 [.int .i64 hE'] rfl rfl (Z1A b8.1) (by simp [Value.oneCell']) (by unfold maxLen;omega) (by omega) hbX ?_
     intro u2 X4 hr2 hg2 ho2;simp only [qJ,zq4,zr4,zs4];replace hC:=hC.app2 hg2 ho2;replace hPB:=hPB.app2 hg2 ho2;have hz':X3.heap.size<=X4.heap.size:=hg2.size;replace hT:=hT.app2 (by omega) hg2 hr2 ho2
     replace hbX:=Nat.lt_of_lt_of_le hbX hz';obtain⟨g9',cp9,rfl⟩:=Z2B hr2;clear hg2 hr2 ho2 b8 hz' inv10 hS' inv11 hH;refine Zm (by kernel_rfl) ⟨hC.1,hPB.1⟩ ?_
     simp only [List.drop_succ_cons,List.drop_zero];have e1:=hC.1.cell (i:=1) rfl;have e2:=hC.1.cell (i:=2) rfl;have z1:=Ze hC.1 1;have z2:=Ze hC.1 2;have HT9:=qH ((hT.set 1 (qS g4' (k+1) cp4)).set 2 (qS g9' (k+1) cp9));have HC9:=qH ((hC.1.set 1 (qS g4' (k+1) cp4)).set 2 (qS g9' (k+1) cp9));have hC1:=qH hC;clear hT hPB hC;gi_wp2;go_wp2;go_roundw
     case rel =>
      refine⟨k+1,qS g4' (k+1) cp4,qS g9' (k+1) cp9,x1++[qS g1 cl.length (cl.length+d1),O qL qa,O qL qb,O qL qt,O qL qe],by omega,by go_num,fun j hj=>?_,?_,?_⟩
      ·by_cases e:j=k
       ·rw [e];exact HQ.out
       ·exact HA.out j (by omega)
      ·have:=HC9.out
       simpa only [zq4,zr4,zs4] using this
      ·have:=HT9.out
       rw [show (upto (mkR m) (k+1)).map (O qL)=((upto (mkR m) k).map (O qL))++[O qL hE'] by rw [ZA,<- HR.out];simp]
       exact this
     case measure=>simp [intOf];omega
    ·skip
     have inv8:=HeadInv.put2 inv7 (j:=8) (by kernel_rfl) (by omega)
     refine ZE (Zd rfl) rfl (v:=qS (some ⟨X1.heap.size,0,none⟩) 1 1) (w':=X1.alloc (qC #[O qL hE'] 3)) (by go_simp) ?_
     simp only [qJ,zq4,zr4,zs4];have hA:=(qK X1.heap.size X1).alloc (qN _) (qC #[O qL hE'] 3);have b8:=hT.free (Has.new X1 #[O qL hE'] 3) (.inr (qN _));replace hC:=hC.up hA;replace hPB:=hPB.up hA;replace hT:=hT.up hA (by omega)
     replace hbX:=Nat.lt_of_lt_of_le hbX hA.size;replace b3:=b3.up hA;generalize X1.alloc (qC #[O qL hE'] 3)=X2 at *;obtain⟨s8,hs'⟩:∃ x,X1.heap.size=x:=⟨_,rfl⟩;rw [hs'] at b8 ⊢;clear hA hs' inv7 hS';have hS':=qI hC.1 hPB.1;refine sa1 (r:=4) hS' ?_;have inv9:=HeadInv.put2 inv8 (j:=4) (by kernel_rfl) (by omega)
     refine Zz (Zd rfl) rfl (.tmp 109) (.tmp 111) 45 rfl (bC+1) 58 i5 (.agg #[.slice none 0 0,.int .i64 0,.int .i64 0,.int .i64 0,.int .i64 0]) 5 56 Tryz.underlying45 HI5.out hy0' hy1' hy2' rfl (by decide) _ _ _ rfl hT.r1 ⟨s3,0,none⟩ 1 1 [.slice g1 cl.length (cl.length+d1),.int .i64 qa,.int .i64 qb,.int .i64 qt,.int .i64 qe] rfl rfl (Z1A b3.1) (by simp [Value.oneCell']) (by unfold maxLen;omega) (by omega) hbX ?_
     intro u1 X3 hr1 hg1 ho1;simp only [qJ,zq4,zr4,zs4];replace b8:=b8.app1 hg1 ho1;replace hC:=hC.app1 hg1 ho1;replace hPB:=hPB.app1 hg1 ho1;have hz':X2.heap.size<=X3.heap.size:=hg1.size;replace hT:=hT.app1 (by omega) hg1 hr1 ho1
     replace hbX:=Nat.lt_of_lt_of_le hbX hz';obtain⟨g4',cp4,rfl⟩:=Z2B hr1;clear hg1 hr1 ho1 b3 hz' inv8 hS';refine sk hH (i:=10) (v:=qP (some ⟨bC,1,none⟩)) (Zd rfl) inv9 (fun X hX=>?_) fun inv10=>?_
     ·go_simp
     simp only [qJ,zq4,zr4,zs4];clear inv9;have hS':=qI hC.1 hPB.1;refine sa1 (r:=9) hS' ?_;have inv11:=HeadInv.put2 inv10 (j:=9) (by kernel_rfl) (by omega)
     refine Zz (Zd rfl) rfl (.tmp 114) (.tmp 116) 29 rfl (bC+1) 3 i0 (.int .i64 0) 1 8 Tryz.underlying29 HI.out hz0' hz1' hz2' rfl (by decide) _ _ _ rfl hT.r2 ⟨s8,0,none⟩ 1 1 [.int .i64 hE'] rfl rfl (Z1A b8.1) (by simp [Value.oneCell']) (by unfold maxLen;omega) (by omega) hbX ?_
     intro u2 X4 hr2 hg2 ho2;simp only [qJ,zq4,zr4,zs4];replace hC:=hC.app2 hg2 ho2;replace hPB:=hPB.app2 hg2 ho2;have hz':X3.heap.size<=X4.heap.size:=hg2.size;replace hT:=hT.app2 (by omega) hg2 hr2 ho2
     replace hbX:=Nat.lt_of_lt_of_le hbX hz';obtain⟨g9',cp9,rfl⟩:=Z2B hr2;clear hg2 hr2 ho2 b8 hz' inv10 hS' inv11 hH;refine Zm (by kernel_rfl) ⟨hC.1,hPB.1⟩ ?_
     simp only [List.drop_succ_cons,List.drop_zero];have e1:=hC.1.cell (i:=1) rfl;have e2:=hC.1.cell (i:=2) rfl;have z1:=Ze hC.1 1;have z2:=Ze hC.1 2;have HT9:=qH ((hT.set 1 (qS g4' (k+1) cp4)).set 2 (qS g9' (k+1) cp9));have HC9:=qH ((hC.1.set 1 (qS g4' (k+1) cp4)).set 2 (qS g9' (k+1) cp9));have hC1:=qH hC;clear hT hPB hC;gi_wp2;go_wp2;go_roundw
     case rel =>
      refine⟨k+1,qS g4' (k+1) cp4,qS g9' (k+1) cp9,x1++[qS g1 cl.length (cl.length+d1),O qL qa,O qL qb,O qL qt,O qL qe],by omega,by go_num,fun j hj=>?_,?_,?_⟩
      ·by_cases e:j=k
       ·rw [e];exact HQ.out
       ·exact HA.out j (by omega)
      ·have:=HC9.out
       simpa only [zq4,zr4,zs4] using this
      ·have:=HT9.out
       rw [show (upto (mkR m) (k+1)).map (O qL)=((upto (mkR m) k).map (O qL))++[O qL hE'] by rw [ZA,<- HR.out];simp]
       exact this
     case measure=>simp [intOf];omega
   ·skip
    have inv7:=HeadInv.put2 inv6 (j:=8) (by kernel_rfl) (by omega)
    refine ZE (Zd rfl) rfl (v:=qS (some ⟨X0.heap.size,0,none⟩) 1 1) (w':=X0.alloc (qC #[O qL hE'] 3)) (by go_simp) ?_
    simp only [qJ,zq4,zr4,zs4];have hA:=(qK X0.heap.size X0).alloc (qN _) (qC #[O qL hE'] 3);have b8:=hT.free (Has.new X0 #[O qL hE'] 3) (.inr (qN _));replace hC:=hC.up hA;replace hPB:=hPB.up hA;replace hT:=hT.up hA (by omega)
    replace hbX:=Nat.lt_of_lt_of_le hbX hA.size;generalize X0.alloc (qC #[O qL hE'] 3)=X1 at *;obtain⟨s8,hs'⟩:∃ x,X0.heap.size=x:=⟨_,rfl⟩;rw [hs'] at b8 ⊢;clear hA hs' inv6 hS';have hS':=qI hC.1 hPB.1;refine sa1 (r:=3) hS' ?_;have inv8:=HeadInv.put2 inv7 (j:=3) (by kernel_rfl) (by omega)
    refine ZE (Zd rfl) rfl (v:=qS (some ⟨X1.heap.size,0,none⟩) 1 1) (w':=X1.alloc (qC #[qS g1 cl.length (cl.length+d1),O qL qa,O qL qb,O qL qt,O qL qe] 58)) (by go_simp) ?_
    simp only [qJ,zq4,zr4,zs4];have hA:=(qK X1.heap.size X1).alloc (qN _) (qC #[qS g1 cl.length (cl.length+d1),O qL qa,O qL qb,O qL qt,O qL qe] 58);have b3:=hT.free (Has.new X1 #[qS g1 cl.length (cl.length+d1),O qL qa,O qL qb,O qL qt,O qL qe] 58) (.inr (qN _));replace hC:=hC.up hA;replace hPB:=hPB.up hA;replace hT:=hT.up hA (by omega)
    replace hbX:=Nat.lt_of_lt_of_le hbX hA.size;replace b8:=b8.up hA;generalize X1.alloc (qC #[qS g1 cl.length (cl.length+d1),O qL qa,O qL qb,O qL qt,O qL qe] 58)=X2 at *;obtain⟨s3,hs'⟩:∃ x,X1.heap.size=x:=⟨_,rfl⟩;rw [hs'] at b3 ⊢;clear hA hs' inv7 hS';have hS':=qI hC.1 hPB.1;refine sa1 (r:=4) hS' ?_;have inv9:=HeadInv.put2 inv8 (j:=4) (by kernel_rfl) (by omega)
    refine Zz (Zd rfl) rfl (.tmp 109) (.tmp 111) 45 rfl (bC+1) 58 i5 (.agg #[.slice none 0 0,.int .i64 0,.int .i64 0,.int .i64 0,.int .i64 0]) 5 56 Tryz.underlying45 HI5.out hy0' hy1' hy2' rfl (by decide) _ _ _ rfl hT.r1 ⟨s3,0,none⟩ 1 1 [.slice g1 cl.length (cl.length+d1),.int .i64 qa,.int .i64 qb,.int .i64 qt,.int .i64 qe] rfl rfl (Z1A b3.1) (by simp [Value.oneCell']) (by unfold maxLen;omega) (by omega) hbX ?_
    intro u1 X3 hr1 hg1 ho1;simp only [qJ,zq4,zr4,zs4];replace b8:=b8.app1 hg1 ho1;replace hC:=hC.app1 hg1 ho1;replace hPB:=hPB.app1 hg1 ho1;have hz':X2.heap.size<=X3.heap.size:=hg1.size;replace hT:=hT.app1 (by omega) hg1 hr1 ho1
    replace hbX:=Nat.lt_of_lt_of_le hbX hz';obtain⟨g4',cp4,rfl⟩:=Z2B hr1;clear hg1 hr1 ho1 b3 hz' inv8 hS';refine sk hH (i:=10) (v:=qP (some ⟨bC,1,none⟩)) (Zd rfl) inv9 (fun X hX=>?_) fun inv10=>?_
    ·go_simp
    simp only [qJ,zq4,zr4,zs4];clear inv9;have hS':=qI hC.1 hPB.1;refine sa1 (r:=9) hS' ?_;have inv11:=HeadInv.put2 inv10 (j:=9) (by kernel_rfl) (by omega)
    refine Zz (Zd rfl) rfl (.tmp 114) (.tmp 116) 29 rfl (bC+1) 3 i0 (.int .i64 0) 1 8 Tryz.underlying29 HI.out hz0' hz1' hz2' rfl (by decide) _ _ _ rfl hT.r2 ⟨s8,0,none⟩ 1 1 [.int .i64 hE'] rfl rfl (Z1A b8.1) (by simp [Value.oneCell']) (by unfold maxLen;omega) (by omega) hbX ?_
    intro u2 X4 hr2 hg2 ho2;simp only [qJ,zq4,zr4,zs4];replace hC:=hC.app2 hg2 ho2;replace hPB:=hPB.app2 hg2 ho2;have hz':X3.heap.size<=X4.heap.size:=hg2.size;replace hT:=hT.app2 (by omega) hg2 hr2 ho2
    replace hbX:=Nat.lt_of_lt_of_le hbX hz';obtain⟨g9',cp9,rfl⟩:=Z2B hr2;clear hg2 hr2 ho2 b8 hz' inv10 hS' inv11 hH;refine Zm (by kernel_rfl) ⟨hC.1,hPB.1⟩ ?_
    simp only [List.drop_succ_cons,List.drop_zero];have e1:=hC.1.cell (i:=1) rfl;have e2:=hC.1.cell (i:=2) rfl;have z1:=Ze hC.1 1;have z2:=Ze hC.1 2;have HT9:=qH ((hT.set 1 (qS g4' (k+1) cp4)).set 2 (qS g9' (k+1) cp9));have HC9:=qH ((hC.1.set 1 (qS g4' (k+1) cp4)).set 2 (qS g9' (k+1) cp9));have hC1:=qH hC;clear hT hPB hC;gi_wp2;go_wp2;go_roundw
    case rel =>
     refine⟨k+1,qS g4' (k+1) cp4,qS g9' (k+1) cp9,x1++[qS g1 cl.length (cl.length+d1),O qL qa,O qL qb,O qL qt,O qL qe],by omega,by go_num,fun j hj=>?_,?_,?_⟩
     ·by_cases e:j=k
      ·rw [e];exact HQ.out
      ·exact HA.out j (by omega)
     ·have:=HC9.out
      simpa only [zq4,zr4,zs4] using this
     ·have:=HT9.out
      rw [show (upto (mkR m) (k+1)).map (O qL)=((upto (mkR m) k).map (O qL))++[O qL hE'] by rw [ZA,<- HR.out];simp]
      exact this
    case measure=>simp [intOf];omega
  obtain rfl:k=n:=by omega
  have jj:decide ((k:Int)<(k:Int))=false:=by simp
  have HV:=qH (show me=0 from HZE.out HA.out)
  have HCV:=qH (show mc=⟨l,upto (mkP m l) k,upto (mkR m) k⟩ by rw [HC.out,if_pos HV.out])
  have hk8:k<=40:=by omega
  have q0:=HCB.out.cell (i:=0) rfl;have q1:=HCB.out.cell (i:=1) rfl;have q2:=HCB.out.cell (i:=2) rfl;have hrv:=hRO.out;have e0:=hrv.cell (i:=0) rfl;have e1:=hrv.cell (i:=1) rfl;have e2:=hrv.cell (i:=2) rfl;have z0:=Ze hrv 0;have z1:=Ze hrv 1;have z2:=Ze hrv 2;go_wp2;clear e0 e1 e2 z0 z1 z2 q0 q1 q2;generalize hZ9:qU (qU (qU wo _ _) _ _) _ _=Z9;obtain⟨HZ9,hl9,hg9⟩:=set3 hrv hZ9;have r0:=HZ9.cell (i:=0) rfl;have r1:=HZ9.cell (i:=1) rfl;have r2:=HZ9.cell (i:=2) rfl;have B9:=BW.out.trans (hl9 w.heap.size (by omega))
  obtain⟨F1,F2⟩:=MK.out.fin (b:=w.heap.size+1) (by omega) hg9 (by omega)
  have F3:=Z8.own F2 (by rw [Zq];omega)
  have F0:Z8 Z9.heap.size Z9 (qS aS l.length (l.length+cS)) l:=((QS.out.below BB.out).mono (Nat.le_of_lt hbC2)).offG hg9 (fun r e=>by
   cases e;by_cases hl:l=[]
   ·exact .inl hl
   right
   intro e2;obtain⟨-,a',c',e3,hc'⟩:=QS.out;obtain⟨b',o',e4,-,-⟩:=hc'.resolve_left hl;simp only [Value.slice.injEq] at e3;have h4:=HN3.out b' o' _ _ (by rw [e3.1,e4])
   rw [e3.1,e4] at e2;simp only [Value.ownBlock,Option.some.injEq] at e2;have:=HLW.out;omega)
  clear hrv hZ9;exact bodyPost_ret (v:=.tuple #[.agg #[qS aS l.length (l.length+cS),qS av1 k cv1,qS av2 k cv2],O qL 0]) (by simp [results,Tryz.f14,go_sem,r0,r1,r2]) rfl ⟨_,_,_,by rw [HV.out],by rw [HCV.out];exact⟨F0,F1,F3⟩,B9⟩
end
section
open Go.RowKit
def numP:Nat->Psg->Int
 | 0,p=>p.fr
 | 1,p=>p.tw
 | 2,p=>p.tm
 | _,p=>p.en
section
variable {n0:Nat} {A B W:World} {cur:Array Value} {l:List Psg}
end
end
theorem Z6e {p:List Pt} (h:Zb p=true):withinB p p=true:=by
 have k:∀ k,k<=p.length->(cornersTo p p k).length=k:=fun k=>by
  induction k with
  | zero=>intro _;rfl
  | succ k ih =>
   intro hk;simp only [cornersTo,Z12 h (show k<p.length by omega),if_true]
   rw [List.length_append,ih (by omega)]
   rfl
 unfold withinB cornersP;rw [h,k _ (qN _)];simp
theorem Z9m {m:Msn} {l:List Int}:∀ n k,mkF m l n k=0->∀ j,k<=j->j<k+n->mkQ m l j=0
 | 0,_,_,_,_,_=>by omega
 | n + 1, k, h, j, h1, h2 => by
  have h':(if mkQ m l k=0 then mkF m l n (k+1) else mkQ m l k)=0:=h
  by_cases e:mkQ m l k=0
  ·rw [if_pos e] at h'
   by_cases ej:j=k
   ·rw [ej];exact e
   ·exact Z9m n (k+1) h' j (by omega) (by omega)
  ·rw [if_neg e] at h';exact absurd h' e
theorem mk_ok {m:Msn} {l:List Int} (h:mkE m l=0):radOkB m l=true/\∀ j,j<m.ways.length-1->mkQ m l j=0:=by
 unfold mkE at h;cases hr:radOkB m l
 ·rw [hr,if_neg (by decide)] at h;omega
 ·rw [hr,if_pos rfl] at h
  exact⟨rfl,fun j hj=>Z9m _ 0 h j (Nat.zero_le _) (by omega)⟩
theorem Z7o {m:Msn} {l:List Int} (h:mkE m l=0):mkC m l=⟨l,upto (mkP m l) (m.ways.length-1),upto (mkR m) (m.ways.length-1)⟩:=if_pos h
theorem Z20 (g:Nat->Psg) {n j:Nat} (h:j<n):pgd (upto g n) j=g j:=by simp [pgd,upto,List.getD,h]
theorem Z5R (g:Nat->Int) {n j:Nat} (h:j<n):(upto g n).getD j 0=g j:=by simp [upto,List.getD,h]
theorem Z91 {m:Msn} {l:List Int} (h:stopsB m l=true):¬ (0:Int) ∈ l:=by
 intro h0;obtain⟨k,hk,e⟩:=List.getElem_of_mem h0;have hs:∀ k,k<l.length->stopOk m l k:=of_decide_eq_true h;have hp:=Z0H (m:=m) (l:=l) (k:=l.length) hs k (by omega)
 have h1:=(hs k hk).1;have e2:l.getD k 0=0:=by rw [List.getD,List.getElem?_eq_getElem hk,e];rfl
 omega
theorem Zb2 (a b:Int):min2 a b=min a b:=by unfold min2;split <;> omega
theorem mk_bef {m:Msn} {l:List Int} (hs:stopsB m l=true) {R:List Int} {n:Nat}:∀ i,i<n ->
  befR m ⟨l,upto (mkP m l) n,R⟩ i=rdA m l i/\befT m ⟨l,upto (mkP m l) n,R⟩ i+tLeg m i (i+1)=usT m l (i+1)/\befE m ⟨l,upto (mkP m l) n,R⟩ i+eLeg m i (i+1)=usE m l (i+1)
 | 0, _ => by
  have hw:waitT m l 0=0:=if_neg (Z91 hs);refine⟨rfl,?_,?_⟩
  ·show (0:Int)+_=usT m l 0+waitT m l 0+_
   rw [hw];rfl
  ·show (0:Int)+_=usE m l 0+m.idle*waitT m l 0+_
   rw [hw,Int.mul_zero];rfl
 | i + 1, hi => by
  have hp:pgd (upto (mkP m l) n) (i+1-1)=mkP m l i:=by rw [Nat.add_sub_cancel];exact Z20 _ (by omega)
  have h0:¬ (i+1=0):=by omega
  have e1:usT m l (i+1+1)=usT m l (i+1)+waitT m l (i+1)+tLeg m (i+1) (i+1+1):=rfl;have e2:usE m l (i+1+1)=usE m l (i+1)+m.idle*waitT m l (i+1)+eLeg m (i+1) (i+1+1):=rfl;have p1:(mkP m l i).tw=rdB m l (i+1):=rfl;have p2:(mkP m l i).tm=usT m l (i+1):=rfl;have p3:(mkP m l i).en=usE m l (i+1):=rfl;rw [e1,e2,Z0G,Zb2];unfold befR befT befE waitT;simp only [if_neg h0,hp,p1,p2,p3];by_cases hm:((i+1:Nat):Int) ∈ l
  ·simp only [if_pos hm];exact⟨trivial,trivial,trivial⟩
  ·simp only [if_neg hm];exact⟨trivial,by omega,by rw [Int.mul_zero,Int.add_zero]⟩
theorem Zcb {m:Msn} {l:List Int} {i:Nat} (hE:mkE m l=0) (hi:i<m.ways.length-1) :
  (∀ r,r<4->0<=numP r (pgd (mkC m l).psg i)/\numP r (pgd (mkC m l).psg i)<=1000000000)/\0<=(mkC m l).ret.getD i 0/\(mkC m l).ret.getD i 0<=1000000000:=by
 obtain⟨hr,hQ⟩:=mk_ok hE;have V:=(Zj m).1 (Z05 hr).1;obtain⟨-,-,k3,k4⟩:=Z7r.1 (hQ i hi);have a1:=rd_le V l (k:=i) (by omega)
 have a2:=rd_le V l (k:=i+1) (by omega)
 have a3:=Z1K V l (i+1) (by omega)
 have a4:=Z0T V (a:=i+1) (by omega) (dep m (i+1)) (qN _)
 have vb:=V.battery;have vd:=V.deadline;rw [Z7o hE]
 show (∀ r,r<4->0<=numP r (pgd (upto (mkP m l) (m.ways.length-1)) i)/\numP r (pgd (upto (mkP m l) (m.ways.length-1)) i)<=1000000000)/\0<=(upto (mkR m) (m.ways.length-1)).getD i 0/\(upto (mkR m) (m.ways.length-1)).getD i 0<=1000000000
 rw [Z20 _ hi,Z5R _ hi];refine⟨fun r hr=>?_,?_⟩
 ·match r,hr with
  | 0,_=>show 0<=rdA m l i/\rdA m l i<=1000000000;omega
  | 1,_=>show 0<=rdB m l (i+1)/\rdB m l (i+1)<=1000000000;omega
  | 2,_=>show 0<=usT m l (i+1)/\usT m l (i+1)<=1000000000;omega
  | 3,_=>show 0<=usE m l (i+1)/\usE m l (i+1)<=1000000000;omega
 ·show 0<=homeE m (i+1) (dep m (i+1))/\homeE m (i+1) (dep m (i+1))<=1000000000;omega
theorem Z2R {m:Msn} {l:List Int} (hE:mkE m l=0):chkB m (mkC m l)=true/\chkE m (mkC m l)=0:=by
 obtain⟨hr,hQ⟩:=mk_ok hE;obtain⟨hV,hS⟩:=Z05 hr;have V:=(Zj m).1 hV;have hN:=fun i hi=>Zcb (l:=l) (i:=i) hE hi
 rw [Z7o hE] at hN ⊢;have hcor:∀ i,i<m.ways.length-1->corE (atW m i) (rdA m l i) (atW m (i+1)) (rdB m l (i+1))=0:=fun i hi=>by
  have a1:=rd_le V l (k:=i) (by omega)
  have a2:=rd_le V l (k:=i+1) (by omega)
  exact Z4r V (by omega) (by omega) ⟨a1.2.2.1,a1.2.2.2⟩ ⟨a2.1,a2.2.1⟩
 have hgv:∀ i,i<m.ways.length-1->Zb (mkP m l i).cor=true:=fun i hi=>by
  show Zb (corL (atW m i) (rdA m l i) (atW m (i+1)) (rdB m l (i+1)))=true
  unfold corL;rw [if_pos (hcor i hi)];exact Z0V (Z60 (hcor i hi))
 have hF:frmB m ⟨l,upto (mkP m l) (m.ways.length-1),upto (mkR m) (m.ways.length-1)⟩=true:=by
  unfold frmB;simp only [hr,Zq,decide_true,Bool.true_and,decide_eq_true_eq];intro j hj;have n:=hN j hj;have a1:=rd_le V l (k:=j) (by omega)
  have a2:=rd_le V l (k:=j+1) (by omega)
  unfold okP wthB;simp only [Z20 _ hj] at n ⊢;rw [hgv j hj];have n2:=n.1 2 (by omega)
  have n3:=n.1 3 (by omega)
  have e2:numP 2 (mkP m l j)=(mkP m l j).tm:=rfl;have e3:numP 3 (mkP m l j)=(mkP m l j).en:=rfl;rw [e2] at n2;rw [e3] at n3;simp only [Bool.true_and,Bool.and_eq_true,decide_eq_true_eq];exact⟨⟨a1.2.2.1,a1.2.2.2⟩,⟨a2.1,a2.2.1⟩,n2,n3,n.2⟩
 refine⟨?_,by unfold chkE;rw [if_pos hF]⟩
 unfold chkB;rw [hF,Bool.true_and,decide_eq_true_eq];intro i hi;simp only [Zq] at hi;obtain⟨b1,b2,b3⟩:=mk_bef hS (R:=upto (mkR m) (m.ways.length-1)) (n:=m.ways.length-1) i hi;obtain⟨k1,-,k3,k4⟩:=Z7r.1 (hQ i hi);have hR:=Z5R (mkR m) hi;have hR':mkR m i=homeE m (i+1) (dep m (i+1)):=rfl;unfold lgB lg1 lg2 lg3 lg4;simp only [Z20 _ hi,b1,hR,hR'];simp only [Bool.and_eq_true,decide_eq_true_eq,Bool.not_eq_true'];have e1:(mkP m l i).fr=rdA m l i:=rfl;have e2:(mkP m l i).tw=rdB m l (i+1):=rfl;have e3:(mkP m l i).tm=usT m l (i+1):=rfl;have e4:(mkP m l i).en=usE m l (i+1):=rfl;have e5:(mkP m l i).cor=corL (atW m i) (rdA m l i) (atW m (i+1)) (rdB m l (i+1)):=rfl;have g1:rdB m l (i+1)=rdA m l i+gLeg m i (i+1):=rfl;have w:=Z6e (hgv i hi);rw [e5] at w;rw [e1,e2,e3,e4,e5];unfold ccB clrB at k1;rw [Bool.and_eq_true,decide_eq_true_eq,Bool.not_eq_true'] at k1;exact⟨⟨Int.le_refl _,by omega⟩,⟨by omega,by omega,Int.le_refl _⟩,⟨k3,hQ i hi⟩,hcor i hi,w,k1.2⟩
def refK (k:Int):Int:=if k=1\/k=5 then 50 else if k=2 then 52 else if k=3 then 51 else if k=4 then 6 else 0
theorem cc_bk {m:Msn} (V:VMsn m) (l:List Int) {a:Nat} (ha:a<m.ways.length):∀ j,j<=dep m a->ccC m a (rdB m l a) j=bkC m a (rdB m l a) j
 | 0,_=>rfl
 | j + 1, h => by
  simp only [ccC,bkC];rw [cc_bk V l ha j (by omega),ZbT V (Z0S V.ways ha (j:=j) (by omega)) (Z0S V.ways ha h) (bk_bd V l ha (by omega)) (bk_bd V l ha h)]
theorem Z9b {m:Msn} (V:VMsn m) (l:List Int) {k:Nat} (hk:k+1<m.ways.length):mkQ m l k=refK (kindV m l k):=by
 have a1:=rd_le V l (k:=k) (by omega)
 have a2:=rd_le V l (k:=k+1) hk;unfold mkQ kpsE hwE kindV;rw [ZbT V (by omega) hk ⟨a1.2.2.1,a1.2.2.2⟩ ⟨a2.1,a2.2.1⟩,cc_bk V l hk _ (qN _)]
 generalize clrB m k (rdA m l k) (k+1) (rdB m l (k+1))=b1;generalize bkC m (k+1) (rdB m l (k+1)) (dep m (k+1))=b2;generalize lieB m (bkR m (k+1) (rdB m l (k+1)) (dep m (k+1)))=b3;by_cases h1:usE m l (k+1)+homeE m (k+1) (dep m (k+1))>m.battery <;> by_cases h2:usT m l (k+1)+homeT m (k+1) (dep m (k+1))>m.deadline <;> simp only [h1,h2,if_true,if_false] <;> cases b1 <;> cases b2 <;> cases b3 <;> decide
theorem Z9v (m:Msn) (l:List Int) (k:Nat):kindV m l k=0\/kindV m l k=1\/kindV m l k=2\/kindV m l k=3\/kindV m l k=4\/kindV m l k=5:=by
 unfold kindV
 repeat' split
 all_goals simp
theorem kpk_in (m:Msn) (l:List Int):kpK m l=0\/kpK m l=1\/kpK m l=2\/kpK m l=3\/kpK m l=4\/kpK m l=5:=by
 unfold kpK leadK
 split
 ·split
  ·exact Z9v m l _
  ·exact .inl rfl
 ·exact .inl rfl
theorem Z3j {m:Msn} {l:List Int} (hr:radOkB m l=true):mkE m l=refK (kpK m l):=by
 have V:=(Zj m).1 (Z05 hr).1;obtain⟨s1,s2,s3⟩:=Z0x m l;unfold mkE kpK leadK;rw [if_pos hr,if_pos hr];have hz:∀ j,j<leadN m l->mkQ m l j=0:=fun j hj=>by rw [Z9b V l (by omega),s2 j hj];decide
 by_cases h:leadN m l<m.ways.length-1
 ·rw [if_pos h,<- Z9b V l (by omega)]
  have e:=Z4S m l (m.ways.length-1) 0 (leadN m l) h (fun j _ hj=>hz j (by omega)) (by
   rw [Nat.zero_add,Z9b V l (by omega)]
   have:=s3 h;rcases Z9v m l (leadN m l) with e | e | e | e | e | e
   ·exact absurd e this
   all_goals (rw [e];decide))
  rwa [Nat.zero_add] at e
 ·rw [if_neg h]
  exact Z4R m l _ 0 fun j _ hj=>hz j (by omega)
section
open Go.RowKit
def exQ:Msn:=⟨[⟨0,0,0,0,0⟩,⟨100,0,0,0,0⟩,⟨200,0,0,0,0⟩],hmA,0,[roX],10000,100,0,0,0,1000,1000⟩
theorem Z7z:gLeg exQ 0 1=10/\gLeg exQ 1 2=10/\gLeg exQ 1 0=10/\gLeg exQ 2 0=20:=Z2b hmA
theorem Z5T:tLeg exQ 0 1=1/\tLeg exQ 1 2=1/\tLeg exQ 1 0=1/\tLeg exQ 2 0=2:=Z3B hmA
theorem Z3A:validB exQ=true:=by
 have g:grownV exQ=50:=Z5V hmA;rw [Zj];refine⟨by show 2<=3;decide,by show 3<=41;decide,by show 1<=100;decide,by show waysB [⟨0,0,0,0,0⟩,⟨100,0,0,0,0⟩,⟨200,0,0,0,0⟩]=true;decide,Z0y,?_,by show (0:Int)<=0/\(0:Int)<=100000;decide,by show (1:Int)<=10000/\(10000:Int)<=20000/\(0:Int)<=100/\(100:Int)<=500/\(0:Int)<=0/\(0:Int)<=5000;decide,by show (0:Int)<=0/\(0:Int)<=1000;decide,by show (0:Int)<=0/\(0:Int)<=1000;decide,by show (0:Int)<=1000/\(1000:Int)<=1000000000;decide,by show (0:Int)<=1000/\(1000:Int)<=1000000000;decide,by rw [g];decide⟩
 simp only [rocksB,exQ];refine decide_eq_true fun j hj=>?_
 obtain rfl:j=0:=by simp at hj;omega
 exact Z04
theorem Za6:rdA exQ [] 0=0/\rdB exQ [] 1=10/\rdA exQ [] 1=10/\rdB exQ [] 2=20:=by
 obtain⟨g1,g2,-,-⟩:=Z7z;have a0:rdA exQ [] 0=0:=rfl;have b1:rdB exQ [] 1=10:=by rw [Z0F,a0,g1];rfl
 have a1:rdA exQ [] 1=10:=by rw [Z0G,if_neg (by simp),b1]
 exact⟨a0,b1,a1,by rw [Z0F,a1,g2];rfl⟩
theorem exQ_e (i j:Nat):eLeg exQ i j=0:=by simp [eLeg,exQ]
theorem exQ_us:usE exQ [] 1=0/\usT exQ [] 1<=10:=by
 obtain⟨t1,-⟩:=Z5T;have w0:∀ k,waitT exQ [] k=0:=fun k=>if_neg (by simp)
 have i0:exQ.idle=0:=rfl;simp only [usE,usT,w0,exQ_e,i0,t1]
 decide
theorem Zbl:homeE exQ 1 1=0/\homeT exQ 1 1=1:=by
 obtain⟨-,-,t3,-⟩:=Z5T;simp only [homeE,homeT,exQ_e];exact⟨rfl,by show 0+tLeg exQ 1 0=1;rw [t3];rfl⟩
theorem exQ_bk (r:Int):bkR exQ 1 r 1=r+10/\bkC exQ 1 r 1=clrB exQ 1 r 0 (r+10):=by
 obtain⟨-,-,g3,-⟩:=Z7z;have b1:bkR exQ 1 r 1=r+10:=by show r+gLeg exQ 1 0=_;rw [g3]
 exact⟨b1,by show (true && clrB exQ 1 r 0 (bkR exQ 1 r 1))=_;rw [b1];rfl⟩
theorem exQ_k0:kindV exQ [] 0=0:=by
 obtain⟨a0,b1,-,-⟩:=Za6;obtain⟨u1,u2⟩:=exQ_us;obtain⟨h1,h2⟩:=Zbl;obtain⟨q1,q2⟩:=exQ_bk 10;have m1:exQ.battery=1000:=rfl;have m2:exQ.deadline=1000:=rfl;have k1:clrB exQ 0 0 1 10=true:=Zau hmA;have k2:clrB exQ 1 10 0 20=true:=Zat hmA;have k3:lieB exQ 20=true:=Z2n;unfold kindV;rw [show (0:Nat)+1=1 from rfl,a0,b1,k1,show dep exQ 1=1 from rfl,q2,q1,show (10:Int)+10=20 from rfl,k2,k3,if_neg (by decide),if_neg (by decide),if_neg (by decide),u1,h1,m1,h2,m2,if_neg (by decide),if_neg (by omega)]
theorem Za8:kindV exQ [] 1=1:=by
 obtain⟨-,-,a1,b2⟩:=Za6;have k1:clrB exQ 1 10 2 20=false:=ZbW hmA;unfold kindV;rw [show (1:Nat)+1=2 from rfl,a1,b2,k1,if_pos rfl]
theorem Z7y:radOkB exQ []=true:=by
 unfold radOkB;rw [Z3A,Bool.true_and];unfold stopsB;exact decide_eq_true fun k hk=>absurd hk (by simp)
theorem Z2Y:leadN exQ []=1:=Z1w (by show 1<=3-1;decide) (fun j hj=>by
 obtain rfl:j=0:=by omega
 exact exQ_k0) (fun _=>by rw [Za8];decide)
theorem Za7:kpL exQ []=1/\kpK exQ []=1:=by
 obtain⟨k1,k2,-⟩:=kp_of Z7y;exact⟨by rw [k1];unfold leadV;rw [Z2Y];rfl,by rw [k2];unfold leadK;rw [Z2Y,if_pos (by show 1<3-1;decide),Za8]⟩
theorem Zcw:rfB exQ=true/\rfL exQ=[]:=by
 have h1:(bestP exQ).2=[]:=List.sublist_nil.1 (Z32 exQ);have h2:(bestP exQ).1=1:=by rw [<- Z3L,h1];exact Za7.1
 have e:rfB exQ=true:=by
  unfold rfB;rw [Z3A,h2]
  show (true && !decide ((1:Int)=((3-1:Nat):Int)))=true
  decide
 exact⟨e,by unfold rfL;rw [if_pos e,h1]⟩
theorem Zbk:mkE exQ []=50:=by
 rw [Z3j Z7y,Za7.2]
 decide
theorem Zcu:ownC exQ [] 1=c3L:=by
 obtain⟨-,-,a1,b2⟩:=Za6;unfold ownC;rw [show 1+1=2 from rfl,a1,b2,show atW exQ 1=⟨100,0⟩ from rfl,show atW exQ 2=⟨200,0⟩ from rfl,ZbV]
theorem c3_com:∃ x,comX c3L roX=some x:=by
 have b:comL c3L roX 1=[⟨190,15⟩]:=by show cornersP roX c3L=_;unfold cornersP;rw [ZH Z1F];decide +kernel
 unfold comX;by_cases h:(comL c3L roX 0).length≠0
 ·rw [if_pos h];exact⟨_,rfl⟩
 ·rw [if_neg h,b,if_pos (by decide)];exact⟨_,rfl⟩
theorem Zcv:outE exQ (ownC exQ [] 1)=0:=by
 have ok:okRocks c3L [roX]=true:=by
  unfold okRocks;rw [Z1F,Bool.true_and];refine decide_eq_true fun j hj=>?_
  obtain rfl:j=0:=by simp at hj;omega
  exact Z04
 have hh:hitTo c3L [roX] 1=some 0:=by
  have r0:rk [roX] 0=roX:=rfl;simp [hitTo,r0,Z7M]
 have hi:firI c3L [roX]=0:=by unfold firI;simp [ok,hh,natO]
 unfold outE;rw [Zcu,show exQ.rocks=[roX] from rfl,hi,show rk [roX] (0:Int).toNat=roX from rfl]
 obtain⟨x,hx⟩:=c3_com;unfold hitE;rw [Z1F,Z04,hx]
 rfl
theorem Z2G:mkE (exP hmA) [1]=0/\(mkC (exP hmA) [1]).psg.length=2/\(pgd (mkC (exP hmA) [1]).psg 1).tw=12:=by
 have h:mkE (exP hmA) [1]=0:=by rw [Z3j (Zab Z0y).2.1,exA_1.2.1];decide
 refine⟨h,?_,?_⟩
 ·rw [Z7o h];exact Zq _ _
 ·rw [Z7o h]
  show (pgd (upto (mkP (exP hmA) [1]) 2) 1).tw=12
  rw [Z20 _ (by decide)]
  exact (Zaa hmA).2.2.2
end
end Go.Proofs.YthipcinibldgnaaGreat
