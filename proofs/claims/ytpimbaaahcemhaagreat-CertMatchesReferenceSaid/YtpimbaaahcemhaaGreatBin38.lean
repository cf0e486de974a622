/- package cert: Make. | Passages and integers appended to an empty row of the call's own; one number of a certificate less. -/
import Derived.Test.YtpimbaaahcemhaaGreatBin37
namespace Go.Proofs.YtpimbaaahcemhaaGreat
section
attribute [local irreducible] wpQuiet
open Go.RowKit
noncomputable def mkP (m:Msn) (l:List Int) (k:Nat):Psg:=⟨corL (atW m k) (rdA m l k) (atW m (k+1)) (rdB m l (k+1)),rdA m l k,rdB m l (k+1),usT m l (k+1),usE m l (k+1)⟩
def mkR (m:Msn) (k:Nat):Int:=homeE m (k+1) (dep m (k+1))
noncomputable def mkQ (m:Msn) (l:List Int) (k:Nat):Int:=kpsE m k (rdA m l k) (rdB m l (k+1)) (usT m l (k+1)) (usE m l (k+1))
noncomputable def mkF (m:Msn) (l:List Int):Nat→Nat→Int
 | 0,_=>0
 | n+1,k=>if mkQ m l k=0 then mkF m l n (k+1) else mkQ m l k
noncomputable def mkE (m:Msn) (l:List Int):Int:=if radOkB m l=true then mkF m l (m.ways.length-1) 0 else 1
noncomputable def mkC (m:Msn) (l:List Int):Crt:=if mkE m l=0 then ⟨l,upto (mkP m l) (m.ways.length-1),upto (mkR m) (m.ways.length-1)⟩ else ⟨[],[],[]⟩
theorem Z4R (m:Msn) (l:List Int):∀ n k i,i<n→(∀ j,k≤j→j<k+i→mkQ m l j=0)→mkQ m l (k+i)≠0→mkF m l n k=mkQ m l (k+i)
 | 0,_,_,h,_,_=>by omega
 | n+1,k,0,_,_,h=>by rw [Nat.add_zero] at h ⊢;exact if_neg h
 | n + 1, k, i + 1, hi, h0, h => by
  have e:=Z4R m l n (k+1) i (by omega) (fun j h1 h2=>h0 j (by omega) (by omega)) (by rw [show k+1+i=k+(i+1) by omega];exact h)
  rw [show k+1+i=k+(i+1) by omega] at e
  rw [← e];exact if_pos (h0 k (Nat.le_refl _) (by omega))
theorem Z4Q (m:Msn) (l:List Int):∀ n k,(∀ j,k≤j→j<k+n→mkQ m l j=0)→mkF m l n k=0
 | 0,_,_=>rfl
 | n+1,k,h=>(if_pos (h k (Nat.le_refl _) (by omega))).trans (Z4Q m l n (k+1) (fun j h1 h2=>h j (by omega) (by omega)))
theorem set3 {X Z:World} {B:Nat} {a b c:Value} {T:TypeId} {v0 v1 v2:Value} (H:Has X B #[a,b,c] T) (hz:((X.setCell ⟨B,0,none⟩ v0).setCell ⟨B,1,none⟩ v1).setCell ⟨B,2,none⟩ v2=Z) :
  Has Z B #[v0,v1,v2] T∧(∀ n,n≤B→Below n X Z)∧X.grownBy Z (some B):=by
 subst hz;refine⟨?_,fun n hn=>((((Below.refl n X).setCell (p:=⟨B,0,none⟩) hn v0).setCell (p:=⟨B,1,none⟩) hn v1).setCell (p:=⟨B,2,none⟩) hn v2),⟨rfl,rfl,rfl,by simp [World.setCell],fun k _ hk=>?_⟩⟩
 ·have:=((H.set 0 v0).set 1 v1).set 2 v2
  simpa only [zq5,zr5,zs5] using this
 ·have hk':k≠B:=fun e=>hk (by rw [e])
  iterate 3 (rw [Below.heap_setCell _ _ _ _ (by exact hk')])
theorem psgInfo:(Tryz.prog.info? 48).map (fun i=>(i.zero,i.size,i.bytes))=some (some (.agg #[.slice none 0 0,.int .i64 0,.int .i64 0,.int .i64 0,.int .i64 0]),5,56):=by kernel_rfl
set_option linter.unusedSimpArgs false in
set_option linter.unusedVariables false in
set_option maxRecDepth 8000 in
set_option maxHeartbeats 6400000 in
theorem Z2X (m : Msn) (vw vh vr vl : Value) (l : List Int) (w : World) (hm : MsnAt w.heap.size w m vw vh vr) (hl : Za w.heap.size w vl l) (hl0 : l.length ≤ 1000000) :
  Calls Tryz.prog 10 #[.agg (Zd m vw vh vr),vl] w fun e w'=>∃ vs vp ve,e=.returned (.tuple #[.agg #[vs,vp,ve],.int .i64 (mkE m l)])∧CrtAt w'.heap.size w' (mkC m l) vs vp ve∧Below w.heap.size w w':=by
 have f0:=fun w1 (B:Below w.heap.size w w1)=>Z5w m vw vh vr vl l w1 ((hm.below B).mono B.size) ((hl.below B).mono B.size)
 have f1:=fun w1 (B:Below w.heap.size w w1) hV hS=>Z5v m vw vh vr vl l w1 ((hm.below B).mono B.size) ((hl.below B).mono B.size) hV hS
 have f2:=fun w1 (B:Below w.heap.size w w1) hV hS=>Zac m vw vh vr vl l w1 ((hm.below B).mono B.size) ((hl.below B).mono B.size) hV hS
 have f3:=fun w1 (B:Below w.heap.size w w1)=>Z5e vl l w1 ((hl.below B).mono B.size) hl0
 have f4:=fun w1 (B:Below w.heap.size w w1) hV i hi pv u v t e ht he=>Z4s m vw vh vr w1 ((hm.below B).mono B.size) hV i hi pv u v t e ht he
 have f5:=fun w1 (B:Below w.heap.size w w1) hV k hk=>Z3g m vw vh vr k w1 ((hm.below B).mono B.size) hV hk
 have HE:mkE m l=if radOkB m l=true then mkF m l (m.ways.length-1) 0 else 1:=rfl
 have HC:mkC m l=if mkE m l=0 then ⟨l,upto (mkP m l) (m.ways.length-1),upto (mkR m) (m.ways.length-1)⟩ else ⟨[],[],[]⟩:=rfl
 have hv2:=fun h=>Z0o (m:=m) (l:=l) h
 obtain⟨⟨-,a1,cap1,rfl,hcw⟩,⟨-,a2,cap2,rfl,-⟩,⟨-,a3,cap3,rfl,-⟩⟩:=hm;obtain⟨-,al,cl,rfl,-⟩:=hl;have HCW:=Lib.hid hcw;clear hcw;unfold Zd at *;generalize mkE m l=me at *;generalize mkC m l=mc at *;replace f0:=Lib.hid f0;replace f1:=Lib.hid f1;replace f2:=Lib.hid f2;replace f3:=Lib.hid f3;replace f4:=Lib.hid f4;replace f5:=Lib.hid f5;replace HC:=Lib.hid HC;have BW:=Lib.hid (Below.refl w.heap.size w);cases hok:radOkB m l
 ·have g0:=f0.out
  rw [Z4I,hok] at g0;have HV:=Lib.hid (show me=1 by rw [HE,hok];rfl)
  have HCV:=Lib.hid (show mc=⟨[],[],[]⟩ by rw [HC.out,HV.out];rfl)
  replace g0:=Lib.hid g0;clear f0 f1 f2 f3 f4 f5 hv2 hok HE HC;go_enter Tryz.func10,Tryz.ntmps10;go_wp2_with fail;generalize hXX0:World.alloc (World.alloc w _) _=X0;obtain⟨q0,q1,hA,hzX0⟩:=box2 hXX0;clear hXX0;have BW:=Lib.hid hA;clear hA;have MB:=Lib.hid q0;clear q0;have RV:=Lib.hid q1;clear q1 hzX0;obtain⟨c0,c1,c2,c3,c4,c5,c6,c7,c8,c9,c10⟩:=Zi (m:=m) MB.out;refine (g0.out _ BW.out).mono ?_;rintro e w1 ⟨u1,u2,rfl,-,-,b1⟩;replace BW:=zAg BW b1;have B_X0:=Lib.hid b1;clear b1 c0 c1 c2 c3 c4 c5 c6 c7 c8 c9 c10;obtain⟨c0,c1,c2,c3,c4,c5,c6,c7,c8,c9,c10⟩:=Zi (m:=m) (zCw MB B_X0);clear c0 c1 c2 c3 c4 c5 c6 c7 c8 c9 c10;have hrv:=(zCw RV B_X0);have e0:=hrv.cell (i:=0) rfl;have e1:=hrv.cell (i:=1) rfl;have e2:=hrv.cell (i:=2) rfl;have z0:=Zh hrv 0;have z1:=Zh hrv 1;have z2:=Zh hrv 2;go_wp2;clear e0 e1 e2 z0 z1 z2;generalize hZ9:World.setCell (World.setCell (World.setCell w1 _ _) _ _) _ _=Z9;obtain⟨HZ9,hl9,hg9⟩:=set3 hrv hZ9;have r0:=HZ9.cell (i:=0) rfl;have r1:=HZ9.cell (i:=1) rfl;have r2:=HZ9.cell (i:=2) rfl;have B9:=BW.out.trans (hl9 w.heap.size (by omega))
  clear hrv hZ9;exact bodyPost_ret (v:=.tuple #[.agg #[.slice none 0 0,.slice none 0 0,.slice none 0 0],.int .i64 1]) (by simp [results,Tryz.f10,go_sem,r0,r1,r2]) rfl ⟨_,_,_,by rw [HV.out],by rw [HCV.out];exact⟨Za.nil _ _,⟨by simp,none,0,rfl,.inl rfl⟩,Za.nil _ _⟩,B9⟩
 obtain⟨hV,hS⟩:=hv2 hok;have V:=(Zp m).1 hV;have n41:=V.n41;have n2:=V.n2;have HME:=Lib.hid (show me=mkF m l (m.ways.length-1) 0 by rw [HE,hok];rfl)
 obtain⟨n,hn⟩:∃ n,m.ways.length-1=n:=⟨_,rfl⟩;have jw:IntKind.i64.wrap ((m.ways.length:Int)-1)=(n:Int):=by rw [show (m.ways.length:Int)-1=(n:Int) by omega];exact zW2
 have hnl:n+1=m.ways.length:=by omega
 replace HME:=HME.out;replace HC:=HC.out;rw [hn] at HME HC;have hsp:=fun k h0 h1 h2=>Z4R m l n 0 k h0 h1 h2
 have hze:=Z4Q m l n 0;simp only [Nat.zero_add,Nat.zero_le,true_implies] at hsp hze;rw [← HME] at hze;simp only [← HME] at hsp;have HSP:=Lib.hid hsp;have HZE:=Lib.hid hze;replace HC:=Lib.hid HC;have g1':=fun w1 B=>f1.out w1 B hV hS
 have g2':=fun w1 B=>f2.out w1 B hV hS
 have k1:=fun vb n0 W (h:Za n0 W vb (rdBU m l))=>ZV h (by rw [Z0S];omega)
 have k2:=fun va n0 W (h:Za n0 W va (rdAU m l))=>ZV h (by rw [show (rdAU m l).length=m.ways.length from Zu _ _];omega)
 have k3:=fun vt n0 W (h:Za n0 W vt (usedT m l))=>ZV h (by rw [Z0C];omega)
 have k4:=fun ve n0 W (h:Za n0 W ve (usedE m l))=>ZV h (by rw [Z0D];omega)
 simp only [Z0S,Z0C,Z0D,show (rdAU m l).length=m.ways.length from Zu _ _] at k1 k2 k3 k4
 have y1:=fun k (hk:k+1<m.ways.length)=>show (rdBU m l).getD (k+1) 0=rdB m l (k+1) from Z76 hk
 have y2:=fun k (hk:k<m.ways.length)=>show (rdAU m l).getD k 0=rdA m l k from Z77 hk
 have y3:=fun k (hk:k+1<m.ways.length)=>show (usedT m l).getD (k+1) 0=usT m l (k+1) from Z0H _ hk
 have y4:=fun k (hk:k+1<m.ways.length)=>show (usedE m l).getD (k+1) 0=usE m l (k+1) from Z0H _ hk
 replace g1':=Lib.hid g1';replace g2':=Lib.hid g2';replace k1:=Lib.hid k1;replace k2:=Lib.hid k2;replace k3:=Lib.hid k3;replace k4:=Lib.hid k4;replace y1:=Lib.hid y1;replace y2:=Lib.hid y2;replace y3:=Lib.hid y3;replace y4:=Lib.hid y4;have VV:=Lib.hid V;have HV0:=Lib.hid hV;clear f0 f1 f2 hv2 hok HE hsp hze V hV hS hn;go_enter Tryz.func10,Tryz.ntmps10;go_wp2_with fail;generalize hXX0:World.alloc (World.alloc w _) _=X0;obtain⟨q0,q1,hA,hzX0⟩:=box2 hXX0;clear hXX0;have BW:=Lib.hid hA;clear hA;have MB:=Lib.hid q0;clear q0;have RV:=Lib.hid q1;clear q1 hzX0;obtain⟨c0,c1,c2,c3,c4,c5,c6,c7,c8,c9,c10⟩:=Zi (m:=m) MB.out;refine (g1'.out _ BW.out).mono ?_;rintro e w1 ⟨v1,u1,rfl,p1,q1,b1,-,-⟩;replace BW:=zAg BW b1;have B_X0:=Lib.hid b1;clear b1;obtain⟨b1,o1,e1,hv1,hb1,hc1⟩:=k1.out _ _ _ p1;subst hv1;obtain⟨b1',o1',e1',hv1,hb1',hc1'⟩:=k2.out _ _ _ q1;subst hv1;have BE:=Lib.hid hc1;have AF:=Lib.hid hc1';have LBE:=Lib.hid hb1;have LAF:=Lib.hid hb1';clear hc1 hc1' hb1 hb1' p1 q1 c0 c1 c2 c3 c4 c5 c6 c7 c8 c9 c10;obtain⟨c0,c1,c2,c3,c4,c5,c6,c7,c8,c9,c10⟩:=Zi (m:=m) (zCw MB B_X0);go_wp2_with fail;refine (g2'.out _ BW.out).mono ?_;rintro e w2 ⟨v2,u2,rfl,p2,q2,b2,-,-⟩;replace BW:=zAg BW b2;replace B_X0:=zAg B_X0 b2;have B_w1:=Lib.hid b2;clear b2;obtain⟨b2,o2,e2,hv1,hb2,hc2⟩:=k3.out _ _ _ p2;subst hv1;obtain⟨b2',o2',e2',hv1,hb2',hc2'⟩:=k4.out _ _ _ q2;subst hv1;have TI:=Lib.hid hc2;have EN:=Lib.hid hc2';have LTI:=Lib.hid hb2;have LEN:=Lib.hid hb2';clear hc2 hc2' hb2 hb2' p2 q2 c0 c1 c2 c3 c4 c5 c6 c7 c8 c9 c10;obtain⟨c0,c1,c2,c3,c4,c5,c6,c7,c8,c9,c10⟩:=Zi (m:=m) (zCw MB B_X0);have HLW:=Lib.hid (show w.heap.size+1<w2.heap.size from (zCw RV B_X0).lt)
 go_wp2_with fail;refine (f3.out _ BW.out).mono ?_;rintro e w3 ⟨vS,rfl,p3,b3,hN3⟩;replace BW:=zAg BW b3;replace B_X0:=zAg B_X0 b3;replace B_w1:=zAg B_w1 b3;have B_w2:=Lib.hid b3;clear b3;have PS:=Lib.hid p3;clear p3;have HN3:=Lib.hid hN3;clear hN3;obtain⟨-,aS,cS,hvS,-⟩:=PS.out;subst hvS;clear c0 c1 c2 c3 c4 c5 c6 c7 c8 c9 c10;obtain⟨c0,c1,c2,c3,c4,c5,c6,c7,c8,c9,c10⟩:=Zi (m:=m) (zCw MB B_X0);have HS1:=Lib.hid (show w1.heap.size≤w3.heap.size from B_w1.out.size)
 have HS2:=Lib.hid (show w2.heap.size≤w3.heap.size from B_w2.out.size)
 have HSR:=Lib.hid (zCw RV B_X0).lt;go_upto_region 8 with fail
 generalize hXZ:World.alloc w3 _=Z;obtain⟨q0,hA,hzZ⟩:=box1 hXZ;clear hXZ;replace BW:=zAg BW hA;replace B_X0:=zAg B_X0 hA;replace B_w1:=zAg B_w1 hA;replace B_w2:=zAg B_w2 hA;have B_w3:=Lib.hid hA;clear hA;have CB:=Lib.hid q0;clear q0 c0 c1 c2 c3 c4 c5 c6 c7 c8 c9 c10;obtain⟨c0,c1,c2,c3,c4,c5,c6,c7,c8,c9,c10⟩:=Zi (m:=m) (zCw MB B_X0);obtain⟨bC,hbC⟩:∃ x,w3.heap.size=x:=⟨_,rfl⟩;rw [hbC] at CB hzZ ⊢;replace PS:=PS.out;rw [hbC] at PS;replace PS:=Lib.hid PS;have hS0:bC≤w3.heap.size:=by omega
 have hBZ:=BW.out.size;go_wp2;clear c0 c1 c2 c3 c4 c5 c6 c7 c8 c9 c10;have hMB:=Lib.hid (zCw MB B_X0);have hRV:=Lib.hid (zCw RV B_X0);have QS:=Lib.hid (show Za bC Z _ l from PS.out.below (B_w3.out.mono hS0))
 have hs1:=HS1.out;have hs2:=HS2.out;have hsr:w.heap.size+1<bC:=by rw [← hbC];exact HSR.out
 rw [hbC] at hs1 hs2;have ZBE:=Lib.hid (fun j (hj:j<m.ways.length)=>(B_w1.out.cell (p:=⟨b1,o1+j,none⟩) LBE.out).trans (BE.out j hj))
 have MBE:b1<bC:=by have:=LBE.out;omega
 have ZAF:=Lib.hid (fun j (hj:j<m.ways.length)=>(B_w1.out.cell (p:=⟨b1',o1'+j,none⟩) LAF.out).trans (AF.out j hj))
 have MAF:b1'<bC:=by have:=LAF.out;omega
 have ZTI:=Lib.hid (fun j (hj:j<m.ways.length)=>(B_w2.out.cell (p:=⟨b2,o2+j,none⟩) LTI.out).trans (TI.out j hj))
 have MTI:b2<bC:=by have:=LTI.out;omega
 have ZEN:=Lib.hid (fun j (hj:j<m.ways.length)=>(B_w2.out.cell (p:=⟨b2',o2'+j,none⟩) LEN.out).trans (EN.out j hj))
 have MEN:b2'<bC:=by have:=LEN.out;omega
 obtain⟨i0,hi0,hz0',hz1',hz2'⟩:=info_parts intInfo;have HI:=Lib.hid hi0;obtain⟨i5,hi5,hy0',hy1',hy2'⟩:=info_parts psgInfo;have HI5:=Lib.hid hi5;clear hi0 hi5 hS0 hs1 hs2
 go_loopw [47] (fun i wr=>∃ (k:Nat) (v1 v2:Value) (x1:List Value),k≤n∧i=.int .i64 k∧(∀ j,j<k→mkQ m l j=0)∧Has wr bC #[.slice aS l.length (l.length+cS),v1,v2] 30∧MkS bC Z wr (mkP m l) v1 v2 k k x1 ((upto (mkR m) k).map (Value.int .i64)) k x1) (fun i _=>n-(intOf i).toNat)
 case atStart=>exact⟨0,.slice none 0 0,.slice none 0 0,[],Nat.zero_le _,rfl,fun j h=>by omega,CB.out,⟨Below.refl _ _,World.ownsRow_nil _ _ _ _,World.ownsRow_nil _ _ _ _,.inl rfl,PsR.nil⟩⟩
 case round =>
  obtain⟨k,v1,v2,x1,hk,rfl,hall,hCB,hMK⟩:=hrel;obtain⟨wo,hwo⟩:∃ x,x=wr:=⟨_,rfl⟩;subst hwo;obtain⟨av1,cv1,rfl⟩:=Z15 hMK.r1;obtain⟨av2,cv2,rfl⟩:=Z15 hMK.r2;have HA:=Lib.hid hall;have HCB:=Lib.hid hCB;have MK:=Lib.hid hMK;have BB:=Lib.hid hMK.bel;have hbC2:=hCB.lt;replace BW:=Lib.hid (BW.out.trans (BB.out.mono (by omega)))
  have hMO:=Lib.hid (hMB.out.below BB.out (by omega))
  have hRO:=Lib.hid (hRV.out.below BB.out (by omega))
  clear hall hCB hMK;by_cases hlt:k<n
  ·have hk1:k+1<m.ways.length:=by omega
   have hk0:k<m.ways.length:=by omega
   obtain⟨bw,ow,rfl,hbw,hcw⟩:=HCW.out.resolve_left (by intro h;rw [h] at hk1;simp at hk1)
   obtain⟨p1,p2,-⟩:=hcw k hk0;obtain⟨p3,p4,-⟩:=hcw (k+1) hk1;have xB:=(BB.out.cell (p:=⟨b1,o1+(k+1),none⟩) MBE).trans (ZBE.out (k+1) hk1);have xA:=(BB.out.cell (p:=⟨b1',o1'+k,none⟩) MAF).trans (ZAF.out k hk0);have xT:=(BB.out.cell (p:=⟨b2,o2+(k+1),none⟩) MTI).trans (ZTI.out (k+1) hk1);have xE:=(BB.out.cell (p:=⟨b2',o2'+(k+1),none⟩) MEN).trans (ZEN.out (k+1) hk1);rw [y1.out k hk1] at xB;rw [y2.out k hk0] at xA;rw [y3.out k hk1] at xT;rw [y4.out k hk1] at xE;have rk0:=rd_le VV.out l (k:=k) hk0;have rk1:=rd_le VV.out l (k:=k+1) hk1;have ub:=Z2l VV.out l (k+1) hk1;have hcor:=Z2J VV.out (a:=k) (b:=k+1) hk0 hk1 ⟨rk0.2.2.1,rk0.2.2.2⟩ ⟨rk1.1,rk1.2.1⟩;have f6:=fun w1=>Z2I (atW m k) (atW m (k+1)) (rdA m l k) (rdB m l (k+1)) w1
   rw [hcor] at f6;have HP:Hid (mkP m l k=⟨corL (atW m k) (rdA m l k) (atW m (k+1)) (rdB m l (k+1)),rdA m l k,rdB m l (k+1),usT m l (k+1),usE m l (k+1)⟩):=rfl;have HQ:Hid (mkQ m l k=kpsE m k (rdA m l k) (rdB m l (k+1)) (usT m l (k+1)) (usE m l (k+1))):=rfl;have HR:Hid (mkR m k=homeE m (k+1) (dep m (k+1))):=rfl;unfold atW at f6 HP;generalize corL ⟨(wy m.ways k).x,(wy m.ways k).y⟩ (rdA m l k) ⟨(wy m.ways (k+1)).x,(wy m.ways (k+1)).y⟩ (rdB m l (k+1))=cl at *;simp only at f6;generalize rdA m l k=qa at *;generalize rdB m l (k+1)=qb at *;generalize usT m l (k+1)=qt at *;generalize usE m l (k+1)=qe at *;generalize (wy m.ways k).x=px at *;generalize (wy m.ways k).y=py at *;generalize (wy m.ways (k+1)).x=qx at *;generalize (wy m.ways (k+1)).y=qy at *;have g4:=f4.out;have g5:=fun w1 B=>f5.out w1 B HV0.out (k+1) hk1
   generalize homeT m (k+1) (dep m (k+1))=hT' at *;generalize homeE m (k+1) (dep m (k+1))=hE' at *;obtain⟨kq,hkq⟩:∃ x,kpsE m k qa qb qt qe=x:=⟨_,rfl⟩;have g4':=fun w1 B=>g4 w1 B HV0.out k hk1 (.slice none 0 0) qa qb qt qe (by omega) (by omega)
   rw [hkq] at g4' HQ;replace f6:=Lib.hid f6;replace g4':=Lib.hid g4';replace g5:=Lib.hid g5;have dk:decide ((k:Int)<(n:Int))=true:=zTy;have kl:(k:Int)<(n:Int):=by omega
   have kl0:(0:Int)≤(k:Int):=by omega
   have kl1:(k:Int)<m.ways.length:=by omega
   have kl2:(k:Int)+1<m.ways.length:=by omega
   have kl3:(0:Int)≤(k:Int)+1:=by omega
   have kl4:((k+1:Nat):Int)<m.ways.length:=by omega
   have jk:IntKind.i64.wrap ((k:Int)+1)=((k+1:Nat):Int):=by rw [show (k:Int)+1=((k+1:Nat):Int) by omega];exact zW2
   have jk2:IntKind.i64.wrap ((k:Int)+1)=(k:Int)+1:=zW2;have HP1:=Lib.hid (And.intro p1 (And.intro p2 (And.intro p3 p4)));have hk8:k≤40:=by omega
   clear hcw p1 p2 p3 p4 g4 hkq hcor rk0 rk1 ub;have BR:=Lib.hid (Below.refl wo.heap.size wo);go_upto_region 11 with fail
   refine (wpIn_wide (n:=9)).1 ?_;refine Zj (Zt _) 21 (fun X=>Below wo.heap.size wo X) (by kernel_rfl) (by kernel_rfl) (by kernel_rfl) fun hH inv0=>?_
   have hD:=Below.drew (Below.refl wo.heap.size wo);generalize hXX1:wo.drew=X1 at *;clear hXX1;replace BW:=zAg BW hD;have BR:=Lib.hid hD;clear hD;refine sk hH (i:=0) (v:=.slice (some ⟨b1',o1',none⟩) m.ways.length (m.ways.length+e1')) (Ze rfl) inv0 (fun X hX=>?_) fun inv1=>?_
   ·go_simp
   simp only [Act.put,zq5,zr5,zs5];clear inv0;refine sk hH (i:=1) (v:=.int .i64 (k:Int)) (Ze rfl) inv1 (fun X hX=>?_) fun inv2=>?_
   ·go_simp
   simp only [Act.put,zq5,zr5,zs5];clear inv1;refine sk hH (i:=2) (v:=.pointer (some ⟨b1',o1'+k,none⟩)) (Ze rfl) inv2 (fun X hX=>?_) fun inv3=>?_
   ·go_simp
   simp only [Act.put,zq5,zr5,zs5];clear inv2;refine sk hH (i:=3) (v:=.int .i64 qa) (Ze rfl) inv3 (fun X hX=>?_) fun inv4=>?_
   ·have r0:=(hX.cell (p:=⟨b1',o1'+k,none⟩) (World.block_lt_of_cell? _ _ xA)).trans xA;go_simp
   simp only [Act.put,zq5,zr5,zs5];clear inv3;refine sk hH (i:=4) (v:=.slice (some ⟨b1,o1,none⟩) m.ways.length (m.ways.length+e1)) (Ze rfl) inv4 (fun X hX=>?_) fun inv5=>?_
   ·go_simp
   simp only [Act.put,zq5,zr5,zs5];clear inv4;refine sk hH (i:=5) (v:=.int .i64 (k:Int)) (Ze rfl) inv5 (fun X hX=>?_) fun inv6=>?_
   ·go_simp
   simp only [Act.put,zq5,zr5,zs5];clear inv5;refine sk hH (i:=6) (v:=.int .i64 ((k+1:Nat):Int)) (Ze rfl) inv6 (fun X hX=>?_) fun inv7=>?_
   ·go_simp
   simp only [Act.put,zq5,zr5,zs5];clear inv6;refine sk hH (i:=7) (v:=.pointer (some ⟨b1,o1+(k+1),none⟩)) (Ze rfl) inv7 (fun X hX=>?_) fun inv8=>?_
   ·go_simp
   simp only [Act.put,zq5,zr5,zs5];clear inv7;refine sk hH (i:=8) (v:=.int .i64 qb) (Ze rfl) inv8 (fun X hX=>?_) fun inv9=>?_
   ·have r0:=(hX.cell (p:=⟨b1,o1+(k+1),none⟩) (World.block_lt_of_cell? _ _ xB)).trans xB;go_simp
   simp only [Act.put,zq5,zr5,zs5];clear inv8;refine sk hH (i:=9) (v:=.slice (some ⟨b2,o2,none⟩) m.ways.length (m.ways.length+e2)) (Ze rfl) inv9 (fun X hX=>?_) fun inv10=>?_
   ·go_simp
   simp only [Act.put,zq5,zr5,zs5];clear inv9;refine sk hH (i:=10) (v:=.int .i64 (k:Int)) (Ze rfl) inv10 (fun X hX=>?_) fun inv11=>?_
   ·go_simp
   simp only [Act.put,zq5,zr5,zs5];clear inv10;refine sk hH (i:=11) (v:=.int .i64 ((k+1:Nat):Int)) (Ze rfl) inv11 (fun X hX=>?_) fun inv12=>?_
   ·go_simp
   simp only [Act.put,zq5,zr5,zs5];clear inv11;refine sk hH (i:=12) (v:=.pointer (some ⟨b2,o2+(k+1),none⟩)) (Ze rfl) inv12 (fun X hX=>?_) fun inv13=>?_
   ·go_simp
   simp only [Act.put,zq5,zr5,zs5];clear inv12;refine sk hH (i:=13) (v:=.int .i64 qt) (Ze rfl) inv13 (fun X hX=>?_) fun inv14=>?_
   ·have r0:=(hX.cell (p:=⟨b2,o2+(k+1),none⟩) (World.block_lt_of_cell? _ _ xT)).trans xT;go_simp
   simp only [Act.put,zq5,zr5,zs5];clear inv13;refine sk hH (i:=14) (v:=.slice (some ⟨b2',o2',none⟩) m.ways.length (m.ways.length+e2')) (Ze rfl) inv14 (fun X hX=>?_) fun inv15=>?_
   ·go_simp
   simp only [Act.put,zq5,zr5,zs5];clear inv14;refine sk hH (i:=15) (v:=.int .i64 (k:Int)) (Ze rfl) inv15 (fun X hX=>?_) fun inv16=>?_
   ·go_simp
   simp only [Act.put,zq5,zr5,zs5];clear inv15;refine sk hH (i:=16) (v:=.int .i64 ((k+1:Nat):Int)) (Ze rfl) inv16 (fun X hX=>?_) fun inv17=>?_
   ·go_simp
   simp only [Act.put,zq5,zr5,zs5];clear inv16;refine sk hH (i:=17) (v:=.pointer (some ⟨b2',o2'+(k+1),none⟩)) (Ze rfl) inv17 (fun X hX=>?_) fun inv18=>?_
   ·go_simp
   simp only [Act.put,zq5,zr5,zs5];clear inv17;refine sk hH (i:=18) (v:=.int .i64 qe) (Ze rfl) inv18 (fun X hX=>?_) fun inv19=>?_
   ·have r0:=(hX.cell (p:=⟨b2',o2'+(k+1),none⟩) (World.block_lt_of_cell? _ _ xE)).trans xE;go_simp
   simp only [Act.put,zq5,zr5,zs5];clear inv18;refine sk hH (i:=19) (v:=.agg #[.slice none 0 0,.int .i64 qa,.int .i64 qb,.int .i64 qt,.int .i64 qe]) (Ze rfl) inv19 (fun X hX=>?_) fun inv20=>?_
   ·go_simp
   simp only [Act.put,zq5,zr5,zs5];clear inv19;have inv21:=HeadInv.put2 inv20 (j:=20) (by kernel_rfl) (by omega)
   clear inv20;refine sa1 (r:=20) BR.out ?_;refine ZC (Ze rfl) rfl (v:=.pointer (some ⟨X1.heap.size,0,none⟩)) (w':=X1.alloc (.cells #[.slice none 0 0,.int .i64 0,.int .i64 0,.int .i64 0,.int .i64 0] 48)) (by go_simp) ?_
   simp only [Act.put,zq5,zr5,zs5];have hN:=Has.new X1 #[.slice none 0 0,.int .i64 0,.int .i64 0,.int .i64 0,.int .i64 0] 48;have hA2:=(Below.refl X1.heap.size X1).alloc (Nat.le_refl _) (.cells #[.slice none 0 0,.int .i64 0,.int .i64 0,.int .i64 0,.int .i64 0] 48);have hx1:=BR.out.size;generalize X1.alloc (.cells #[.slice none 0 0,.int .i64 0,.int .i64 0,.int .i64 0,.int .i64 0] 48)=X2 at *;replace BW:=zAg BW hA2;replace BR:=zAg BR hA2;clear hA2 inv21 hH;refine Zv (by kernel_rfl) BR.out ?_
   simp only [List.drop_succ_cons,List.drop_zero];refine Z0n rfl rfl (g:=X1.heap.size) (cells:=#[.slice none 0 0,.int .i64 qa,.int .i64 qb,.int .i64 qt,.int .i64 qe]) rfl rfl hN (by kernel_rfl) rfl (by simp [Value.oneCell']) ?_
   have hP:=Has.put (cells:=#[.slice none 0 0,.int .i64 qa,.int .i64 qb,.int .i64 qt,.int .i64 qe]) hN;replace BW:=Lib.hid (Below.setRow BW.out (C:=X1.heap.size) (by have:=BB.out.size;omega) #[.slice none 0 0,.int .i64 qa,.int .i64 qb,.int .i64 qt,.int .i64 qe])
   replace BR:=Lib.hid (Below.setRow BR.out (C:=X1.heap.size) hx1 #[.slice none 0 0,.int .i64 qa,.int .i64 qb,.int .i64 qt,.int .i64 qe]);generalize X2.setRow X1.heap.size #[.slice none 0 0,.int .i64 qa,.int .i64 qb,.int .i64 qt,.int .i64 qe]=X3 at *;obtain⟨bP,hbP⟩:∃ x,X1.heap.size=x:=⟨_,rfl⟩;rw [hbP] at hP hx1 ⊢;have PB:=Lib.hid hP;clear hP hN hbP xA xB xT xE;gi_wp2;obtain⟨c0,c1,c2,c3,c4,c5,c6,c7,c8,c9,c10⟩:=Zi (m:=m) (zCw hMO BR);have hpb:=PB.out;have y0':=hpb.cell (i:=0) rfl;have y1':=hpb.cell (i:=1) rfl;have y2':=hpb.cell (i:=2) rfl;have y3':=hpb.cell (i:=3) rfl;have y4':=hpb.cell (i:=4) rfl;have yz:=Zh hpb 0;have ltPB:=hpb.lt;go_wp2_with fail;refine (g4'.out _ BW.out).mono ?_;rintro e w4 ⟨rfl,b4⟩;replace BW:=zAg BW b4;replace BR:=zAg BR b4;have B_X3:=Lib.hid b4;clear b4 c0 c1 c2 c3 c4 c5 c6 c7 c8 c9 c10 hpb y0' y1' y2' y3' y4' yz ltPB;obtain⟨c0,c1,c2,c3,c4,c5,c6,c7,c8,c9,c10⟩:=Zi (m:=m) (zCw hMO BR);have hpb:=(zCw PB B_X3);have y0':=hpb.cell (i:=0) rfl;have y1':=hpb.cell (i:=1) rfl;have y2':=hpb.cell (i:=2) rfl;have y3':=hpb.cell (i:=3) rfl;have y4':=hpb.cell (i:=4) rfl;have yz:=Zh hpb 0;have ltPB:=hpb.lt;by_cases hq0:kq=0;rotate_left
   ·skip
    have dq:(kq == 0)=false:=by rw [beq_eq_false_iff_ne];exact hq0
    have HV:=Lib.hid (show me=kq by rw [HSP.out k hlt HA.out (by rw [HQ.out];exact hq0)];exact HQ.out)
    have HCV:=Lib.hid (show mc=⟨[],[],[]⟩ by rw [HC.out,if_neg (by rw [HV.out];exact hq0)])
    clear hq0 c0 c1 c2 c3 c4 c5 c6 c7 c8 c9 c10 hpb y0' y1' y2' y3' y4' yz ltPB;have hrv:=(zCw hRO BR);have e0:=hrv.cell (i:=0) rfl;have e1:=hrv.cell (i:=1) rfl;have e2:=hrv.cell (i:=2) rfl;have z0:=Zh hrv 0;have z1:=Zh hrv 1;have z2:=Zh hrv 2;go_wp2;clear e0 e1 e2 z0 z1 z2;generalize hZ9:World.setCell (World.setCell (World.setCell w4 _ _) _ _) _ _=Z9;obtain⟨HZ9,hl9,hg9⟩:=set3 hrv hZ9;have r0:=HZ9.cell (i:=0) rfl;have r1:=HZ9.cell (i:=1) rfl;have r2:=HZ9.cell (i:=2) rfl;have B9:=BW.out.trans (hl9 w.heap.size (by omega))
    clear hrv hZ9;exact bodyPost_ret (v:=.tuple #[.agg #[.slice none 0 0,.slice none 0 0,.slice none 0 0],.int .i64 kq]) (by simp [results,Tryz.f10,go_sem,r0,r1,r2]) rfl ⟨_,_,_,by rw [HV.out],by rw [HCV.out];exact⟨Za.nil _ _,⟨by simp,none,0,rfl,.inl rfl⟩,Za.nil _ _⟩,B9⟩
   subst hq0;go_upto_region 15 with fail
   clear c0 c1 c2 c3 c4 c5 c6 c7 c8 c9 c10 hpb y0' y1' y2' y3' y4' yz ltPB;have m0:w4.cell? ⟨w.heap.size,0,none⟩=some (.slice (some ⟨bw,ow,none⟩) m.ways.length (m.ways.length+cap1)):=(zCw hMO BR).cell (i:=0) rfl;have l1:=(zCw PB B_X3).cell (i:=1) rfl;have l2:=(zCw PB B_X3).cell (i:=2) rfl;have p1:=(BW.out.cell (p:=⟨bw,ow+k*5,none⟩) hbw).trans HP1.out.1;have p2:=(BW.out.cell (p:=⟨bw,ow+k*5+1,none⟩) hbw).trans HP1.out.2.1;have p3:=(BW.out.cell (p:=⟨bw,ow+(k+1)*5,none⟩) hbw).trans HP1.out.2.2.1;have p4:=(BW.out.cell (p:=⟨bw,ow+(k+1)*5+1,none⟩) hbw).trans HP1.out.2.2.2;have hzo:=BR.out.size;have hbX0:bP<w4.heap.size:=(zCw PB B_X3).lt;refine (wpIn_wide (n:=9)).1 ?_;refine Z1N (Zt _) (fun X=>Below bP w4 X∧X.cell? ⟨bP,1,none⟩=some (.int .i64 qa)∧X.cell? ⟨bP,2,none⟩=some (.int .i64 qb)) (by kernel_rfl) (by kernel_rfl) (by kernel_rfl) fun hsel=>?_
   have hD:=Below.drew (Below.refl w4.heap.size w4);have hS5:=And.intro (hD.mono (Nat.le_of_lt hbX0)) (And.intro ((hD.cell (p:=⟨bP,1,none⟩) hbX0).trans l1) ((hD.cell (p:=⟨bP,2,none⟩) hbX0).trans l2));generalize hXX5:w4.drew=X5 at *;clear hXX5;replace BW:=zAg BW hD;replace BR:=zAg BR hD;replace B_X3:=zAg B_X3 hD;clear hD;refine Zz hsel (i:=0) (v:=.pointer (some ⟨w.heap.size,0,none⟩)) (Ze rfl) (by kernel_rfl) (by kernel_rfl) rfl (fun X hX=>?_) ?_
   ·go_simp
   simp only [Act.put,zq5,zr5,zs5];refine Zz hsel (i:=1) (v:=.slice (some ⟨bw,ow,none⟩) m.ways.length (m.ways.length+cap1)) (Ze rfl) (by kernel_rfl) (by kernel_rfl) rfl (fun X hX=>?_) ?_
   ·have qm0:=(hX.1.cell (p:=⟨w.heap.size,0,none⟩) (show w.heap.size<bP by omega)).trans m0;go_simp
   simp only [Act.put,zq5,zr5,zs5];refine Zz hsel (i:=2) (v:=.int .i64 (k:Int)) (Ze rfl) (by kernel_rfl) (by kernel_rfl) rfl (fun X hX=>?_) ?_
   ·go_simp
   simp only [Act.put,zq5,zr5,zs5];refine Zz hsel (i:=3) (v:=.pointer (some ⟨bw,ow+k*5,none⟩)) (Ze rfl) (by kernel_rfl) (by kernel_rfl) rfl (fun X hX=>?_) ?_
   ·go_simp
   simp only [Act.put,zq5,zr5,zs5];refine Zz hsel (i:=4) (v:=.pointer (some ⟨bw,ow+k*5,none⟩)) (Ze rfl) (by kernel_rfl) (by kernel_rfl) rfl (fun X hX=>?_) ?_
   ·go_simp
   simp only [Act.put,zq5,zr5,zs5];refine Zz hsel (i:=5) (v:=.agg #[.int .i64 px,.int .i64 py]) (Ze rfl) (by kernel_rfl) (by kernel_rfl) rfl (fun X hX=>?_) ?_
   ·have qp1:=(hX.1.cell (p:=⟨bw,ow+k*5,none⟩) (show bw<bP by omega)).trans p1;have qp2:=(hX.1.cell (p:=⟨bw,ow+k*5+1,none⟩) (show bw<bP by omega)).trans p2;go_simp
   simp only [Act.put,zq5,zr5,zs5];refine Zz hsel (i:=6) (v:=.pointer (some ⟨bP,1,none⟩)) (Ze rfl) (by kernel_rfl) (by kernel_rfl) rfl (fun X hX=>?_) ?_
   ·go_simp
   simp only [Act.put,zq5,zr5,zs5];refine Zz hsel (i:=7) (v:=.int .i64 qa) (Ze rfl) (by kernel_rfl) (by kernel_rfl) rfl (fun X hX=>?_) ?_
   ·have q1:=hX.2.1;go_simp
   simp only [Act.put,zq5,zr5,zs5];refine Zz hsel (i:=8) (v:=.pointer (some ⟨w.heap.size,0,none⟩)) (Ze rfl) (by kernel_rfl) (by kernel_rfl) rfl (fun X hX=>?_) ?_
   ·go_simp
   simp only [Act.put,zq5,zr5,zs5];refine Zz hsel (i:=9) (v:=.slice (some ⟨bw,ow,none⟩) m.ways.length (m.ways.length+cap1)) (Ze rfl) (by kernel_rfl) (by kernel_rfl) rfl (fun X hX=>?_) ?_
   ·have qm0:=(hX.1.cell (p:=⟨w.heap.size,0,none⟩) (show w.heap.size<bP by omega)).trans m0;go_simp
   simp only [Act.put,zq5,zr5,zs5];refine Zz hsel (i:=10) (v:=.int .i64 (k:Int)) (Ze rfl) (by kernel_rfl) (by kernel_rfl) rfl (fun X hX=>?_) ?_
   ·go_simp
   simp only [Act.put,zq5,zr5,zs5];refine Zz hsel (i:=11) (v:=.int .i64 ((k+1:Nat):Int)) (Ze rfl) (by kernel_rfl) (by kernel_rfl) rfl (fun X hX=>?_) ?_
   ·go_simp
   simp only [Act.put,zq5,zr5,zs5];refine Zz hsel (i:=12) (v:=.pointer (some ⟨bw,ow+(k+1)*5,none⟩)) (Ze rfl) (by kernel_rfl) (by kernel_rfl) rfl (fun X hX=>?_) ?_
   ·go_simp
   simp only [Act.put,zq5,zr5,zs5];refine Zz hsel (i:=13) (v:=.pointer (some ⟨bw,ow+(k+1)*5,none⟩)) (Ze rfl) (by kernel_rfl) (by kernel_rfl) rfl (fun X hX=>?_) ?_
   ·go_simp
   simp only [Act.put,zq5,zr5,zs5];refine Zz hsel (i:=14) (v:=.agg #[.int .i64 qx,.int .i64 qy]) (Ze rfl) (by kernel_rfl) (by kernel_rfl) rfl (fun X hX=>?_) ?_
   ·have qp3:=(hX.1.cell (p:=⟨bw,ow+(k+1)*5,none⟩) (show bw<bP by omega)).trans p3;have qp4:=(hX.1.cell (p:=⟨bw,ow+(k+1)*5+1,none⟩) (show bw<bP by omega)).trans p4;go_simp
   simp only [Act.put,zq5,zr5,zs5];refine Zz hsel (i:=15) (v:=.pointer (some ⟨bP,2,none⟩)) (Ze rfl) (by kernel_rfl) (by kernel_rfl) rfl (fun X hX=>?_) ?_
   ·go_simp
   simp only [Act.put,zq5,zr5,zs5];refine Zz hsel (i:=16) (v:=.int .i64 qb) (Ze rfl) (by kernel_rfl) (by kernel_rfl) rfl (fun X hX=>?_) ?_
   ·have q1:=hX.2.2;go_simp
   simp only [Act.put,zq5,zr5,zs5];have hzx5:wo.heap.size≤X5.heap.size:=BR.out.size;refine sa1 (r:=17) hS5 ?_;refine ZM (Ze rfl) rfl (f:=25) (args:=#[.agg #[.int .i64 px,.int .i64 py],.int .i64 qa,.agg #[.int .i64 qx,.int .i64 qy],.int .i64 qb]) (by go_simp) (f6.out X5) ?_
   rintro e w8 ⟨vc,rfl,p9,b8,n9⟩;refine⟨_,rfl,?_⟩;simp only [Act.put,zq5,zr5,zs5];have hbX:bP<X5.heap.size:=World.block_lt_of_cell? _ _ hS5.2.1;have hS8:=And.intro (hS5.1.trans (b8.mono (by omega))) (And.intro ((b8.cell (p:=⟨bP,1,none⟩) hbX).trans hS5.2.1) ((b8.cell (p:=⟨bP,2,none⟩) hbX).trans hS5.2.2))
   replace BW:=zAg BW b8;replace BR:=zAg BR b8;replace B_X3:=zAg B_X3 b8;clear b8;have P1:=Lib.hid p9;have N1:=Lib.hid n9;clear p9 n9 hS5;refine Zz hsel (i:=18) (v:=.tuple #[vc,.int .i64 0]) (Ze rfl) (by kernel_rfl) (by kernel_rfl) rfl (fun X hX=>?_) ?_
   ·go_simp
   simp only [Act.put,zq5,zr5,zs5];refine Zz hsel (i:=19) (v:=vc) (Ze rfl) (by kernel_rfl) (by kernel_rfl) rfl (fun X hX=>?_) ?_
   ·go_simp
   simp only [Act.put,zq5,zr5,zs5];refine Zz hsel (i:=20) (v:=.int .i64 0) (Ze rfl) (by kernel_rfl) (by kernel_rfl) rfl (fun X hX=>?_) ?_
   ·go_simp
   simp only [Act.put,zq5,zr5,zs5];refine Zz hsel (i:=21) (v:=.pointer (some ⟨bP,0,none⟩)) (Ze rfl) (by kernel_rfl) (by kernel_rfl) rfl (fun X hX=>?_) ?_
   ·go_simp
   simp only [Act.put,zq5,zr5,zs5];obtain⟨g1,d1,hv1⟩:=P1.out.len;subst hv1;clear m0 l1 l2 p1 p2 p3 p4;have hpb:=(zCw PB B_X3);have l0:=hpb.cell (i:=0) rfl;have z0:=Zh hpb 0;have HB2:=hpb.set 0 (.slice g1 cl.length (cl.length+d1));refine sa1 (r:=22) hS8 ?_;refine Z23 (Ze rfl) rfl (w':=w8.setCell ⟨bP,0,none⟩ (.slice g1 cl.length (cl.length+d1))) (by go_simp) ?_
   refine Z6d (by kernel_rfl) ⟨hS8.1.setCell (p:=⟨bP,0,none⟩) (Nat.le_refl _) _,by exact HB2.cell (i:=1) rfl,by exact HB2.cell (i:=2) rfl⟩ ?_
   clear l0 z0 hS8 hsel;have hwo:wo.heap.size≤bP:=by omega
   have hg9:w8.grownBy (w8.setCell ⟨bP,0,none⟩ (.slice g1 cl.length (cl.length+d1))) (some bP):=⟨rfl,rfl,rfl,by simp [World.setCell],fun k _ hk=>Below.heap_setCell _ _ _ k (fun e=>hk (by rw [e]))⟩
   have P2:=P1.out.offG hg9 (fun r e=>by cases e;by_cases hl:cl=[];exact .inl hl;exact .inr fun e2=>by have:=(Z7h N1.out P1.out e2).resolve_left hl;omega)
   have F2:=Lib.hid (MK.out.fresh hbC2 N1.out hzx5 P1.out);replace BW:=Lib.hid (BW.out.setCell (p:=⟨bP,0,none⟩) (show w.heap.size≤bP by omega) (.slice g1 cl.length (cl.length+d1)))
   replace BR:=Lib.hid (BR.out.setCell (p:=⟨bP,0,none⟩) hwo (.slice g1 cl.length (cl.length+d1)));generalize w8.setCell ⟨bP,0,none⟩ (.slice g1 cl.length (cl.length+d1))=Y at *;simp only [zq5,zr5,zs5] at HB2;have PB2:=Lib.hid HB2;have PP:=Lib.hid P2;clear hpb HB2 hg9 P2 hbX hbX0;obtain⟨c0,c1,c2,c3,c4,c5,c6,c7,c8,c9,c10⟩:=Zi (m:=m) (zCw hMO BR);go_wp2_with fail;refine (g5.out _ BW.out).mono ?_;rintro e w6 ⟨rfl,b6⟩;replace BW:=zAg BW b6;replace BR:=zAg BR b6;have B_Y:=Lib.hid b6;clear b6 c0 c1 c2 c3 c4 c5 c6 c7 c8 c9 c10;obtain⟨c0,c1,c2,c3,c4,c5,c6,c7,c8,c9,c10⟩:=Zi (m:=m) (zCw hMO BR);clear c0 c1 c2 c3 c4 c5 c6 c7 c8 c9 c10;have M0:=(MK.out.up BR.out (by omega)).one (u:=.slice g1 cl.length (cl.length+d1)) (by rw [HP.out];exact ((PP.out.below B_Y.out).mono B_Y.out.size)) (by rw [HP.out];exact F2.out)
   rw [HP.out] at M0;simp only at M0;have hC:=MK.out.free (zCw HCB BR) (.inl (Nat.le_refl _));have hPB:=MK.out.free (zCw PB2 B_Y) (.inr hwo);have hb0:bC<w6.heap.size:=by have:=BR.out.size;omega
   go_upto_region 17 with fail
   refine (wpIn_wide (n:=9)).1 ?_;refine Zj (Zt _) 11 (fun X=>Has X bC #[.slice aS l.length (l.length+cS),.slice av1 k cv1,.slice av2 k cv2] 30∧Has X bP #[.slice g1 cl.length (cl.length+d1),.int .i64 qa,.int .i64 qb,.int .i64 qt,.int .i64 qe] 48) (by kernel_rfl) (by kernel_rfl) (by kernel_rfl) fun hH inv0=>?_
   have hD:=Below.drew (Below.refl w6.heap.size w6);have hT:=M0.up hD (by omega)
   replace hC:=hC.up hD;replace hPB:=hPB.up hD;have hbX:=Nat.lt_of_lt_of_le hb0 hD.size;generalize hXXD:w6.drew=X0 at *;clear hXXD M0;refine sk hH (i:=0) (v:=.pointer (some ⟨bC,1,none⟩)) (Ze rfl) inv0 (fun X hX=>?_) fun inv1=>?_
   ·go_simp
   simp only [Act.put,zq5,zr5,zs5];clear inv0;refine sk hH (i:=1) (v:=.slice av1 k cv1) (Ze rfl) inv1 (fun X hX=>?_) fun inv2=>?_
   ·have r0:=hX.1.cell (i:=1) rfl;go_simp
   simp only [Act.put,zq5,zr5,zs5];clear inv1;refine sk hH (i:=2) (v:=.agg #[.slice g1 cl.length (cl.length+d1),.int .i64 qa,.int .i64 qb,.int .i64 qt,.int .i64 qe]) (Ze rfl) inv2 (fun X hX=>?_) fun inv3=>?_
   ·have r0:=hX.2.cell (i:=0) rfl;have r1:=hX.2.cell (i:=1) rfl;have r2:=hX.2.cell (i:=2) rfl;have r3:=hX.2.cell (i:=3) rfl;have r4:=hX.2.cell (i:=4) rfl;go_simp
   simp only [Act.put,zq5,zr5,zs5];clear inv2;refine sk hH (i:=5) (v:=.pointer (some ⟨bC,2,none⟩)) (Ze rfl) inv3 (fun X hX=>?_) fun inv4=>?_
   ·go_simp
   simp only [Act.put,zq5,zr5,zs5];clear inv3;refine sk hH (i:=6) (v:=.slice av2 k cv2) (Ze rfl) inv4 (fun X hX=>?_) fun inv5=>?_
   ·have r0:=hX.1.cell (i:=2) rfl;go_simp
   simp only [Act.put,zq5,zr5,zs5];clear inv4;refine sk hH (i:=7) (v:=.int .i64 hE') (Ze rfl) inv5 (fun X hX=>?_) fun inv6=>?_
   ·go_simp
   simp only [Act.put,zq5,zr5,zs5];clear inv5;have hS':=And.intro hC.1 hPB.1;refine ZD (rs:=[3,8]) (by kernel_rfl) (by simp) hS' (by simp) (fun i hi'=>?_)
   simp only [List.mem_cons,List.not_mem_nil,or_false] at hi';rcases hi' with rfl | rfl
   ·skip
    have inv7:=HeadInv.put2 inv6 (j:=3) (by kernel_rfl) (by omega)
    refine ZC (Ze rfl) rfl (v:=.slice (some ⟨X0.heap.size,0,none⟩) 1 1) (w':=X0.alloc (.cells #[.slice g1 cl.length (cl.length+d1),.int .i64 qa,.int .i64 qb,.int .i64 qt,.int .i64 qe] 48)) (by go_simp) ?_
    simp only [Act.put,zq5,zr5,zs5];have hA:=(Below.refl X0.heap.size X0).alloc (Nat.le_refl _) (.cells #[.slice g1 cl.length (cl.length+d1),.int .i64 qa,.int .i64 qb,.int .i64 qt,.int .i64 qe] 48);have b3:=hT.free (Has.new X0 #[.slice g1 cl.length (cl.length+d1),.int .i64 qa,.int .i64 qb,.int .i64 qt,.int .i64 qe] 48) (.inr (Nat.le_refl _));replace hC:=hC.up hA;replace hPB:=hPB.up hA;replace hT:=hT.up hA (by omega)
    replace hbX:=Nat.lt_of_lt_of_le hbX hA.size;generalize X0.alloc (.cells #[.slice g1 cl.length (cl.length+d1),.int .i64 qa,.int .i64 qb,.int .i64 qt,.int .i64 qe] 48)=X1 at *;obtain⟨s3,hs'⟩:∃ x,X0.heap.size=x:=⟨_,rfl⟩;rw [hs'] at b3 ⊢;clear hA hs' inv6 hS';have hS':=And.intro hC.1 hPB.1;refine ZD (rs:=[4,8]) (by kernel_rfl) (by simp) hS' (by simp) (fun i hi'=>?_)
    simp only [List.mem_cons,List.not_mem_nil,or_false] at hi';rcases hi' with rfl | rfl
    ·skip
     have inv8:=HeadInv.put2 inv7 (j:=4) (by kernel_rfl) (by omega)
     refine ZA (Ze rfl) rfl (.tmp 109) (.tmp 111) 28 rfl (bC+1) 48 i5 (.agg #[.slice none 0 0,.int .i64 0,.int .i64 0,.int .i64 0,.int .i64 0]) 5 56 Tryz.underlying28 HI5.out hy0' hy1' hy2' rfl (by decide) _ _ _ rfl hT.r1 ⟨s3,0,none⟩ 1 1 [.slice g1 cl.length (cl.length+d1),.int .i64 qa,.int .i64 qb,.int .i64 qt,.int .i64 qe] rfl rfl (Z0Z b3.1) (by simp [Value.oneCell']) (by unfold maxLen;omega) (by omega) hbX ?_
     intro u1 X2 hr1 hg1 ho1;simp only [Act.put,zq5,zr5,zs5];replace hC:=hC.app1 hg1 ho1;replace hPB:=hPB.app1 hg1 ho1;have hz':X1.heap.size≤X2.heap.size:=hg1.size;replace hT:=hT.app1 (by omega) hg1 hr1 ho1
     replace hbX:=Nat.lt_of_lt_of_le hbX hz';obtain⟨g4',cp4,rfl⟩:=Z15 hr1;clear hg1 hr1 ho1 b3 hz' inv7 hS';refine sk hH (i:=10) (v:=.pointer (some ⟨bC,1,none⟩)) (Ze rfl) inv8 (fun X hX=>?_) fun inv9=>?_
     ·go_simp
     simp only [Act.put,zq5,zr5,zs5];clear inv8;have hS':=And.intro hC.1 hPB.1;refine sa1 (r:=8) hS' ?_;have inv10:=HeadInv.put2 inv9 (j:=8) (by kernel_rfl) (by omega)
     refine ZC (Ze rfl) rfl (v:=.slice (some ⟨X2.heap.size,0,none⟩) 1 1) (w':=X2.alloc (.cells #[.int .i64 hE'] 3)) (by go_simp) ?_
     simp only [Act.put,zq5,zr5,zs5];have hA:=(Below.refl X2.heap.size X2).alloc (Nat.le_refl _) (.cells #[.int .i64 hE'] 3);have b8:=hT.free (Has.new X2 #[.int .i64 hE'] 3) (.inr (Nat.le_refl _));replace hC:=hC.up hA;replace hPB:=hPB.up hA;replace hT:=hT.up hA (by omega)
     replace hbX:=Nat.lt_of_lt_of_le hbX hA.size;generalize X2.alloc (.cells #[.int .i64 hE'] 3)=X3 at *;obtain⟨s8,hs'⟩:∃ x,X2.heap.size=x:=⟨_,rfl⟩;rw [hs'] at b8 ⊢;clear hA hs' inv9 hS';have hS':=And.intro hC.1 hPB.1;refine sa1 (r:=9) hS' ?_;have inv11:=HeadInv.put2 inv10 (j:=9) (by kernel_rfl) (by omega)
     refine ZA (Ze rfl) rfl (.tmp 114) (.tmp 116) 27 rfl (bC+1) 3 i0 (.int .i64 0) 1 8 Tryz.underlying27 HI.out hz0' hz1' hz2' rfl (by decide) _ _ _ rfl hT.r2 ⟨s8,0,none⟩ 1 1 [.int .i64 hE'] rfl rfl (Z0Z b8.1) (by simp [Value.oneCell']) (by unfold maxLen;omega) (by omega) hbX ?_
     intro u2 X4 hr2 hg2 ho2;simp only [Act.put,zq5,zr5,zs5];replace hC:=hC.app2 hg2 ho2;replace hPB:=hPB.app2 hg2 ho2;have hz':X3.heap.size≤X4.heap.size:=hg2.size;replace hT:=hT.app2 (by omega) hg2 hr2 ho2
     replace hbX:=Nat.lt_of_lt_of_le hbX hz';obtain⟨g9',cp9,rfl⟩:=Z15 hr2;clear hg2 hr2 ho2 b8 hz' inv10 hS' inv11 hH;refine Zv (by kernel_rfl) ⟨hC.1,hPB.1⟩ ?_
     simp only [List.drop_succ_cons,List.drop_zero];have e1:=hC.1.cell (i:=1) rfl;have e2:=hC.1.cell (i:=2) rfl;have z1:=Zh hC.1 1;have z2:=Zh hC.1 2;have HT9:=Lib.hid ((hT.set 1 (.slice g4' (k+1) cp4)).set 2 (.slice g9' (k+1) cp9));have HC9:=Lib.hid ((hC.1.set 1 (.slice g4' (k+1) cp4)).set 2 (.slice g9' (k+1) cp9));have hC1:=Lib.hid hC;clear hT hPB hC;gi_wp2;go_wp2;go_roundw
     case rel =>
      refine⟨k+1,.slice g4' (k+1) cp4,.slice g9' (k+1) cp9,x1++[.slice g1 cl.length (cl.length+d1),.int .i64 qa,.int .i64 qb,.int .i64 qt,.int .i64 qe],by omega,by go_num,fun j hj=>?_,?_,?_⟩
      ·by_cases e:j=k
       ·rw [e];exact HQ.out
       ·exact HA.out j (by omega)
      ·have:=HC9.out
       simpa only [zq5,zr5,zs5] using this
      ·have:=HT9.out
       rw [show (upto (mkR m) (k+1)).map (Value.int .i64)=((upto (mkR m) k).map (Value.int .i64))++[.int .i64 hE'] by rw [Zq,← HR.out];simp]
       exact this
     case measure=>simp [intOf];omega
    ·skip
     have inv8:=HeadInv.put2 inv7 (j:=8) (by kernel_rfl) (by omega)
     refine ZC (Ze rfl) rfl (v:=.slice (some ⟨X1.heap.size,0,none⟩) 1 1) (w':=X1.alloc (.cells #[.int .i64 hE'] 3)) (by go_simp) ?_
     simp only [Act.put,zq5,zr5,zs5];have hA:=(Below.refl X1.heap.size X1).alloc (Nat.le_refl _) (.cells #[.int .i64 hE'] 3);have b8:=hT.free (Has.new X1 #[.int .i64 hE'] 3) (.inr (Nat.le_refl _));replace hC:=hC.up hA;replace hPB:=hPB.up hA;replace hT:=hT.up hA (by omega)
     replace hbX:=Nat.lt_of_lt_of_le hbX hA.size;replace b3:=b3.up hA;generalize X1.alloc (.cells #[.int .i64 hE'] 3)=X2 at *;obtain⟨s8,hs'⟩:∃ x,X1.heap.size=x:=⟨_,rfl⟩;rw [hs'] at b8 ⊢;clear hA hs' inv7 hS';have hS':=And.intro hC.1 hPB.1;refine sa1 (r:=4) hS' ?_;have inv9:=HeadInv.put2 inv8 (j:=4) (by kernel_rfl) (by omega)
     refine ZA (Ze rfl) rfl (.tmp 109) (.tmp 111) 28 rfl (bC+1) 48 i5 (.agg #[.slice none 0 0,.int .i64 0,.int .i64 0,.int .i64 0,.int .i64 0]) 5 56 Tryz.underlying28 HI5.out hy0' hy1' hy2' rfl (by decide) _ _ _ rfl hT.r1 ⟨s3,0,none⟩ 1 1 [.slice g1 cl.length (cl.length+d1),.int .i64 qa,.int .i64 qb,.int .i64 qt,.int .i64 qe] rfl rfl (Z0Z b3.1) (by simp [Value.oneCell']) (by unfold maxLen;omega) (by omega) hbX ?_
     intro u1 X3 hr1 hg1 ho1;simp only [Act.put,zq5,zr5,zs5];replace b8:=b8.app1 hg1 ho1;replace hC:=hC.app1 hg1 ho1;replace hPB:=hPB.app1 hg1 ho1;have hz':X2.heap.size≤X3.heap.size:=hg1.size;replace hT:=hT.app1 (by omega) hg1 hr1 ho1
     replace hbX:=Nat.lt_of_lt_of_le hbX hz';obtain⟨g4',cp4,rfl⟩:=Z15 hr1;clear hg1 hr1 ho1 b3 hz' inv8 hS';refine sk hH (i:=10) (v:=.pointer (some ⟨bC,1,none⟩)) (Ze rfl) inv9 (fun X hX=>?_) fun inv10=>?_
     ·go_simp
     simp only [Act.put,zq5,zr5,zs5];clear inv9;have hS':=And.intro hC.1 hPB.1;refine sa1 (r:=9) hS' ?_;have inv11:=HeadInv.put2 inv10 (j:=9) (by kernel_rfl) (by omega)
     refine ZA (Ze rfl) rfl (.tmp 114) (.tmp 116) 27 rfl (bC+1) 3 i0 (.int .i64 0) 1 8 Tryz.underlying27 HI.out hz0' hz1' hz2' rfl (by decide) _ _ _ rfl hT.r2 ⟨s8,0,none⟩ 1 1 [.int .i64 hE'] rfl rfl (Z0Z b8.1) (by simp [Value.oneCell']) (by unfold maxLen;omega) (by omega) hbX ?_
     intro u2 X4 hr2 hg2 ho2;simp only [Act.put,zq5,zr5,zs5];replace hC:=hC.app2 hg2 ho2;replace hPB:=hPB.app2 hg2 ho2;have hz':X3.heap.size≤X4.heap.size:=hg2.size;replace hT:=hT.app2 (by omega) hg2 hr2 ho2
     replace hbX:=Nat.lt_of_lt_of_le hbX hz';obtain⟨g9',cp9,rfl⟩:=Z15 hr2;clear hg2 hr2 ho2 b8 hz' inv10 hS' inv11 hH;refine Zv (by kernel_rfl) ⟨hC.1,hPB.1⟩ ?_
     simp only [List.drop_succ_cons,List.drop_zero];have e1:=hC.1.cell (i:=1) rfl;have e2:=hC.1.cell (i:=2) rfl;have z1:=Zh hC.1 1;have z2:=Zh hC.1 2;have HT9:=Lib.hid ((hT.set 1 (.slice g4' (k+1) cp4)).set 2 (.slice g9' (k+1) cp9));have HC9:=Lib.hid ((hC.1.set 1 (.slice g4' (k+1) cp4)).set 2 (.slice g9' (k+1) cp9));have hC1:=Lib.hid hC;clear hT hPB hC;gi_wp2;go_wp2;go_roundw
     case rel =>
      refine⟨k+1,.slice g4' (k+1) cp4,.slice g9' (k+1) cp9,x1++[.slice g1 cl.length (cl.length+d1),.int .i64 qa,.int .i64 qb,.int .i64 qt,.int .i64 qe],by omega,by go_num,fun j hj=>?_,?_,?_⟩
      ·by_cases e:j=k
       ·rw [e];exact HQ.out
       ·exact HA.out j (by omega)
      ·have:=HC9.out
       simpa only [zq5,zr5,zs5] using this
      ·have:=HT9.out
       rw [show (upto (mkR m) (k+1)).map (Value.int .i64)=((upto (mkR m) k).map (Value.int .i64))++[.int .i64 hE'] by rw [Zq,← HR.out];simp]
       exact this
     case measure=>simp [intOf];omega
   ·skip
    have inv7:=HeadInv.put2 inv6 (j:=8) (by kernel_rfl) (by omega)
    refine ZC (Ze rfl) rfl (v:=.slice (some ⟨X0.heap.size,0,none⟩) 1 1) (w':=X0.alloc (.cells #[.int .i64 hE'] 3)) (by go_simp) ?_
    simp only [Act.put,zq5,zr5,zs5];have hA:=(Below.refl X0.heap.size X0).alloc (Nat.le_refl _) (.cells #[.int .i64 hE'] 3);have b8:=hT.free (Has.new X0 #[.int .i64 hE'] 3) (.inr (Nat.le_refl _));replace hC:=hC.up hA;replace hPB:=hPB.up hA;replace hT:=hT.up hA (by omega)
    replace hbX:=Nat.lt_of_lt_of_le hbX hA.size;generalize X0.alloc (.cells #[.int .i64 hE'] 3)=X1 at *;obtain⟨s8,hs'⟩:∃ x,X0.heap.size=x:=⟨_,rfl⟩;rw [hs'] at b8 ⊢;clear hA hs' inv6 hS';have hS':=And.intro hC.1 hPB.1;refine sa1 (r:=3) hS' ?_;have inv8:=HeadInv.put2 inv7 (j:=3) (by kernel_rfl) (by omega)
    refine ZC (Ze rfl) rfl (v:=.slice (some ⟨X1.heap.size,0,none⟩) 1 1) (w':=X1.alloc (.cells #[.slice g1 cl.length (cl.length+d1),.int .i64 qa,.int .i64 qb,.int .i64 qt,.int .i64 qe] 48)) (by go_simp) ?_
    simp only [Act.put,zq5,zr5,zs5];have hA:=(Below.refl X1.heap.size X1).alloc (Nat.le_refl _) (.cells #[.slice g1 cl.length (cl.length+d1),.int .i64 qa,.int .i64 qb,.int .i64 qt,.int .i64 qe] 48);have b3:=hT.free (Has.new X1 #[.slice g1 cl.length (cl.length+d1),.int .i64 qa,.int .i64 qb,.int .i64 qt,.int .i64 qe] 48) (.inr (Nat.le_refl _));replace hC:=hC.up hA;replace hPB:=hPB.up hA;replace hT:=hT.up hA (by omega)
    replace hbX:=Nat.lt_of_lt_of_le hbX hA.size;replace b8:=b8.up hA;generalize X1.alloc (.cells #[.slice g1 cl.length (cl.length+d1),.int .i64 qa,.int .i64 qb,.int .i64 qt,.int .i64 qe] 48)=X2 at *;obtain⟨s3,hs'⟩:∃ x,X1.heap.size=x:=⟨_,rfl⟩;rw [hs'] at b3 ⊢;clear hA hs' inv7 hS';have hS':=And.intro hC.1 hPB.1;refine sa1 (r:=4) hS' ?_;have inv9:=HeadInv.put2 inv8 (j:=4) (by kernel_rfl) (by omega)
    refine ZA (Ze rfl) rfl (.tmp 109) (.tmp 111) 28 rfl (bC+1) 48 i5 (.agg #[.slice none 0 0,.int .i64 0,.int .i64 0,.int .i64 0,.int .i64 0]) 5 56 Tryz.underlying28 HI5.out hy0' hy1' hy2' rfl (by decide) _ _ _ rfl hT.r1 ⟨s3,0,none⟩ 1 1 [.slice g1 cl.length (cl.length+d1),.int .i64 qa,.int .i64 qb,.int .i64 qt,.int .i64 qe] rfl rfl (Z0Z b3.1) (by simp [Value.oneCell']) (by unfold maxLen;omega) (by omega) hbX ?_
    intro u1 X3 hr1 hg1 ho1;simp only [Act.put,zq5,zr5,zs5];replace b8:=b8.app1 hg1 ho1;replace hC:=hC.app1 hg1 ho1;replace hPB:=hPB.app1 hg1 ho1;have hz':X2.heap.size≤X3.heap.size:=hg1.size;replace hT:=hT.app1 (by omega) hg1 hr1 ho1
    replace hbX:=Nat.lt_of_lt_of_le hbX hz';obtain⟨g4',cp4,rfl⟩:=Z15 hr1;clear hg1 hr1 ho1 b3 hz' inv8 hS';refine sk hH (i:=10) (v:=.pointer (some ⟨bC,1,none⟩)) (Ze rfl) inv9 (fun X hX=>?_) fun inv10=>?_
    ·go_simp
    simp only [Act.put,zq5,zr5,zs5];clear inv9;have hS':=And.intro hC.1 hPB.1;refine sa1 (r:=9) hS' ?_;have inv11:=HeadInv.put2 inv10 (j:=9) (by kernel_rfl) (by omega)
    refine ZA (Ze rfl) rfl (.tmp 114) (.tmp 116) 27 rfl (bC+1) 3 i0 (.int .i64 0) 1 8 Tryz.underlying27 HI.out hz0' hz1' hz2' rfl (by decide) _ _ _ rfl hT.r2 ⟨s8,0,none⟩ 1 1 [.int .i64 hE'] rfl rfl (Z0Z b8.1) (by simp [Value.oneCell']) (by unfold maxLen;omega) (by omega) hbX ?_
    intro u2 X4 hr2 hg2 ho2;simp only [Act.put,zq5,zr5,zs5];replace hC:=hC.app2 hg2 ho2;replace hPB:=hPB.app2 hg2 ho2;have hz':X3.heap.size≤X4.heap.size:=hg2.size;replace hT:=hT.app2 (by omega) hg2 hr2 ho2
    replace hbX:=Nat.lt_of_lt_of_le hbX hz';obtain⟨g9',cp9,rfl⟩:=Z15 hr2;clear hg2 hr2 ho2 b8 hz' inv10 hS' inv11 hH;refine Zv (by kernel_rfl) ⟨hC.1,hPB.1⟩ ?_
    simp only [List.drop_succ_cons,List.drop_zero];have e1:=hC.1.cell (i:=1) rfl;have e2:=hC.1.cell (i:=2) rfl;have z1:=Zh hC.1 1;have z2:=Zh hC.1 2;have HT9:=Lib.hid ((hT.set 1 (.slice g4' (k+1) cp4)).set 2 (.slice g9' (k+1) cp9));have HC9:=Lib.hid ((hC.1.set 1 (.slice g4' (k+1) cp4)).set 2 (.slice g9' (k+1) cp9));have hC1:=Lib.hid hC;clear hT hPB hC;gi_wp2;go_wp2;go_roundw
    case rel =>
     refine⟨k+1,.slice g4' (k+1) cp4,.slice g9' (k+1) cp9,x1++[.slice g1 cl.length (cl.length+d1),.int .i64 qa,.int .i64 qb,.int .i64 qt,.int .i64 qe],by omega,by go_num,fun j hj=>?_,?_,?_⟩
     ·by_cases e:j=k
      ·rw [e];exact HQ.out
      ·exact HA.out j (by omega)
     ·have:=HC9.out
      simpa only [zq5,zr5,zs5] using this
     ·have:=HT9.out
      rw [show (upto (mkR m) (k+1)).map (Value.int .i64)=((upto (mkR m) k).map (Value.int .i64))++[.int .i64 hE'] by rw [Zq,← HR.out];simp]
      exact this
    case measure=>simp [intOf];omega
  obtain rfl:k=n:=by omega
  have jj:decide ((k:Int)<(k:Int))=false:=by simp
  have HV:=Lib.hid (show me=0 from HZE.out HA.out)
  have HCV:=Lib.hid (show mc=⟨l,upto (mkP m l) k,upto (mkR m) k⟩ by rw [HC.out,if_pos HV.out])
  have hk8:k≤40:=by omega
  have q0:=HCB.out.cell (i:=0) rfl;have q1:=HCB.out.cell (i:=1) rfl;have q2:=HCB.out.cell (i:=2) rfl;have hrv:=hRO.out;have e0:=hrv.cell (i:=0) rfl;have e1:=hrv.cell (i:=1) rfl;have e2:=hrv.cell (i:=2) rfl;have z0:=Zh hrv 0;have z1:=Zh hrv 1;have z2:=Zh hrv 2;go_wp2;clear e0 e1 e2 z0 z1 z2 q0 q1 q2;generalize hZ9:World.setCell (World.setCell (World.setCell wo _ _) _ _) _ _=Z9;obtain⟨HZ9,hl9,hg9⟩:=set3 hrv hZ9;have r0:=HZ9.cell (i:=0) rfl;have r1:=HZ9.cell (i:=1) rfl;have r2:=HZ9.cell (i:=2) rfl;have B9:=BW.out.trans (hl9 w.heap.size (by omega))
  obtain⟨F1,F2⟩:=MK.out.fin (b:=w.heap.size+1) (by omega) hg9 (by omega)
  have F3:=Za.own F2 (by rw [Zu];omega)
  have F0:Za Z9.heap.size Z9 (.slice aS l.length (l.length+cS)) l:=((QS.out.below BB.out).mono (Nat.le_of_lt hbC2)).offG hg9 (fun r e=>by
   cases e;by_cases hl:l=[]
   ·exact .inl hl
   right
   intro e2;obtain⟨-,a',c',e3,hc'⟩:=QS.out;obtain⟨b',o',e4,-,-⟩:=hc'.resolve_left hl;simp only [Value.slice.injEq] at e3;have h4:=HN3.out b' o' _ _ (by rw [e3.1,e4])
   rw [e3.1,e4] at e2;simp only [Value.ownBlock,Option.some.injEq] at e2;have:=HLW.out;omega)
  clear hrv hZ9;exact bodyPost_ret (v:=.tuple #[.agg #[.slice aS l.length (l.length+cS),.slice av1 k cv1,.slice av2 k cv2],.int .i64 0]) (by simp [results,Tryz.f10,go_sem,r0,r1,r2]) rfl ⟨_,_,_,by rw [HV.out],by rw [HCV.out];exact⟨F0,F1,F3⟩,B9⟩
end
section
open Go.RowKit
theorem ZaZ (b o j:Nat):(⟨b,o,none⟩:Addr).add j=⟨b,o+j,none⟩:=by unfold Addr.add;split <;> simp_all
section
variable {n0:Nat} {A B W:World} {cur:Array Value} {l:List Psg}
end
end
end Go.Proofs.YtpimbaaahcemhaaGreat
