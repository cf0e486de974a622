/- package cert: before. | landfallref35: Fixes, Chosen, Better. | The best stops: plain laws. No program here. | Fewer rocks, more battery, a later d .. -/
import Derived.Test.YthipcinibldgnaaGreatBin26
import Derived.Lib.SliceRun
import Derived.ArgAppend
open Go.Value renaming int->O,pointer->qP,slice->qS
open Go.Ending renaming returned->qR
open Go.Obj renaming cells->qC
open Go.IntKind renaming wrap->qW,i64->qL
open Go.Lib renaming hid->qH
open Go.RowKit.Below renaming refl->qK
open Go.World renaming setCell->qU,alloc->qV,block_lt_of_cell?->qO
open Nat renaming le_refl->qN
open Go.Act renaming put->qJ
set_option linter.unusedSimpArgs false
set_option linter.unusedVariables false
set_option maxRecDepth 8000
set_option maxHeartbeats 6400000
namespace Go.Proofs.YthipcinibldgnaaGreat
section
attribute [local irreducible] wpQuiet
open Go.RowKit
theorem Z5S {m:Msn} {c:Crt} (h:frmB m c=true):radOkB m c.stops=true/\c.psg.length=m.ways.length-1/\c.ret.length=m.ways.length-1/\∀ j,j<c.psg.length->okP c j=true:=by
 unfold frmB at h;simp only [Bool.and_eq_true,decide_eq_true_eq] at h;exact⟨h.1.1.1,h.1.1.2,h.1.2,h.2⟩
theorem Z3k {c:Crt} {j:Nat} (h:okP c j=true):Zb (pgd c.psg j).cor=true/\(0<=(pgd c.psg j).fr/\(pgd c.psg j).fr<=100000)/\(0<=(pgd c.psg j).tw/\(pgd c.psg j).tw<=100000)/\(0<=(pgd c.psg j).tm/\(pgd c.psg j).tm<=1000000000)/\(0<=(pgd c.psg j).en/\(pgd c.psg j).en<=1000000000)/\(0<=c.ret.getD j 0/\c.ret.getD j 0<=1000000000):=by
 unfold okP wthB at h;simp only [Bool.and_eq_true,decide_eq_true_eq] at h;exact h
theorem Z8K (m:Msn) (vw vh vr:Value) (c:Crt) (vs vp ve:Value) (w:World) (hm:MsnAt w.heap.size w m vw vh vr) (hc:CrtAt w.heap.size w c vs vp ve) (hF:frmB m c=true) (i:Nat) (hi:i<c.psg.length) :
  Calls Tryz.prog 46 #[.agg (Zc m vw vh vr),.agg #[vs,vp,ve],O qL i] w fun e w'=>e=qR (.tuple #[O qL (befR m c i),O qL (befT m c i),O qL (befE m c i)])/\Below w.heap.size w w':=by
 obtain⟨hok,hl1,hl2,hal⟩:=Z5S hF;have V:=(Zj m).1 (Z05 hok).1;have n41:=V.n41;have hid0:=V.idle;have hww:=fun k hk=>ZO (Z06 V.ways (j:=k) hk)
 have f1:=fun w1 (B:Below w.heap.size w w1)=>Z4E vs c.stops (i:Int) w1 ((hc.1.below B).mono B.size)
 have HR:befR m c i=if i=0 then m.start else if (i:Int) ∈ c.stops then min (pgd c.psg (i-1)).tw (wy m.ways i).fix else (pgd c.psg (i-1)).tw:=rfl
 have HT:befT m c i=if i=0 then 0 else if (i:Int) ∈ c.stops then (pgd c.psg (i-1)).tm+(wy m.ways i).wait else (pgd c.psg (i-1)).tm:=rfl
 have HE:befE m c i=if i=0 then 0 else if (i:Int) ∈ c.stops then (pgd c.psg (i-1)).en+m.idle*(wy m.ways i).wait else (pgd c.psg (i-1)).en:=rfl
 generalize befR m c i=xR at *;generalize befT m c i=xT at *;generalize befE m c i=xE at *;obtain⟨⟨-,a1,cap1,rfl,hcw⟩,⟨-,a2,cap2,rfl,-⟩,⟨-,a3,cap3,rfl,-⟩⟩:=hm;obtain⟨⟨-,aS,cS,rfl,-⟩,⟨-,ap,cp,rfl,hcp⟩,⟨-,ar,cr,rfl,-⟩⟩:=hc;unfold Zc at *;have HCW:=qH hcw;have HCP:=qH hcp;replace f1:=qH f1;replace HR:=qH HR;replace HT:=qH HT;replace HE:=qH HE;replace hww:=qH hww;replace hal:=qH hal;have BW:=qH (qK w.heap.size w);clear hcw hcp V hF hok hl2;by_cases hi0:i=0
 ·subst hi0
  clear hww hal;have d0:(((0:Nat):Int) == 0)=true:=by simp
  go_enter Tryz.func46,Tryz.ntmps46;have hwr:∀ o,(w.alloc (qC #[qS a1 m.ways.length (m.ways.length+cap1),qS a2 m.home.length (m.home.length+cap2),O qL m.start,qS a3 m.rocks.length (m.rocks.length+cap3),O qL m.speed,O qL m.part,O qL m.flow,O qL m.idle,O qL m.drive,O qL m.battery,O qL m.deadline] 26) |>.alloc o).cell? ⟨w.heap.size,2,none⟩=some (O qL m.start):=fun o=>by
   have h1:=(Has.new w #[qS a1 m.ways.length (m.ways.length+cap1),qS a2 m.home.length (m.home.length+cap2),O qL m.start,qS a3 m.rocks.length (m.rocks.length+cap3),O qL m.speed,O qL m.part,O qL m.flow,O qL m.idle,O qL m.drive,O qL m.battery,O qL m.deadline] 26).below ((qK (w.heap.size+1) _).alloc (by simp) o) (by omega)
   exact h1.cell (i:=2) rfl
  go_wp2;go_ret3;exact⟨by rw [HR.out,HT.out,HE.out];rfl,zB2⟩
 obtain⟨k,rfl⟩:∃ k,i=k+1:=⟨i-1,by omega⟩
 have hk1:k+1<m.ways.length:=by omega
 have hz:(((k+1:Nat):Int) == 0)=false:=by rw [beq_eq_false_iff_ne];omega
 have jw:qW qL (((k+1:Nat):Int)-1)=(k:Int):=by rw [show ((k+1:Nat):Int)-1=(k:Int) by omega];exact zW2
 replace HR:=HR.out;replace HT:=HT.out;replace HE:=HE.out;rw [if_neg (by omega),Nat.add_sub_cancel] at HR HT HE
 obtain⟨b,o,rfl,hb,hcp⟩:=HCP.out.resolve_left (by intro h;rw [h] at hi;simp at hi)
 obtain⟨u,x0,hu,x1,x2,x3,x4⟩:=hcp k (by omega)
 obtain⟨bw,ow,rfl,hbw,hcw⟩:=HCW.out.resolve_left (by intro h;rw [h] at hk1;simp at hk1)
 obtain⟨y0,y1,y2,y3,y4⟩:=hcw (k+1) hk1;obtain⟨-,hr1,hr2,hr3,hr4,-⟩:=Z3k (hal.out k (by omega))
 obtain⟨-,-,-,-,g1,g2,g3,g4,-⟩:=hww.out (k+1) hk1;obtain⟨au,cu,rfl⟩:=hu.len;generalize pgd c.psg k=p at *;obtain⟨⟨qx,qy,fx,wt,bk⟩,hq⟩:∃ q,wy m.ways (k+1)=q:=⟨_,rfl⟩;rw [hq] at HR HT HE y0 y1 y2 y3 y4 g1 g2 g3 g4;simp only at HR HT HE y0 y1 y2 y3 y4 g1 g2 g3 g4;have hmul:=Int.mul_nonneg hid0.1 g3;have hmul2:m.idle*wt<=1000*100000:=Int.mul_le_mul hid0.2 g4 g3 (by omega)
 have w1:qW qL (p.tm+wt)=p.tm+wt:=zW2;have w2':qW qL (m.idle*wt)=m.idle*wt:=zW2;have w3:qW qL (p.en+m.idle*wt)=p.en+m.idle*wt:=zW2;replace HR:=qH HR;replace HT:=qH HT;replace HE:=qH HE;have kl:((k+1:Nat):Int)<m.ways.length:=by omega
 have kl0:(0:Int)<=((k+1:Nat):Int):=by omega
 have kp:(k:Int)<c.psg.length:=by omega
 have kp0:(0:Int)<=(k:Int):=by omega
 have kl':(k:Int)+1<m.ways.length:=by omega
 have kl0':(0:Int)<=(k:Int)+1:=by omega
 have jk:qW qL (k:Int)=k:=zW2;clear hcw hcp hww hal hq hmul hmul2 hu hi0 HCW HCP hl1;go_enter Tryz.func46,Tryz.ntmps46;go_upto_region 3 with fail
 generalize hXX0:qV (qV w _) _=X0;obtain⟨q0,q1,hA,hzX0⟩:=box2 hXX0;clear hXX0;have BW:=qH hA;clear hA;have MB:=qH q0;clear q0;have CB:=qH q1;clear q1 hzX0;have m0:=MB.out.cell (i:=0) rfl;have e1:=CB.out.cell (i:=1) rfl;replace x0:=(BW.out.cell (p:=⟨b,o+k*5,none⟩) hb).trans x0;replace x1:=(BW.out.cell (p:=⟨b,o+k*5+1,none⟩) hb).trans x1;replace x2:=(BW.out.cell (p:=⟨b,o+k*5+2,none⟩) hb).trans x2;replace x3:=(BW.out.cell (p:=⟨b,o+k*5+3,none⟩) hb).trans x3;replace x4:=(BW.out.cell (p:=⟨b,o+k*5+4,none⟩) hb).trans x4;replace y0:=(BW.out.cell (p:=⟨bw,ow+(k+1)*5,none⟩) hbw).trans y0;replace y1:=(BW.out.cell (p:=⟨bw,ow+(k+1)*5+1,none⟩) hbw).trans y1;replace y2:=(BW.out.cell (p:=⟨bw,ow+(k+1)*5+2,none⟩) hbw).trans y2;replace y3:=(BW.out.cell (p:=⟨bw,ow+(k+1)*5+3,none⟩) hbw).trans y3;replace y4:=(BW.out.cell (p:=⟨bw,ow+(k+1)*5+4,none⟩) hbw).trans y4;go_upto_region 3 with fail
 go_cut [9,10] from 15 (fun b1 b2 wx=>∃ x y,b1=qP (some ⟨x,0,none⟩)/\b2=qP (some ⟨y,0,none⟩)/\x≠y/\X0.heap.size<=x/\X0.heap.size<=y/\Has wx x #[qS au p.cor.length (p.cor.length+cu),O qL p.fr,O qL p.tw,O qL p.tm,O qL p.en] 58/\Has wx y #[O qL qx,O qL qy,O qL fx,O qL wt,O qL bk] 65/\Below X0.heap.size X0 wx)
 case first =>
  refine (wpIn_wide (n:=9)).1 ?_;refine Zi (Zk _) 14 (fun X=>Below X0.heap.size X0 X) (by kernel_rfl) (by kernel_rfl) (by kernel_rfl) fun hH inv0=>?_
  refine sk hH (i:=0) (v:=qP (some ⟨w.heap.size+1,1,none⟩)) (Zd rfl) inv0 (fun X hX=>?_) fun inv1=>?_
  ·go_simp
  simp only [qJ,zq4,zr4,zs4];clear inv0;refine sk hH (i:=1) (v:=qS (some ⟨b,o,none⟩) c.psg.length (c.psg.length+cp)) (Zd rfl) inv1 (fun X hX=>?_) fun inv2=>?_
  ·have re1:=(hX.cell (p:=⟨w.heap.size+1,1,none⟩) (qO _ _ e1)).trans e1;go_simp
  simp only [qJ,zq4,zr4,zs4];clear inv1;refine sk hH (i:=2) (v:=O qL ((k+1:Nat):Int)) (Zd rfl) inv2 (fun X hX=>?_) fun inv3=>?_
  ·go_simp
  simp only [qJ,zq4,zr4,zs4];clear inv2;refine sk hH (i:=3) (v:=O qL (k:Int)) (Zd rfl) inv3 (fun X hX=>?_) fun inv4=>?_
  ·go_simp
  simp only [qJ,zq4,zr4,zs4];clear inv3;refine sk hH (i:=4) (v:=qP (some ⟨b,o+k*5,none⟩)) (Zd rfl) inv4 (fun X hX=>?_) fun inv5=>?_
  ·go_simp
  simp only [qJ,zq4,zr4,zs4];clear inv4;refine sk hH (i:=5) (v:=.agg #[qS au p.cor.length (p.cor.length+cu),O qL p.fr,O qL p.tw,O qL p.tm,O qL p.en]) (Zd rfl) inv5 (fun X hX=>?_) fun inv6=>?_
  ·have rx0:=(hX.cell (p:=⟨b,o+k*5,none⟩) (qO _ _ x0)).trans x0;have rx1:=(hX.cell (p:=⟨b,o+k*5+1,none⟩) (qO _ _ x1)).trans x1;have rx2:=(hX.cell (p:=⟨b,o+k*5+2,none⟩) (qO _ _ x2)).trans x2;have rx3:=(hX.cell (p:=⟨b,o+k*5+3,none⟩) (qO _ _ x3)).trans x3;have rx4:=(hX.cell (p:=⟨b,o+k*5+4,none⟩) (qO _ _ x4)).trans x4;go_simp
  simp only [qJ,zq4,zr4,zs4];clear inv5;refine sk hH (i:=6) (v:=qP (some ⟨w.heap.size,0,none⟩)) (Zd rfl) inv6 (fun X hX=>?_) fun inv7=>?_
  ·go_simp
  simp only [qJ,zq4,zr4,zs4];clear inv6;refine sk hH (i:=7) (v:=qS (some ⟨bw,ow,none⟩) m.ways.length (m.ways.length+cap1)) (Zd rfl) inv7 (fun X hX=>?_) fun inv8=>?_
  ·have rm0:=(hX.cell (p:=⟨w.heap.size,0,none⟩) (qO _ _ m0)).trans m0;go_simp
  simp only [qJ,zq4,zr4,zs4];clear inv7;refine sk hH (i:=8) (v:=O qL ((k+1:Nat):Int)) (Zd rfl) inv8 (fun X hX=>?_) fun inv9=>?_
  ·go_simp
  simp only [qJ,zq4,zr4,zs4];clear inv8;refine sk hH (i:=9) (v:=qP (some ⟨bw,ow+(k+1)*5,none⟩)) (Zd rfl) inv9 (fun X hX=>?_) fun inv10=>?_
  ·go_simp
  simp only [qJ,zq4,zr4,zs4];clear inv9;refine sk hH (i:=10) (v:=.agg #[O qL qx,O qL qy,O qL fx,O qL wt,O qL bk]) (Zd rfl) inv10 (fun X hX=>?_) fun inv11=>?_
  ·have ry0:=(hX.cell (p:=⟨bw,ow+(k+1)*5,none⟩) (qO _ _ y0)).trans y0;have ry1:=(hX.cell (p:=⟨bw,ow+(k+1)*5+1,none⟩) (qO _ _ y1)).trans y1;have ry2:=(hX.cell (p:=⟨bw,ow+(k+1)*5+2,none⟩) (qO _ _ y2)).trans y2;have ry3:=(hX.cell (p:=⟨bw,ow+(k+1)*5+3,none⟩) (qO _ _ y3)).trans y3;have ry4:=(hX.cell (p:=⟨bw,ow+(k+1)*5+4,none⟩) (qO _ _ y4)).trans y4;go_simp
  simp only [qJ,zq4,zr4,zs4];clear inv10 inv11 hH;have hS0:Below X0.heap.size X0 X0.drew:=Below.drew (qK _ _);have hz0:=hS0.size;generalize X0.drew=X0 at *;refine ZB (rs:=[11,12]) (by kernel_rfl) (by simp) hS0 (by simp) (fun i hi'=>?_)
  simp only [List.mem_cons,List.not_mem_nil,or_false] at hi';rcases hi' with rfl | rfl
  ·skip
   refine ZE (Zd rfl) rfl (v:=qP (some ⟨X0.heap.size,0,none⟩)) (w':=X0.alloc (qC #[qS none 0 0,O qL 0,O qL 0,O qL 0,O qL 0] 58)) (by go_simp) ?_
   simp only [qJ,zq4,zr4,zs4];have hNX0:=Has.new X0 #[qS none 0 0,O qL 0,O qL 0,O qL 0,O qL 0] 58;have hS1:=hS0.alloc (by omega) (qC #[qS none 0 0,O qL 0,O qL 0,O qL 0,O qL 0] 58)
   have hz1:X0.heap.size<(X0.alloc (qC #[qS none 0 0,O qL 0,O qL 0,O qL 0,O qL 0] 58)).heap.size:=by simp
   generalize X0.alloc (qC #[qS none 0 0,O qL 0,O qL 0,O qL 0,O qL 0] 58)=X1 at *;refine sa1 (r:=12) hS1 ?_;refine ZE (Zd rfl) rfl (v:=qP (some ⟨X1.heap.size,0,none⟩)) (w':=X1.alloc (qC #[O qL 0,O qL 0,O qL 0,O qL 0,O qL 0] 65)) (by go_simp) ?_
   simp only [qJ,zq4,zr4,zs4];have hNX1:=Has.new X1 #[O qL 0,O qL 0,O qL 0,O qL 0,O qL 0] 65;replace hNX0:=hNX0.below ((qK X1.heap.size X1).alloc (qN _) (qC #[O qL 0,O qL 0,O qL 0,O qL 0,O qL 0] 65)) hNX0.lt;have hS2:=hS1.alloc (by omega) (qC #[O qL 0,O qL 0,O qL 0,O qL 0,O qL 0] 65)
   have hz2:X1.heap.size<(X1.alloc (qC #[O qL 0,O qL 0,O qL 0,O qL 0,O qL 0] 65)).heap.size:=by simp
   generalize X1.alloc (qC #[O qL 0,O qL 0,O qL 0,O qL 0,O qL 0] 65)=X2 at *;refine sa1 (r:=13) hS2 ?_;refine Z4O (Zd rfl) rfl rfl (g:=X0.heap.size) (cells:=#[qS au p.cor.length (p.cor.length+cu),O qL p.fr,O qL p.tw,O qL p.tm,O qL p.en]) rfl rfl hNX0 (by kernel_rfl) rfl (by simp [Value.oneCell']) ?_
   simp only [qJ,zq4,zr4,zs4];have hP:=Has.put (cells:=#[qS au p.cor.length (p.cor.length+cu),O qL p.fr,O qL p.tw,O qL p.tm,O qL p.en]) hNX0;have hO:=Has.keep (cells:=#[qS au p.cor.length (p.cor.length+cu),O qL p.fr,O qL p.tw,O qL p.tm,O qL p.en]) (C:=X0.heap.size) hNX1 (by omega)
   have hS3:=Below.setRow hS2 (C:=X0.heap.size) (by omega) #[qS au p.cor.length (p.cor.length+cu),O qL p.fr,O qL p.tw,O qL p.tm,O qL p.en]
   generalize X2.setRow X0.heap.size #[qS au p.cor.length (p.cor.length+cu),O qL p.fr,O qL p.tw,O qL p.tm,O qL p.en]=X3 at *;refine Zm (by kernel_rfl) hS3 ?_
   simp only [List.drop_succ_cons,List.drop_zero];refine Z0p rfl rfl (g:=X1.heap.size) (cells:=#[O qL qx,O qL qy,O qL fx,O qL wt,O qL bk]) rfl rfl hO (by kernel_rfl) rfl (by simp [Value.oneCell']) ?_
   have hP2:=Has.put (cells:=#[O qL qx,O qL qy,O qL fx,O qL wt,O qL bk]) hO;have hP1:=Has.keep (cells:=#[O qL qx,O qL qy,O qL fx,O qL wt,O qL bk]) (C:=X1.heap.size) hP (by omega)
   have hS4:=Below.setRow hS3 (C:=X1.heap.size) (by omega) #[O qL qx,O qL qy,O qL fx,O qL wt,O qL bk]
   generalize X3.setRow X1.heap.size #[O qL qx,O qL qy,O qL fx,O qL wt,O qL bk]=X4 at *;gi_wp2;go_meet;exact⟨_,_,rfl,rfl,by omega,by omega,by omega,hP1,hP2,hS4⟩
  ·skip
   refine ZE (Zd rfl) rfl (v:=qP (some ⟨X0.heap.size,0,none⟩)) (w':=X0.alloc (qC #[O qL 0,O qL 0,O qL 0,O qL 0,O qL 0] 65)) (by go_simp) ?_
   simp only [qJ,zq4,zr4,zs4];have hNX0:=Has.new X0 #[O qL 0,O qL 0,O qL 0,O qL 0,O qL 0] 65;have hS1:=hS0.alloc (by omega) (qC #[O qL 0,O qL 0,O qL 0,O qL 0,O qL 0] 65)
   have hz1:X0.heap.size<(X0.alloc (qC #[O qL 0,O qL 0,O qL 0,O qL 0,O qL 0] 65)).heap.size:=by simp
   generalize X0.alloc (qC #[O qL 0,O qL 0,O qL 0,O qL 0,O qL 0] 65)=X1 at *;refine sa1 (r:=11) hS1 ?_;refine ZE (Zd rfl) rfl (v:=qP (some ⟨X1.heap.size,0,none⟩)) (w':=X1.alloc (qC #[qS none 0 0,O qL 0,O qL 0,O qL 0,O qL 0] 58)) (by go_simp) ?_
   simp only [qJ,zq4,zr4,zs4];have hNX1:=Has.new X1 #[qS none 0 0,O qL 0,O qL 0,O qL 0,O qL 0] 58;replace hNX0:=hNX0.below ((qK X1.heap.size X1).alloc (qN _) (qC #[qS none 0 0,O qL 0,O qL 0,O qL 0,O qL 0] 58)) hNX0.lt;have hS2:=hS1.alloc (by omega) (qC #[qS none 0 0,O qL 0,O qL 0,O qL 0,O qL 0] 58)
   have hz2:X1.heap.size<(X1.alloc (qC #[qS none 0 0,O qL 0,O qL 0,O qL 0,O qL 0] 58)).heap.size:=by simp
   generalize X1.alloc (qC #[qS none 0 0,O qL 0,O qL 0,O qL 0,O qL 0] 58)=X2 at *;refine sa1 (r:=13) hS2 ?_;refine Z4O (Zd rfl) rfl rfl (g:=X1.heap.size) (cells:=#[qS au p.cor.length (p.cor.length+cu),O qL p.fr,O qL p.tw,O qL p.tm,O qL p.en]) rfl rfl hNX1 (by kernel_rfl) rfl (by simp [Value.oneCell']) ?_
   simp only [qJ,zq4,zr4,zs4];have hP:=Has.put (cells:=#[qS au p.cor.length (p.cor.length+cu),O qL p.fr,O qL p.tw,O qL p.tm,O qL p.en]) hNX1;have hO:=Has.keep (cells:=#[qS au p.cor.length (p.cor.length+cu),O qL p.fr,O qL p.tw,O qL p.tm,O qL p.en]) (C:=X1.heap.size) hNX0 (by omega)
   have hS3:=Below.setRow hS2 (C:=X1.heap.size) (by omega) #[qS au p.cor.length (p.cor.length+cu),O qL p.fr,O qL p.tw,O qL p.tm,O qL p.en]
   generalize X2.setRow X1.heap.size #[qS au p.cor.length (p.cor.length+cu),O qL p.fr,O qL p.tw,O qL p.tm,O qL p.en]=X3 at *;refine Zm (by kernel_rfl) hS3 ?_
   simp only [List.drop_succ_cons,List.drop_zero];refine Z0p rfl rfl (g:=X0.heap.size) (cells:=#[O qL qx,O qL qy,O qL fx,O qL wt,O qL bk]) rfl rfl hO (by kernel_rfl) rfl (by simp [Value.oneCell']) ?_
   have hP2:=Has.put (cells:=#[O qL qx,O qL qy,O qL fx,O qL wt,O qL bk]) hO;have hP1:=Has.keep (cells:=#[O qL qx,O qL qy,O qL fx,O qL wt,O qL bk]) (C:=X0.heap.size) hP (by omega)
   have hS4:=Below.setRow hS3 (C:=X0.heap.size) (by omega) #[O qL qx,O qL qy,O qL fx,O qL wt,O qL bk]
   generalize X3.setRow X0.heap.size #[O qL qx,O qL qy,O qL fx,O qL wt,O qL bk]=X4 at *;gi_wp2;go_meet;exact⟨_,_,rfl,rfl,by omega,by omega,by omega,hP1,hP2,hS4⟩
 case rest =>
  obtain⟨bx,by',rfl,rfl,hxy,hbx,hby,HX0,HY0,hC⟩:=hcut
  replace BW:=zAf BW hC;have B_X0:=qH hC;clear hC;have BX:=qH HX0;have BY:=qH HY0;clear HX0 HY0 m0 e1 x0 x1 x2 x3 x4 y0 y1 y2 y3 y4;have z2:=Low.fact (BX.out.cell (i:=2) rfl);have z3:=Low.fact (BX.out.cell (i:=3) rfl);have z4:=Low.fact (BX.out.cell (i:=4) rfl);go_wp2
  (refine Zh (by kernel_rfl) (by kernel_rfl) ?_;(iterate 9 (apply Zf;(case hw=>rfl);(case hval=>(intro w1 hw1;have hcx:=Low.cells hw1;simp only [Oper.quietAt];go_simp;first | done | rfl | exact⟨rfl,rfl⟩));simp only [qJ,zq4,zr4,zs4]));refine wpQuiet_nil ?_;intro w2 hw2)
  obtain⟨wa,hwa⟩:∃ x,x=w2:=⟨_,rfl⟩;subst hwa;have hA:Below wc.heap.size wc wa:=hw2.out;clear hw2 z2 z3 z4;replace BW:=zAf BW hA;replace B_X0:=zAf B_X0 hA;have B_wc:=qH hA;clear hA;have e0:=(zCl CB B_X0).cell (i:=0) rfl;go_wp2_with fail;refine (f1.out _ BW.out).mono ?_;rintro e w1 ⟨rfl,b1⟩;replace BW:=zAf BW b1;replace B_X0:=zAf B_X0 b1;replace B_wc:=zAf B_wc b1;clear b1 e0;cases hmem:decide (((k+1:Nat):Int) ∈ c.stops)
  ·have hm2:¬ ((k+1:Nat):Int) ∈ c.stops:=by simpa using hmem
   have HV:=qH (And.intro (HR.out.trans (if_neg hm2)) (And.intro (HT.out.trans (if_neg hm2)) (HE.out.trans (if_neg hm2))));clear hm2 hmem;go_wp2;go_ret3;exact⟨by rw [HV.out.1,HV.out.2.1,HV.out.2.2];rfl,BW.out⟩
  have hm2:((k+1:Nat):Int) ∈ c.stops:=by simpa using hmem
  have HV:=qH (And.intro (HR.out.trans (if_pos hm2)) (And.intro (HT.out.trans (if_pos hm2)) (HE.out.trans (if_pos hm2))));clear hm2 hmem;have z1:=Low.fact ((zCl BY B_wc).cell (i:=2) rfl);have z2:=Low.fact ((zCl BY B_wc).cell (i:=3) rfl);have z3:=Low.fact ((zCl MB B_X0).cell (i:=7) rfl);obtain⟨mi,hmi⟩:∃ x,min p.tw fx=x:=⟨_,rfl⟩;go_wp2
  (refine Zh (by kernel_rfl) (by kernel_rfl) ?_;(iterate 18 (apply Zf;(case hw=>rfl);(case hval=>(intro w1 hw1;have hcx:=Low.cells hw1;simp only [Oper.quietAt];go_simp;first | done | rfl | exact⟨rfl,rfl⟩));simp only [qJ,zq4,zr4,zs4]));refine wpQuiet_nil ?_;intro w2 hw2)
  have BZ:=qH (BW.out.trans (hw2.out.mono BW.out.size));go_wp2;go_ret3;exact⟨by rw [HV.out.1,HV.out.2.1,HV.out.2.2,hmi];rfl,BZ.out⟩
theorem Zaw (u k : Nat) (hu : u < 1048576) : (bits BinOp.and IntKind.i64 ((u : Int) / 2 ^ k) 1 == 1) = decide (u / 2 ^ k % 2 = 1) := by
 have hd:((u:Int) / 2 ^ k)=((u / 2 ^ k:Nat):Int):=by rw [Int.natCast_ediv];simp
 have hb:u / 2 ^ k<1048576:=Nat.lt_of_le_of_lt (Nat.div_le_self _ _) hu;rw [hd];generalize u / 2 ^ k=q at *;have e:bits BinOp.and IntKind.i64 (q:Int) 1=((q % 2:Nat):Int):=by
  unfold bits;have h:((BitVec.ofInt IntKind.i64.bits (q:Int)) &&& (BitVec.ofInt IntKind.i64.bits 1)).toNat=q % 2:=by
   rw [BitVec.toNat_and];have h2:(BitVec.ofInt IntKind.i64.bits (q:Int)).toNat=q:=by
    show (BitVec.ofInt 64 (q:Int)).toNat=q
    rw [BitVec.toNat_ofInt];omega
   rw [h2];exact Nat.and_one_is_mod _
  simp only [h];rcases Nat.mod_two_eq_zero_or_one q with h | h <;> rw [h] <;> rfl
 rw [e];rcases Nat.mod_two_eq_zero_or_one q with h | h <;> rw [h] <;> rfl
def chTo (l:List Int) (u:Nat):Nat->List Int
 | 0=>[]
 | k+1=>if u / 2 ^ k % 2=1 then chTo l u k++[l.getD k 0] else chTo l u k
theorem Z59 (l:List Int) (u:Nat):∀ k,(chTo l u k).length<=k
 | 0=>by simp [chTo]
 | k + 1 => by
  have:=Z59 l u k;unfold chTo
  split
  ·rw [List.length_append];simp only [List.length_cons,List.length_nil];omega
  ·omega
theorem Z66 (x:Int) (xs:List Int) (u:Nat):∀ k,chTo (x::xs) u (k+1)=(if u % 2=1 then [x] else [])++chTo xs (u / 2) k
 | 0 => by
  by_cases h:u % 2=1
  ·simp [chTo,h]
  ·simp [chTo,h]
 | k + 1 => by
  have ih:=Z66 x xs u k;have e:u / 2 ^ (k+1)=u / 2 / 2 ^ k:=by rw [Nat.pow_succ,Nat.mul_comm,Nat.div_div_eq_div_mul]
  rw [chTo,ih,e]
  conv=>rhs;rw [chTo]
  by_cases h:u / 2 / 2 ^ k % 2=1
  ·rw [if_pos h,if_pos h]
   simp
  ·rw [if_neg h,if_neg h]
theorem Z7H:∀ (l:List Int) (u:Nat),chTo l u l.length=chosenL l u
 | [],u=>rfl
 | x :: xs, u => by
  rw [List.length_cons,Z66,Z7H xs,show chosenL (x::xs) u=if u % 2=1 then x::chosenL xs (u / 2) else chosenL xs (u / 2) from rfl]
  split <;> simp
theorem Z6r (vl : Value) (l : List Int) (u : Nat) (hu : u < 1048576) (h20 : l.length <= 20) (w : World) (hl : Z8 w.heap.size w vl l) :
  Calls Tryz.prog 11 #[vl,O qL (u:Int)] w fun e w'=>∃ v,e=qR v/\Z8 w'.heap.size w' v (chosenL l u)/\Below w.heap.size w w':=by
 obtain⟨i0,hi,hz0',hz1',hz2'⟩:=info_parts intInfo;obtain⟨-,al,cl,rfl,hc⟩:=hl;have HC:=qH hc;have BW:=qH (qK w.heap.size w);rw [<- Z7H];clear hc;go_enter Tryz.func11,Tryz.ntmps11;go_wp2
 go_loopw [5,6] (fun v i wr=>∃ k:Nat,k<=l.length/\i=O qL (k:Int)/\wr.ownsRow w.heap.size 3 1 v (chTo l u k).length ((chTo l u k).map (O qL))/\Below w.heap.size w wr) (fun _ i _=>l.length-(intOf i).toNat)
 case atStart=>exact⟨0,by omega,rfl,World.ownsRow_nil _ _ _ _,BW.out⟩
 case round =>
  obtain⟨k,hk,rfl,hrow,hB⟩:=hrel;obtain⟨wo,hwo⟩:∃ x,x=wr:=⟨_,rfl⟩;subst hwo;have hzB:=hB.size;by_cases hlt:k<l.length
  ·obtain⟨b,o,rfl,hb,hcc⟩:=HC.out.resolve_left (by intro h;rw [h] at hlt;simp at hlt)
   have e0:=(hB.cell (p:=⟨b,o+k,none⟩) hb).trans (hcc k hlt);have hlen:=Z59 l u k;have hst:Hid (chTo l u (k+1)=if u / 2 ^ k % 2=1 then chTo l u k++[l.getD k 0] else chTo l u k):=rfl
   have hbit:=Zaw u k hu;obtain⟨cl',hcl⟩:∃ cl,chTo l u k=cl:=⟨_,rfl⟩;rw [hcl] at hrow hst hlen;generalize l.getD k 0=x at *;have dk:decide ((k:Int)<(l.length:Int))=true:=by simp;omega
   have kl:(k:Int)<l.length:=by omega
   have k0:(0:Int)<=k:=by omega
   have k0n:¬ ((k:Int)<0):=by omega
   have HR:=qH hrow;have HB:=qH hB;clear hcc hrow hB hcl;by_cases hp:u / 2 ^ k % 2=1
   ·have HS:=qH (hst.out.trans (if_pos hp))
    rw [decide_eq_true hp] at hbit;clear hst hp;go_wp2_with (at_builtin;refine wpList_append_own _ rfl _ _ 29 rfl w.heap.size 3 i0 (.int .i64 0) 1 8 Tryz.underlying29 hi hz0' hz1' hz2' rfl (by decide) _ _ _ rfl (HR.out.alloc _) ⟨wo.heap.size,0,none⟩ 1 1 [.int .i64 x] rfl rfl (cell_one_new _ _ _) (by simp [Value.oneCell']) (by unfold maxLen;omega) (by omega) (by simp;omega) ?_;intro v' w4 hown' hgrow _)
    go_roundw
    case rel =>
     have hb0:Below w.heap.size wo w4:=((qK w.heap.size wo).alloc (by omega) _).grown hgrow (by simp;omega) (fun j ej=>(HR.out.lt j ej).1)
     refine⟨k+1,by omega,by go_num,?_,HB.out.trans hb0⟩
     rw [HS.out]
     simpa using hown'
    case measure=>simp [intOf];omega
   ·have HS:=qH (hst.out.trans (if_neg hp))
    rw [decide_eq_false hp] at hbit;clear hst hp;go_wp2;go_roundw
    case rel=>exact⟨k+1,by omega,by go_num,by rw [HS.out];exact HR.out,HB.out⟩
    case measure=>simp [intOf];omega
  ·obtain rfl:k=l.length:=by omega
   have dk:decide ((l.length:Int)<(l.length:Int))=false:=by simp
   have HI:=qH (Z8.own hrow (by have:=Z59 l u l.length;omega))
   have HB:=qH hB;clear hrow hB;go_wp2;go_ret;exact⟨_,rfl,HI.out,HB.out⟩
theorem Z8b (m : Msn) (vw vh vr : Value) (w : World) (hm : MsnAt w.heap.size w m vw vh vr) (h41 : m.ways.length <= 100000) :
  Calls Tryz.prog 12 #[.agg (Zc m vw vh vr)] w fun e w'=>∃ v,e=qR v/\Z8 w'.heap.size w' v (fixL m)/\Below w.heap.size w w':=by
 obtain⟨⟨-,a1,c1,rfl,hcw⟩,⟨-,a2,c2,rfl,-⟩,⟨-,a3,c3,rfl,-⟩⟩:=hm;obtain⟨i0,hi,hz0',hz1',hz2'⟩:=info_parts intInfo;have HW:=qH hcw;clear hcw;unfold Zc;have hA:=qH ((qK w.heap.size w).alloc (qN _) (qC #[qS a1 m.ways.length (m.ways.length+c1),qS a2 m.home.length (m.home.length+c2),O qL m.start,qS a3 m.rocks.length (m.rocks.length+c3),O qL m.speed,O qL m.part,O qL m.flow,O qL m.idle,O qL m.drive,O qL m.battery,O qL m.deadline] 26));have hMB:=qH (Has.new w #[qS a1 m.ways.length (m.ways.length+c1),qS a2 m.home.length (m.home.length+c2),O qL m.start,qS a3 m.rocks.length (m.rocks.length+c3),O qL m.speed,O qL m.part,O qL m.flow,O qL m.idle,O qL m.drive,O qL m.battery,O qL m.deadline] 26);go_enter Tryz.func12,Tryz.ntmps12;go_wp2;generalize hX:qV w _=X0 at *;have zX:Hid (X0.heap.size=w.heap.size+1):=by rw [<- hX];show _=_;simp
 clear hX
 go_loopw [3,4] (fun v i wr=>∃ k:Nat,(k<=m.ways.length\/k=1)/\1<=k/\i=O qL (k:Int)/\wr.ownsRow X0.heap.size 3 1 v (fixTo m k).length ((fixTo m k).map (O qL))/\Below X0.heap.size X0 wr) (fun _ i _=>m.ways.length-(intOf i).toNat)
 case atStart=>exact⟨1,.inr rfl,by omega,rfl,World.ownsRow_nil _ _ _ _,qK _ _⟩
 case round =>
  obtain⟨k,hk,hk1,rfl,hrow,hB⟩:=hrel;obtain⟨wo,hwo⟩:∃ x,x=wr:=⟨_,rfl⟩;subst hwo;have hzB:=hB.size;have hzX:=zX.out;have m0:wo.cell? ⟨w.heap.size,0,none⟩=some (qS a1 m.ways.length (m.ways.length+c1)):=(hMB.out.below hB hMB.out.lt).cell (i:=0) rfl;have HBw:=zAf hA hB;by_cases hlt:k<m.ways.length
  ·obtain⟨b,o,rfl,hb,hcc⟩:=HW.out.resolve_left (by intro h;rw [h] at hlt;simp at hlt)
   obtain⟨q0,q1,q2,q3,q4⟩:=hcc k hlt;have e2:=(HBw.out.cell (p:=⟨b,o+k*5+2,none⟩) hb).trans q2;have hlen:=Z0g m k;have hst:Hid (fixTo m (k+1)=if 0<k/\0<(wy m.ways k).fix then fixTo m k++[(k:Int)] else fixTo m k):=rfl
   obtain⟨cl,hcl⟩:∃ cl,fixTo m k=cl:=⟨_,rfl⟩;rw [hcl] at hrow hst hlen;have dk:decide ((k:Int)<(m.ways.length:Int))=true:=by simp;omega
   have kl:(k:Int)<m.ways.length:=by omega
   have k0:(0:Int)<=k:=by omega
   generalize (wy m.ways k).fix=pf at *;have HR:=qH hrow;have HB:=qH hB;clear hcc q0 q1 q2 q3 q4 hrow hB hcl hzX;by_cases hp:0<pf
   ·have d2:decide (pf>0)=true:=zTq
    have HS:=qH (hst.out.trans (if_pos ⟨by omega,hp⟩))
    clear hst hp;go_wp2_with (at_builtin;refine wpList_append_own _ rfl _ _ 29 rfl X0.heap.size 3 i0 (.int .i64 0) 1 8 Tryz.underlying29 hi hz0' hz1' hz2' rfl (by decide) _ _ _ rfl (HR.out.alloc _) ⟨wo.heap.size,0,none⟩ 1 1 [.int .i64 (k:Int)] rfl rfl (cell_one_new _ _ _) (by simp [Value.oneCell']) (by unfold maxLen;omega) (by omega) (by simp;omega) ?_;intro v' w4 hown' hgrow _)
    go_roundw
    case rel =>
     have hb0:Below X0.heap.size wo w4:=((qK X0.heap.size wo).alloc (by omega) _).grown hgrow (by simp;omega) (fun j ej=>(HR.out.lt j ej).1)
     refine⟨k+1,.inl (by omega),by omega,by go_num,?_,HB.out.trans hb0⟩
     rw [HS.out]
     simpa using hown'
    case measure=>simp [intOf];omega
   ·have HS:=qH (hst.out.trans (if_neg (by omega)))
    have d2:decide (pf>0)=false:=by rw [decide_eq_false_iff_not];omega
    clear hst;go_wp2;go_roundw
    case rel=>exact⟨k+1,.inl (by omega),by omega,by go_num,by rw [HS.out];exact HR.out,HB.out⟩
    case measure=>simp [intOf];omega
  ·have dk:decide ((k:Int)<(m.ways.length:Int))=false:=by simp;omega
   have hfx:fixTo m k=fixL m:=by
    unfold fixL;rcases hk with h | h
    ·rw [show k=m.ways.length by omega]
    ·subst h
     rcases (show m.ways.length=0\/m.ways.length=1 by omega) with h | h
     ·rw [h];rfl
     ·rw [h]
   rw [hfx] at hrow;have HI:=qH (Z8.own hrow (by have:=Z0g m m.ways.length;show (fixTo m m.ways.length).length<=_;omega))
   clear hrow hB hfx hzX;go_wp2;go_ret;exact⟨_,rfl,HI.out,HBw.out⟩
end
theorem Zbj {m:Msn} (h:fewB m=true):m.ways.length<=8:=by
 simp only [fewB,Bool.and_eq_true,decide_eq_true_eq] at h;omega
theorem fix_in {m:Msn} {x:Int} (h:x ∈ fixL m):0<x/\x<m.ways.length/\(wy m.ways x.toNat).fix≠0:=by
 obtain⟨j,rfl,h1,h2,h3⟩:=(Z0W m _ _).1 h;exact⟨by omega,by omega,by rw [Int.toNat_natCast];omega⟩
theorem Z90 {m:Msn} (hV:validB m=true) {s:List Int} (h:s.Sublist (fixL m)):radOkB m s=true:=by
 unfold radOkB;rw [hV,Bool.true_and];exact Z5w (List.Pairwise.sublist h (Z1h m _)) fun x hx=>fix_in (h.subset hx)
theorem kp_of {m:Msn} {s:List Int} (h:radOkB m s=true):kpL m s=leadV m s/\kpK m s=leadK m s/\kpE m s=0:=by
 simp [kpL,kpK,kpE,h]
theorem kpL_nn (m:Msn) (s:List Int):0<=kpL m s:=by
 unfold kpL leadV
 split <;> omega
theorem Z71 (m:Msn):IsBest (kpL m) (allTo (fixL m) ((fixL m).length+1)) (bestP m):=by
 have h:=Z7x (kpL m) (kpL_nn m) (allTo (fixL m) ((fixL m).length+1)) [] (-1,[]) (by rw [List.nil_append];exact Z2M (Z1h m m.ways.length) _) (.inl ⟨rfl,rfl⟩) (.inl (fun h=>by
  have:([]:List Int) ∈ allTo (fixL m) ((fixL m).length+1):=Z22.2 ⟨List.nil_sublist _,by simp⟩
  rw [h] at this;cases this))
 simpa [bestP,farL] using h
theorem Z32 (m:Msn):(bestP m).2.Sublist (fixL m):=(Z22.1 (Z71 m).1).1
theorem Z3L (m:Msn):kpL m (bestP m).2=(bestP m).1:=(Z71 m).2.1.symm
theorem ZcG {m:Msn} {s:List Int} (h:s.Sublist (fixL m)):kpL m s<(bestP m).1\/(kpL m s=(bestP m).1/\(s=(bestP m).2\/betterB (bestP m).2 s=true)) :=
 (Z71 m).2.2 s (Z22.2 ⟨h,by have:=h.length_le;omega⟩)
theorem Z9t {m:Msn} {s:List Int} (h:radOkB m s=true) (he:kpL m s=((m.ways.length-1:Nat):Int)):kpK m s=0:=by
 obtain⟨a,b,-⟩:=kp_of h;rw [b];rw [a] at he;unfold leadV at he;unfold leadK;rw [if_neg (by omega)]
theorem Z23 {m:Msn} {s:List Int} (h:radOkB m s=true) (he:kpL m s≠((m.ways.length-1:Nat):Int)):0<kpK m s:=by
 obtain⟨a,b,-⟩:=kp_of h;rw [b];rw [a] at he;unfold leadV at he;have sp:=Z0x m s;have hlt:leadN m s<m.ways.length-1:=by omega
 unfold leadK;rw [if_pos hlt];have:=sp.2.2 hlt;have:=(Z4T m s (leadN m s)).1;omega
section
variable (m:Msn) (R:List (List Pt)) (b d:Int)
end
section
variable {m:Msn} {R:List (List Pt)} {b d:Int}
def Fewer (R ls:List (List Pt)):Prop:=R.length<=ls.length/\∀ j,j<R.length->∃ i,i<ls.length/\rk R j=rk ls i
variable (hF:Fewer R m.rocks) (V:VMsn m)
include hF V
omit hF V in
end
section
attribute [local irreducible] wpQuiet
open Go.RowKit
theorem Z7.offG {W X : World} {v : Value} {l : List Pt} {row : Option Nat} (h : Z7 W.heap.size W v l) (hg : W.grownBy X row) (hne : ∀ r, row = some r -> l = [] \/ v.ownBlock ≠ some r) : Z7 X.heap.size X v l := by
 obtain⟨hl,a,cap,e,hc⟩:=h;refine⟨hl,a,cap,e,?_⟩;rcases hc with hc | ⟨b,o,e1,hb,hc⟩
 ·exact .inl hc
 ·by_cases hl0:l=[]
  ·exact .inl hl0
  ·refine .inr ⟨b,o,e1,Nat.lt_of_lt_of_le hb hg.size,fun j hj=>?_⟩
   have hbn:some b≠row:=fun er=>by
    rcases hne b er.symm with h | h
    ·exact hl0 h
    ·exact h (by rw [e,e1];rfl)
   obtain⟨c1,c2⟩:=hc j hj;exact⟨(World.cell?_of_block (hg.block b hb hbn)).trans c1,(World.cell?_of_block (hg.block b hb hbn)).trans c2⟩
theorem Z7.own_lt {W:World} {n0:Nat} {v:Value} {l:List Pt} (h:Z7 n0 W v l) {r:Nat} (hr:v.ownBlock=some r):l=[]\/r<n0:=by
 obtain⟨-,a,cap,e,hc⟩:=h;rcases hc with hc | ⟨b,o,e1,hb,-⟩
 ·exact .inl hc
 ·right
  rw [e,e1] at hr;simp only [Value.ownBlock,Option.some.injEq] at hr;omega
def PsR (W:World) (g:Nat->Psg) (k:Nat) (xs:List Value) (P:Nat->Prop):Prop :=
 xs.length=k*5/\∀ j,j<k->∃ u,xs[j*5]?=some u/\Z7 W.heap.size W u (g j).cor/\((g j).cor=[]\/∀ r,u.ownBlock=some r->P r)/\xs[j*5+1]?=some (O qL (g j).fr)/\xs[j*5+2]?=some (O qL (g j).tw)/\xs[j*5+3]?=some (O qL (g j).tm)/\xs[j*5+4]?=some (O qL (g j).en)
section
variable {W X:World} {g:Nat->Psg} {k:Nat} {xs:List Value} {P Q:Nat->Prop}
theorem PsR.nil:PsR W g 0 [] P:=⟨rfl,fun j h=>by omega⟩
theorem PsR.snoc (h:PsR W g k xs P) {u:Value} (hu:Z7 W.heap.size W u (g k).cor) (hP:(g k).cor=[]\/∀ r,u.ownBlock=some r->P r) :
  PsR W g (k+1) (xs++[u,O qL (g k).fr,O qL (g k).tw,O qL (g k).tm,O qL (g k).en]) P:=by
 obtain⟨hl,hc⟩:=h;refine⟨by simp [hl];omega,fun j hj=>?_⟩
 by_cases e:j=k
 ·subst e
  have q:∀ i,(xs++[u,O qL (g j).fr,O qL (g j).tw,O qL (g j).tm,O qL (g j).en])[j*5+i]?=[u,O qL (g j).fr,O qL (g j).tw,O qL (g j).tm,O qL (g j).en][i]?:=fun i=>by
   rw [List.getElem?_append_right (by omega),hl,Nat.add_sub_cancel_left]
  exact⟨u,by have:=q 0;rw [Nat.add_zero] at this;exact this,hu,hP,q 1,q 2,q 3,q 4⟩
 ·obtain⟨u',c0,c⟩:=hc j (by omega)
  have q:∀ i,i<5->(xs++[u,O qL (g k).fr,O qL (g k).tw,O qL (g k).tm,O qL (g k).en])[j*5+i]?=xs[j*5+i]?:=fun i hi=>List.getElem?_append_left (by omega)
  refine⟨u',by have:=q 0 (by omega);rw [Nat.add_zero] at this;rw [this];exact c0,c.1,c.2.1,?_,?_,?_,?_⟩
  ·rw [q 1 (by omega)];exact c.2.2.1
  ·rw [q 2 (by omega)];exact c.2.2.2.1
  ·rw [q 3 (by omega)];exact c.2.2.2.2.1
  ·rw [q 4 (by omega)];exact c.2.2.2.2.2
theorem PsR.below (h:PsR W g k xs P) (B:Below W.heap.size W X):PsR X g k xs P:=by
 refine⟨h.1,fun j hj=>?_⟩
 obtain⟨u,c0,hu,c⟩:=h.2 j hj;exact⟨u,c0,(hu.below B).mono B.size,c⟩
theorem PsR.app (h:PsR W g k xs P) {row:Option Nat} (hg:W.grownBy X row) (hr:∀ r,row=some r->¬ P r) (hQ:∀ r,r<W.heap.size->P r->Q r):PsR X g k xs Q:=by
 refine⟨h.1,fun j hj=>?_⟩
 obtain⟨u,c0,hu,hp,c⟩:=h.2 j hj;refine⟨u,c0,hu.offG hg (fun r e=>?_),?_,c⟩
 ·rcases hp with hp | hp
  ·exact .inl hp
  ·exact .inr fun e2=>hr r e (hp r e2)
 ·rcases hp with hp | hp
  ·exact .inl hp
  ·by_cases hn:(g j).cor=[]
   ·exact .inl hn
   ·exact .inr fun r e=>hQ r ((hu.own_lt e).resolve_left hn) (hp r e)
theorem PsR.psgs (h:PsR W g k xs P) {base:Nat} {v:Value} (hr:W.ownsRow base 58 5 v k xs) (hl:k<=70368744177663):PsgsAt W.heap.size W v (upto g k):=by
 have hg:∀ j,j<k->pgd (upto g k) j=g j:=fun j hj=>by simp [pgd,upto,List.getD,hj]
 refine⟨by rw [Zq];exact hl,?_⟩
 rw [Zq];rcases hr.2 with⟨rfl,h0⟩ | ⟨gb,cap,cur,rfl,_,hb,hc,_⟩
 ·exact⟨none,0,by rw [h0],.inl (List.eq_nil_of_length_eq_zero (by rw [Zq];exact h0))⟩
 ·refine⟨some ⟨gb,0,none⟩,cap-k,by rw [show k+(cap-k)=cap by omega],.inr ⟨gb,0,rfl,(Array.getElem?_eq_some_iff.1 hb).1,fun j hj=>?_⟩⟩
  rw [hg j hj];obtain⟨u,c0,hu,-,c1,c2,c3,c4⟩:=h.2 j hj;have q:∀ i w,i<5->xs[j*5+i]?=some w->W.cell? ⟨gb,0+j*5+i,none⟩=some w:=fun i w hi e=>by
   rw [Nat.zero_add];exact (hr.cellAt (j*5+i) (by omega)).trans e
  exact⟨u,by have:=q 0 u (by omega) c0;rwa [Nat.add_zero] at this,hu,q 1 _ (by omega) c1,q 2 _ (by omega) c2,q 3 _ (by omega) c3,q 4 _ (by omega) c4⟩
end
structure MkS (bC:Nat) (Z X:World) (g:Nat->Psg) (v1 v2:Value) (n1 n2:Nat) (x1 x2:List Value) (kc:Nat) (xc:List Value):Prop where
 bel:Below bC Z X
 r1:X.ownsRow (bC+1) 58 5 v1 n1 x1
 r2:X.ownsRow (bC+1) 3 1 v2 n2 x2
 ne:v1.ownBlock=none\/v1.ownBlock≠v2.ownBlock
 cor:PsR X g kc xc (fun r=>bC<r/\some r≠v1.ownBlock/\some r≠v2.ownBlock)
section
variable {bC:Nat} {Z X Y:World} {g:Nat->Psg} {v1 v2 u:Value} {n1 n2 n' kc:Nat} {x1 x2 x' xc:List Value}
theorem MkS.ne2 (h:MkS bC Z X g v1 v2 n1 n2 x1 x2 kc xc):v2.ownBlock=none\/v2.ownBlock≠v1.ownBlock:=by
 rcases h.ne with h | h
 ·rw [h]
  cases v2.ownBlock <;> simp
 ·exact .inr (Ne.symm h)
theorem MkS.up (h:MkS bC Z X g v1 v2 n1 n2 x1 x2 kc xc) (B:Below X.heap.size X Y) (hb:bC<=X.heap.size):MkS bC Z Y g v1 v2 n1 n2 x1 x2 kc xc:=by
 have hg:X.grownBy Y none:=⟨B.os,B.tape,B.output,B.size,fun b hb _=>B.block b hb⟩
 exact⟨h.bel.trans (B.mono hb),h.r1.kept hg (by cases v1.ownBlock <;> simp),h.r2.kept hg (by cases v2.ownBlock <;> simp),h.ne,h.cor.below B⟩
theorem MkS.app1 (h:MkS bC Z X g v1 v2 n1 n2 x1 x2 kc xc) (hb:bC<=X.heap.size) (hg:X.grownBy Y v1.ownBlock) (hr:Y.ownsRow (bC+1) 58 5 u n' x') (ho:u.ownBlock=v1.ownBlock\/u.ownBlock=some X.heap.size):MkS bC Z Y g u v2 n' n2 x' x2 kc xc:=by
 refine⟨h.bel.trans ((qK bC X).grown hg hb (fun j e=>by have:=(h.r1.lt j e).1;omega)),hr,h.r2.kept hg h.ne2,?_,h.cor.app hg (fun r e hp=>hp.2.1 e.symm) (fun r hlt hp=>⟨hp.1,?_,hp.2.2⟩)⟩
 ·rcases ho with ho | ho
  ·rw [ho];exact h.ne
  ·right
   rw [ho];intro e;have:=(h.r2.lt _ e.symm).2;omega
 ·rcases ho with ho | ho
  ·rw [ho];exact hp.2.1
  ·rw [ho]
   intro e;have:r=X.heap.size:=by simpa using e
   omega
theorem MkS.app2 (h : MkS bC Z X g v1 v2 n1 n2 x1 x2 kc xc) (hb : bC <= X.heap.size) (hg : X.grownBy Y v2.ownBlock) (hr : Y.ownsRow (bC + 1) 3 1 u n' x') (ho : u.ownBlock = v2.ownBlock \/ u.ownBlock = some X.heap.size) : MkS bC Z Y g v1 u n1 n' x1 x' kc xc := by
 refine⟨h.bel.trans ((qK bC X).grown hg hb (fun j e=>by have:=(h.r2.lt j e).1;omega)),h.r1.kept hg h.ne,hr,?_,h.cor.app hg (fun r e hp=>hp.2.2 e.symm) (fun r hlt hp=>⟨hp.1,hp.2.1,?_⟩)⟩
 ·rcases ho with ho | ho
  ·rw [ho];exact h.ne
  ·by_cases hn:v1.ownBlock=none
   ·exact .inl hn
   ·right
    rw [ho];intro e;have:=(h.r1.lt _ e).2;omega
 ·rcases ho with ho | ho
  ·rw [ho];exact hp.2.2
  ·rw [ho]
   intro e;have:r=X.heap.size:=by simpa using e
   omega
theorem MkS.set (h:MkS bC Z X g v1 v2 n1 n2 x1 x2 kc xc) (i:Nat) (w:Value):MkS bC Z (X.setCell ⟨bC,i,none⟩ w) g v1 v2 n1 n2 x1 x2 kc xc:=by
 have hg:X.grownBy (X.setCell ⟨bC,i,none⟩ w) (some bC):=⟨rfl,rfl,rfl,by simp [qU],fun k _ hk=>Below.heap_setCell _ _ _ k (fun e=>hk (by rw [e]))⟩
 refine⟨h.bel.setCell (p:=⟨bC,i,none⟩) (qN _) w,h.r1.kept hg (.inr fun e=>?_),h.r2.kept hg (.inr fun e=>?_),h.ne,h.cor.app hg (fun r e hp=>?_) (fun r _ hp=>hp)⟩
 ·have:=(h.r1.lt _ e).1;omega
 ·have:=(h.r2.lt _ e).1;omega
 ·cases e;exact Nat.lt_irrefl _ hp.1
theorem MkS.fin (h:MkS bC Z X g v1 v2 n1 n2 x1 x2 n1 x1) {b:Nat} (hb:b<=bC) (hg:X.grownBy Y (some b)) (hn:n1<=70368744177663):PsgsAt Y.heap.size Y v1 (upto g n1)/\Y.ownsRow (bC+1) 3 1 v2 n2 x2:=by
 have q1:Y.ownsRow (bC+1) 58 5 v1 n1 x1:=h.r1.kept hg (.inr fun e=>by have:=(h.r1.lt _ e).1;omega)
 have q2:Y.ownsRow (bC+1) 3 1 v2 n2 x2:=h.r2.kept hg (.inr fun e=>by have:=(h.r2.lt _ e).1;omega)
 have q3:=h.cor.app (Q:=fun _=>True) hg (fun r e hp=>by cases e;omega) (fun _ _ _=>trivial)
 exact⟨q3.psgs q1 hn,q2⟩
theorem Z7n {s n0:Nat} {W:World} {v:Value} {l:List Pt} (hN:NewI s v) (h:Z7 n0 W v l) {r:Nat} (hr:v.ownBlock=some r):l=[]\/s<=r:=by
 obtain⟨-,a,cap,e,hc⟩:=h;rcases hc with hc | ⟨b,o,e1,hb,-⟩
 ·exact .inl hc
 ·right
  have:=hN b o _ _ (by rw [e,e1])
  rw [e,e1] at hr;simp only [Value.ownBlock,Option.some.injEq] at hr;omega
theorem MkS.fresh (h:MkS bC Z X g v1 v2 n1 n2 x1 x2 kc xc) (hb:bC<X.heap.size) {s n0:Nat} {W:World} {l:List Pt} (hN:NewI s u) (hs:X.heap.size<=s) (hu:Z7 n0 W u l):l=[]\/∀ r,u.ownBlock=some r->bC<r/\some r≠v1.ownBlock/\some r≠v2.ownBlock:=by
 by_cases hl:l=[]
 ·exact .inl hl
 ·refine .inr fun r hr=>?_
  have h1:=(Z7n hN hu hr).resolve_left hl;refine⟨by omega,fun e=>?_,fun e=>?_⟩
  ·have:=(h.r1.lt _ e.symm).2;omega
  ·have:=(h.r2.lt _ e.symm).2;omega
theorem MkS.one (h:MkS bC Z X g v1 v2 n1 n2 x1 x2 kc xc) (hu:Z7 X.heap.size X u (g kc).cor) (hP:(g kc).cor=[]\/∀ r,u.ownBlock=some r->bC<r/\some r≠v1.ownBlock/\some r≠v2.ownBlock) :
  MkS bC Z X g v1 v2 n1 n2 x1 x2 (kc+1) (xc++[u,O qL (g kc).fr,O qL (g kc).tw,O qL (g kc).tm,O qL (g kc).en]):=⟨h.bel,h.r1,h.r2,h.ne,h.cor.snoc hu hP⟩
def MkH (X:World) (v1 v2:Value) (B:Nat) (cs:Array Value) (T:TypeId):Prop:=Has X B cs T/\some B≠v1.ownBlock/\some B≠v2.ownBlock
variable {B:Nat} {cs:Array Value} {T:TypeId}
theorem MkH.app1 (h:MkH X v1 v2 B cs T) (hg:X.grownBy Y v1.ownBlock) (ho:u.ownBlock=v1.ownBlock\/u.ownBlock=some X.heap.size):MkH Y u v2 B cs T:=by
 have hlt:=h.1.lt;refine⟨(hg.block B hlt (by exact h.2.1)).trans h.1,?_,h.2.2⟩
 rcases ho with ho | ho
 ·rw [ho];exact h.2.1
 ·rw [ho];intro e;have:B=X.heap.size:=by simpa using e
  omega
theorem MkH.app2 (h:MkH X v1 v2 B cs T) (hg:X.grownBy Y v2.ownBlock) (ho:u.ownBlock=v2.ownBlock\/u.ownBlock=some X.heap.size):MkH Y v1 u B cs T:=by
 have hlt:=h.1.lt;refine⟨(hg.block B hlt (by exact h.2.2)).trans h.1,h.2.1,?_⟩
 rcases ho with ho | ho
 ·rw [ho];exact h.2.2
 ·rw [ho];intro e;have:B=X.heap.size:=by simpa using e
  omega
theorem MkH.up (h:MkH X v1 v2 B cs T) (hB:Below X.heap.size X Y):MkH Y v1 v2 B cs T:=⟨h.1.below hB h.1.lt,h.2⟩
theorem MkS.free (h:MkS bC Z X g v1 v2 n1 n2 x1 x2 kc xc) (hH:Has Y B cs T) (hB:B<=bC\/X.heap.size<=B):MkH Y v1 v2 B cs T:=by
 refine⟨hH,fun e=>?_,fun e=>?_⟩
 ·have:=h.r1.lt _ e.symm;omega
 ·have:=h.r2.lt _ e.symm;omega
end
theorem Z2B {W:World} {b:Nat} {t:TypeId} {s n:Nat} {v:Value} {xs:List Value} (h:W.ownsRow b t s v n xs):∃ a c,v=qS a n c:=by
 rcases h.2 with⟨e,e0⟩ | ⟨g,cap,cur,e,-⟩
 ·exact⟨none,0,by rw [e,e0]⟩
 ·exact⟨_,_,e⟩
theorem Z1A {X:World} {B:Nat} {l:List Value} {T:TypeId} (h:Has X B l.toArray T):∀ j u,l[j]?=some u->X.cell? ((⟨B,0,none⟩:Addr).add j)=some u:=fun j u hu=>by
 rw [show (⟨B,0,none⟩:Addr).add j=⟨B,j,none⟩ by simp [Addr.add];try exact fun h=>h.symm]
 exact h.cell (by simpa using hu)
theorem Z58 (v : Value) (l : List Int) (w : World) (hp : Z8 w.heap.size w v l) (hl : l.length <= 1000000) :
  Calls Tryz.prog 42 #[v] w fun e w'=>∃ v',e=qR v'/\Z8 w'.heap.size w' v' l/\Below w.heap.size w w'/\NewI w.heap.size v':=by
 obtain⟨hl0,a,cap,rfl,hc⟩:=hp;have q22:∀ (w:World) (a:Option Addr) (n c n' c':Nat),(binOp .eql 29 (.slice a n c) (.slice none n' c')).run Tryz.prog w=.ok (.bool a.isNone) w:=fun w a n c n' c'=>Lib.run_eql_slice_nil w _ _ a n c n' c' Tryz.underlying29
 cases a with
 | none =>
  obtain rfl:l=[]:=by
   rcases hc with h | ⟨b,o,h,-⟩
   ·exact h
   ·cases h
  go_enter Tryz.func42,Tryz.ntmps42;go_wp2;go_ret;exact⟨_,rfl,Z8.nil _ _,qK _ _,NewI.nil _⟩
 | some ad =>
  have hcell:∀ j u,(l.map (O qL))[j]?=some u->(w.alloc (qC #[] 3)).cell? (ad.add j)=some u:=fun j u hu=>by
   rcases hc with rfl | ⟨b,o,h,hb,hc⟩
   ·simp at hu
   ·cases h
    have hj:j<l.length:=by have:=(List.getElem?_eq_some_iff.1 hu).1;simpa using this
    have e:u=O qL (l.getD j 0):=by
     rw [List.getElem?_map,List.getElem?_eq_getElem hj] at hu;simp only [Option.map_some,Option.some.injEq] at hu;rw [<- hu,List.getD,List.getElem?_eq_getElem hj];rfl
    rw [e,show (⟨b,o,none⟩:Addr).add j=⟨b,o+j,none⟩ by first | rfl | simp [Addr.add]]
    exact (((qK w.heap.size w).alloc (qN _) (qC #[] 3)).cell (p:=⟨b,o+j,none⟩) hb).trans (hc j hj)
  have HCE:=qH hcell;obtain⟨i0,hi0,hz0',hz1',hz2'⟩:=info_parts intInfo;have HI:=qH hi0;have hA:=qH ((qK w.heap.size w).alloc (qN _) (qC #[] 3));have hr:=qH (World.ownsRow_lit (base:=w.heap.size) (e:=3) (size:=1) w #[] 0 (qN _) (by unfold maxLen;omega) (by simp))
  clear hcell hi0 hc;go_enter Tryz.func42,Tryz.ntmps42;go_wp2_with (at_builtin;refine wpList_append_own _ rfl _ _ 29 rfl w.heap.size 3 i0 (.int .i64 0) 1 8 Tryz.underlying29 HI.out hz0' hz1' hz2' rfl (by decide) _ _ _ rfl hr.out ad l.length (l.length+cap) (l.map (Value.int .i64)) rfl (by simp) HCE.out (by intro x hx;obtain⟨y,-,rfl⟩:=List.mem_map.1 hx;rfl) (by unfold maxLen;omega) (by omega) (by simp) ?_;intro v' w2 r2 g2 _)
  rw [Nat.zero_add,List.nil_append] at r2;have B2:=hA.out.trans (Z6b hr.out g2 (qN _) hA.out.size);have P2:=Z8.own r2 (by omega)
  have N2:NewI w.heap.size v':=fun b o n c e=>(r2.lt b (by rw [e];rfl)).1
  go_ret;exact⟨_,rfl,P2,B2,N2⟩
def stgC (m:Msn) (vw vh vr vb va:Value) (k:Nat):Array Value:=#[vw,vh,O qL m.start,vr,O qL m.speed,O qL m.part,O qL m.flow,O qL m.idle,O qL m.drive,O qL m.battery,O qL m.deadline,vb,va,O qL (k:Int)]
structure StgAt (n0:Nat) (W:World) (m:Msn) (l:List Int) (vw vh vr vb va:Value):Prop where
 msn:MsnAt n0 W m vw vh vr
 bef:Z8 n0 W vb (rdBU m l)
 aft:Z8 n0 W va (rdAU m l)
theorem StgAt.up {A B:World} {m:Msn} {l:List Int} {vw vh vr vb va:Value} (h:StgAt A.heap.size A m l vw vh vr vb va) (k:Below A.heap.size A B):StgAt B.heap.size B m l vw vh vr vb va :=
 ⟨(h.msn.below k).mono k.size,(h.bef.below k).mono k.size,(h.aft.below k).mono k.size⟩
theorem ZJ {W:World} {B:Nat} {m:Msn} {vw vh vr vb va:Value} {k:Nat} {T:TypeId} (H:Has W B (stgC m vw vh vr vb va k) T):W.cell? ⟨B,0,none⟩=some (vw)/\W.cell? ⟨B,1,none⟩=some (vh)/\W.cell? ⟨B,2,none⟩=some (O qL m.start)/\W.cell? ⟨B,3,none⟩=some (vr)/\W.cell? ⟨B,4,none⟩=some (O qL m.speed)/\W.cell? ⟨B,5,none⟩=some (O qL m.part)/\W.cell? ⟨B,6,none⟩=some (O qL m.flow)/\W.cell? ⟨B,7,none⟩=some (O qL m.idle)/\W.cell? ⟨B,8,none⟩=some (O qL m.drive)/\W.cell? ⟨B,9,none⟩=some (O qL m.battery)/\W.cell? ⟨B,10,none⟩=some (O qL m.deadline)/\W.cell? ⟨B,11,none⟩=some (vb)/\W.cell? ⟨B,12,none⟩=some (va)/\W.cell? ⟨B,13,none⟩=some (O qL (k:Int)) :=
 ⟨H.cell (i:=0) rfl,H.cell (i:=1) rfl,H.cell (i:=2) rfl,H.cell (i:=3) rfl,H.cell (i:=4) rfl,H.cell (i:=5) rfl,H.cell (i:=6) rfl,H.cell (i:=7) rfl,H.cell (i:=8) rfl,H.cell (i:=9) rfl,H.cell (i:=10) rfl,H.cell (i:=11) rfl,H.cell (i:=12) rfl,H.cell (i:=13) rfl⟩
theorem Z7v {A B C:World} {row:Option Nat} (h:Below A.heap.size A B) (k:B.grownBy C row):A.grownBy C row:=⟨k.os.trans h.os,k.tape.trans h.tape,k.output.trans h.output,Nat.le_trans h.size k.size,fun i hi hne=>(k.block i (Nat.lt_of_lt_of_le hi h.size) hne).trans (h.block i hi)⟩
theorem Z28 {A B C:World} {row:Option Nat} (h:A.grownBy B row) (k:B.grownBy C row):A.grownBy C row:=⟨k.os.trans h.os,k.tape.trans h.tape,k.output.trans h.output,Nat.le_trans h.size k.size,fun i hi hne=>(k.block i (Nat.lt_of_lt_of_le hi h.size) hne).trans (h.block i hi hne)⟩
theorem Z4Z {A B:World} (h:Below A.heap.size A B) (row:Option Nat):A.grownBy B row:=⟨h.os,h.tape,h.output,h.size,fun i hi _=>h.block i hi⟩
theorem ZQ (W:World) (b i:Nat) (v:Value):W.grownBy (W.setCell ⟨b,i,none⟩ v) (some b):=⟨rfl,rfl,rfl,by simp [qU],fun k _ hk=>Below.heap_setCell _ _ _ k (fun e=>hk (by rw [e]))⟩
theorem Z5Q {A B:World} {b n:Nat} (h:A.grownBy B (some b)) (hn:n<=b) (hn2:n<=A.heap.size):Below n A B:=(qK n A).grown h hn2 (fun k e=>by cases e;exact hn)
theorem set14 {X Z:World} {B:Nat} {cs:Array Value} {T:TypeId} {v0 v1 v2 v3 v4 v5 v6 v7 v8 v9 v10 v11 v12 v13:Value} (H:Has X B cs T) (hs:cs.size=14) (hz:((((((((((((((X.setCell ⟨B,0,none⟩ v0).setCell ⟨B,1,none⟩ v1).setCell ⟨B,2,none⟩ v2).setCell ⟨B,3,none⟩ v3).setCell ⟨B,4,none⟩ v4).setCell ⟨B,5,none⟩ v5).setCell ⟨B,6,none⟩ v6).setCell ⟨B,7,none⟩ v7).setCell ⟨B,8,none⟩ v8).setCell ⟨B,9,none⟩ v9).setCell ⟨B,10,none⟩ v10).setCell ⟨B,11,none⟩ v11).setCell ⟨B,12,none⟩ v12).setCell ⟨B,13,none⟩ v13)=Z) :
  Has Z B #[v0,v1,v2,v3,v4,v5,v6,v7,v8,v9,v10,v11,v12,v13] T/\(∀ n,n<=B->Below n X Z)/\Z.heap.size=X.heap.size/\∀ b,b≠B->Z.heap[b]?=X.heap[b]?:=by
 subst hz;obtain⟨l,rfl⟩:∃ l:List Value,cs=l.toArray:=⟨cs.toList,by simp⟩
 obtain⟨u0,u1,u2,u3,u4,u5,u6,u7,u8,u9,u10,u11,u12,u13,rfl⟩:∃ u0 u1 u2 u3 u4 u5 u6 u7 u8 u9 u10 u11 u12 u13,l=[u0,u1,u2,u3,u4,u5,u6,u7,u8,u9,u10,u11,u12,u13]:=by
  match l,hs with
  | [u0,u1,u2,u3,u4,u5,u6,u7,u8,u9,u10,u11,u12,u13],_=>exact⟨_,_,_,_,_,_,_,_,_,_,_,_,_,_,rfl⟩
 refine⟨?_,fun n hn=>?_,by simp,fun b hb=>?_⟩
 ·have:=((((((((((((((H.set 0 v0).set 1 v1).set 2 v2).set 3 v3).set 4 v4).set 5 v5).set 6 v6).set 7 v7).set 8 v8).set 9 v9).set 10 v10).set 11 v11).set 12 v12).set 13 v13)
  simpa only [zq4,zr4,zs4] using this
 ·exact (((((((((((((((qK n X).setCell (p:=⟨B,0,none⟩) hn v0).setCell (p:=⟨B,1,none⟩) hn v1).setCell (p:=⟨B,2,none⟩) hn v2).setCell (p:=⟨B,3,none⟩) hn v3).setCell (p:=⟨B,4,none⟩) hn v4).setCell (p:=⟨B,5,none⟩) hn v5).setCell (p:=⟨B,6,none⟩) hn v6).setCell (p:=⟨B,7,none⟩) hn v7).setCell (p:=⟨B,8,none⟩) hn v8).setCell (p:=⟨B,9,none⟩) hn v9).setCell (p:=⟨B,10,none⟩) hn v10).setCell (p:=⟨B,11,none⟩) hn v11).setCell (p:=⟨B,12,none⟩) hn v12).setCell (p:=⟨B,13,none⟩) hn v13)
 ·iterate 14 (rw [Below.heap_setCell _ _ _ _ (by exact hb)])
theorem Z5f (m:Msn) (l:List Int) (vw vh vr vl:Value) (k:Nat) (w:World) (hm:MsnAt w.heap.size w m vw vh vr) (hl:Z8 w.heap.size w vl l) (hok:radOkB m l=true) :
  Calls Tryz.prog 37 #[.agg (Zc m vw vh vr),vl,O qL (k:Int)] w fun e w'=>∃ vb va,e=qR (.agg (stgC m vw vh vr vb va k))/\StgAt w'.heap.size w' m l vw vh vr vb va/\Below w.heap.size w w'/\NewI w.heap.size vb/\NewI w.heap.size va:=by
 have hvs:validB m=true/\stopsB m l=true:=by simpa [radOkB] using hok
 have f1:=fun w1 (B:Below w.heap.size w w1)=>Z1Y m vw vh vr vl l w1 ((hm.below B).mono B.size) ((hl.below B).mono B.size) hvs.1 hvs.2
 have hmm:=fun w1 (B:Below w.heap.size w w1)=>hm.below B
 obtain⟨⟨-,a1,c1,rfl,-⟩,⟨-,a2,c2,rfl,-⟩,⟨-,a3,c3,rfl,-⟩⟩:=hm;obtain⟨-,al,cl,rfl,-⟩:=hl;unfold Zc UsedN at *;replace f1:=qH f1;replace hmm:=qH hmm;clear hok hvs;have BW:=qH (qK w.heap.size w);go_enter Tryz.func37,Tryz.ntmps37;go_wp2_with fail;generalize hXX0:qV (qV w _) _=X0;obtain⟨q0,q1,hA,hzX0⟩:=box2 hXX0;clear hXX0;have BW:=qH hA;clear hA;have MB:=qH q0;clear q0;have RV:=qH q1;clear q1;have HZX:=qH hzX0;clear hzX0;obtain⟨c0,c1,c2,c3,c4,c5,c6,c7,c8,c9,c10⟩:=Zg (m:=m) MB.out;refine (f1.out _ BW.out).mono ?_;rintro e w1 ⟨vb,va,rfl,p1,p2,b1,n1,n2⟩;replace BW:=zAf BW b1;have B_X0:=qH b1;clear b1;have P1:=qH p1;clear p1;have P2:=qH p2;clear p2;have N1:=qH (show NewI (w.heap.size+1+1) vb from n1.mono (by have:=HZX.out;omega))
 have N2:=qH (show NewI (w.heap.size+1+1) va from n2.mono (by have:=HZX.out;omega))
 clear n1 n2;have MM:=qH (hmm.out _ BW.out);obtain⟨-,ab,cb,hvb,-⟩:=P1.out;subst hvb;obtain⟨-,aa,ca,hva,-⟩:=P2.out;subst hva;clear c0 c1 c2 c3 c4 c5 c6 c7 c8 c9 c10;obtain⟨c0,c1,c2,c3,c4,c5,c6,c7,c8,c9,c10⟩:=Zg (m:=m) (zCl MB B_X0);have hR:=(zCl RV B_X0);have ltR:=hR.lt;have r0:=hR.cell (i:=0) rfl;have z0:=Ze hR 0;have r1:=hR.cell (i:=1) rfl;have z1:=Ze hR 1;have r2:=hR.cell (i:=2) rfl;have z2:=Ze hR 2;have r3:=hR.cell (i:=3) rfl;have z3:=Ze hR 3;have r4:=hR.cell (i:=4) rfl;have z4:=Ze hR 4;have r5:=hR.cell (i:=5) rfl;have z5:=Ze hR 5;have r6:=hR.cell (i:=6) rfl;have z6:=Ze hR 6;have r7:=hR.cell (i:=7) rfl;have z7:=Ze hR 7;have r8:=hR.cell (i:=8) rfl;have z8:=Ze hR 8;have r9:=hR.cell (i:=9) rfl;have z9:=Ze hR 9;have r10:=hR.cell (i:=10) rfl;have z10:=Ze hR 10;have r11:=hR.cell (i:=11) rfl;have z11:=Ze hR 11;have r12:=hR.cell (i:=12) rfl;have z12:=Ze hR 12;have r13:=hR.cell (i:=13) rfl;have z13:=Ze hR 13;have HR:=qH hR;clear hR;go_wp2;clear r0 z0 r1 z1 r2 z2 r3 z3 r4 z4 r5 z5 r6 z6 r7 z7 r8 z8 r9 z9 r10 z10 r11 z11 r12 z12 r13 z13;generalize hZ:qU (qU (qU (qU (qU (qU (qU (qU (qU (qU (qU (qU (qU (qU w1 _ _) _ _) _ _) _ _) _ _) _ _) _ _) _ _) _ _) _ _) _ _) _ _) _ _) _ _=Z;obtain⟨HZ,hl2,hs2,he2⟩:=set14 HR.out rfl hZ;clear hZ;have hg9:w1.grownBy Z (some (w.heap.size+1)):=⟨(hl2 0 (Nat.zero_le _)).os,(hl2 0 (Nat.zero_le _)).tape,(hl2 0 (Nat.zero_le _)).output,by omega,fun i _ hne=>he2 i (fun e=>hne (by rw [e]))⟩
 have r0:=HZ.cell (i:=0) rfl;have r1:=HZ.cell (i:=1) rfl;have r2:=HZ.cell (i:=2) rfl;have r3:=HZ.cell (i:=3) rfl;have r4:=HZ.cell (i:=4) rfl;have r5:=HZ.cell (i:=5) rfl;have r6:=HZ.cell (i:=6) rfl;have r7:=HZ.cell (i:=7) rfl;have r8:=HZ.cell (i:=8) rfl;have r9:=HZ.cell (i:=9) rfl;have r10:=HZ.cell (i:=10) rfl;have r11:=HZ.cell (i:=11) rfl;have r12:=HZ.cell (i:=12) rfl;have r13:=HZ.cell (i:=13) rfl;have off:∀ {v:Value} {l:List Int},Z8 w1.heap.size w1 v l->NewI (w.heap.size+1+1) v->Z8 Z.heap.size Z v l:=fun h n=>Z8.offG h hg9 (fun r e=>by
  obtain⟨_,a,cap,e1,hc⟩:=h;rcases hc with hc | ⟨b,o,e3,hb,-⟩
  ·exact .inl hc
  ·refine .inr fun e2=>?_
   have:=n b o _ _ (by rw [e1,e3])
   rw [e1,e3] at e2;simp [Value.ownBlock] at e2;cases e;omega)
 have MM9:=(MM.out.below (hl2 w.heap.size (by omega))).mono (show w.heap.size<=Z.heap.size by omega)
 exact bodyPost_ret (v:=.agg (stgC m _ _ _ _ _ k)) (by simp [results,stgC,Tryz.f37,go_sem,r0,r1,r2,r3,r4,r5,r6,r7,r8,r9,r10,r11,r12,r13]) rfl ⟨_,_,rfl,⟨MM9,off P1.out N1.out,off P2.out N2.out⟩,BW.out.trans (hl2 _ (by omega)),N1.out.mono (by omega),N2.out.mono (by omega)⟩
noncomputable def ownC (m:Msn) (l:List Int) (k:Nat):List Pt:=corL (atW m k) (rdA m l k) (atW m (k+1)) (rdB m l (k+1))
theorem Z78 (m:Msn) (l:List Int) (vw vh vr vb va:Value) (w:World) (T:StgAt w.heap.size w m l vw vh vr vb va) (k:Nat) (hk:k+1<m.ways.length) (n41:m.ways.length<=41) :
  Calls Tryz.prog 78 #[.agg (stgC m vw vh vr vb va k)] w (PtsQ (ownC m l k) w):=by
 have f1:=fun w1=>Z0s ⟨(wy m.ways k).x,(wy m.ways k).y⟩ ⟨(wy m.ways (k+1)).x,(wy m.ways (k+1)).y⟩ (rdA m l k) (rdB m l (k+1)) w1
 unfold ownC atW PtsQ;obtain⟨bb,ob,cb,rfl,hbb,hcb⟩:=ZG T.bef (by rw [ZF];omega)
 obtain⟨ba,oa,ca,rfl,hba,hca⟩:=ZG T.aft (by rw [Z0v];omega)
 have z1:=(hca k (by rw [Z0v];omega)).trans (by rw [Z4J (by omega)])
 have z2:=(hcb (k+1) (by rw [ZF];omega)).trans (by rw [Z1u hk])
 simp only [ZF,Z0v] at *;obtain⟨⟨-,a1,c1,rfl,hcw⟩,⟨-,a2,c2,rfl,-⟩,⟨-,a3,c3,rfl,hcr⟩⟩:=T.msn;obtain⟨bw,ow,rfl,hbw,hcw⟩:=hcw.resolve_left (by intro h;rw [h] at hk;simp at hk)
 obtain⟨x1,x2,-⟩:=hcw k (by omega)
 obtain⟨x3,x4,-⟩:=hcw (k+1) hk;clear T hcw hcr hcb hca;unfold stgC at *;generalize corL ⟨(wy m.ways k).x,(wy m.ways k).y⟩ (rdA m l k) ⟨(wy m.ways (k+1)).x,(wy m.ways (k+1)).y⟩ (rdB m l (k+1))=cl at *;generalize corE ⟨(wy m.ways k).x,(wy m.ways k).y⟩ (rdA m l k) ⟨(wy m.ways (k+1)).x,(wy m.ways (k+1)).y⟩ (rdB m l (k+1))=ce at *
 try simp only at f1
 generalize rdA m l k=ra at *;generalize rdB m l (k+1)=rb at *;obtain⟨K,hK⟩:∃ K,k+1=K:=⟨_,rfl⟩;have jw:qW qL ((k:Int)+1)=(K:Int):=by rw [<- hK];exact zW2
 simp only [hK] at x3 x4 z2 hk f1;generalize (wy m.ways k).x=px at *;generalize (wy m.ways k).y=py at *;generalize (wy m.ways K).x=qx at *;generalize (wy m.ways K).y=qy at *;replace f1:=qH f1;have hk':(k:Int)<m.ways.length:=by omega
 have hK':(K:Int)<m.ways.length:=by omega
 have hk0:(0:Int)<=k:=by omega
 have hK0:(0:Int)<=K:=by omega
 have hkn:k<m.ways.length:=by omega
 have BW:=qH (qK w.heap.size w);go_enter Tryz.func78,Tryz.ntmps78;go_upto_region 1 with fail
 generalize hXX0:qV w _=X0;obtain⟨q0,hA,hzX0⟩:=box1 hXX0;clear hXX0;have BW:=qH hA;clear hA;have RB:=qH q0;clear q0 hzX0;replace x1:=(BW.out.cell (p:=⟨bw,ow+k*5,none⟩) hbw).trans x1;replace x2:=(BW.out.cell (p:=⟨bw,ow+k*5+1,none⟩) hbw).trans x2;replace x3:=(BW.out.cell (p:=⟨bw,ow+K*5,none⟩) hbw).trans x3;replace x4:=(BW.out.cell (p:=⟨bw,ow+K*5+1,none⟩) hbw).trans x4;replace z1:=(BW.out.cell (p:=⟨ba,oa+k,none⟩) hba).trans z1;replace z2:=(BW.out.cell (p:=⟨bb,ob+K,none⟩) hbb).trans z2;have y0:X0.cell? ⟨w.heap.size,0,none⟩=some (qS (some ⟨bw,ow,none⟩) m.ways.length (m.ways.length+c1)):=RB.out.cell (i:=0) rfl;have y11:X0.cell? ⟨w.heap.size,11,none⟩=some (qS (some ⟨bb,ob,none⟩) m.ways.length (m.ways.length+cb)):=RB.out.cell (i:=11) rfl;have y12:X0.cell? ⟨w.heap.size,12,none⟩=some (qS (some ⟨ba,oa,none⟩) m.ways.length (m.ways.length+ca)):=RB.out.cell (i:=12) rfl;have y13:X0.cell? ⟨w.heap.size,13,none⟩=some (O qL (k:Int)):=RB.out.cell (i:=13) rfl;refine (wpIn_wide (n:=9)).1 ?_;refine Zi (Zk _) 35 (fun X=>Below X0.heap.size X0 X) (by kernel_rfl) (by kernel_rfl) (by kernel_rfl) fun hH inv0=>?_
 have hD:=Below.drew (qK X0.heap.size X0);generalize hXX1:X0.drew=X1 at *;clear hXX1;replace BW:=zAf BW hD;have B_X0:=qH hD;clear hD;refine sk hH (i:=0) (v:=qP (some ⟨w.heap.size,0,none⟩)) (Zd rfl) inv0 (fun X hX=>?_) fun inv1=>?_
 ·go_simp
 simp only [qJ,zq4,zr4,zs4];clear inv0;refine sk hH (i:=1) (v:=qP (some ⟨w.heap.size,0,none⟩)) (Zd rfl) inv1 (fun X hX=>?_) fun inv2=>?_
 ·go_simp
 simp only [qJ,zq4,zr4,zs4];clear inv1;refine sk hH (i:=2) (v:=qS (some ⟨bw,ow,none⟩) m.ways.length (m.ways.length+c1)) (Zd rfl) inv2 (fun X hX=>?_) fun inv3=>?_
 ·have r0:=(hX.cell (p:=⟨w.heap.size,0,none⟩) (qO _ _ y0)).trans y0;go_simp
 simp only [qJ,zq4,zr4,zs4];clear inv2;refine sk hH (i:=3) (v:=qP (some ⟨w.heap.size,13,none⟩)) (Zd rfl) inv3 (fun X hX=>?_) fun inv4=>?_
 ·go_simp
 simp only [qJ,zq4,zr4,zs4];clear inv3;refine sk hH (i:=4) (v:=O qL (k:Int)) (Zd rfl) inv4 (fun X hX=>?_) fun inv5=>?_
 ·have r0:=(hX.cell (p:=⟨w.heap.size,13,none⟩) (qO _ _ y13)).trans y13;go_simp
 simp only [qJ,zq4,zr4,zs4];clear inv4;refine sk hH (i:=5) (v:=qP (some ⟨bw,ow+k*5,none⟩)) (Zd rfl) inv5 (fun X hX=>?_) fun inv6=>?_
 ·go_simp
 simp only [qJ,zq4,zr4,zs4];clear inv5;refine sk hH (i:=6) (v:=qP (some ⟨bw,ow+k*5,none⟩)) (Zd rfl) inv6 (fun X hX=>?_) fun inv7=>?_
 ·go_simp
 simp only [qJ,zq4,zr4,zs4];clear inv6;refine sk hH (i:=7) (v:=.agg #[O qL px,O qL py]) (Zd rfl) inv7 (fun X hX=>?_) fun inv8=>?_
 ·have r0:=(hX.cell (p:=⟨bw,ow+k*5,none⟩) (qO _ _ x1)).trans x1;have r1:=(hX.cell (p:=⟨bw,ow+k*5+1,none⟩) (qO _ _ x2)).trans x2;go_simp
 simp only [qJ,zq4,zr4,zs4];clear inv7;refine sk hH (i:=8) (v:=qP (some ⟨w.heap.size,12,none⟩)) (Zd rfl) inv8 (fun X hX=>?_) fun inv9=>?_
 ·go_simp
 simp only [qJ,zq4,zr4,zs4];clear inv8;refine sk hH (i:=9) (v:=qS (some ⟨ba,oa,none⟩) m.ways.length (m.ways.length+ca)) (Zd rfl) inv9 (fun X hX=>?_) fun inv10=>?_
 ·have r0:=(hX.cell (p:=⟨w.heap.size,12,none⟩) (qO _ _ y12)).trans y12;go_simp
 simp only [qJ,zq4,zr4,zs4];clear inv9;refine sk hH (i:=10) (v:=qP (some ⟨w.heap.size,13,none⟩)) (Zd rfl) inv10 (fun X hX=>?_) fun inv11=>?_
 ·go_simp
 simp only [qJ,zq4,zr4,zs4];clear inv10;refine sk hH (i:=11) (v:=O qL (k:Int)) (Zd rfl) inv11 (fun X hX=>?_) fun inv12=>?_
 ·have r0:=(hX.cell (p:=⟨w.heap.size,13,none⟩) (qO _ _ y13)).trans y13;go_simp
 simp only [qJ,zq4,zr4,zs4];clear inv11;refine sk hH (i:=12) (v:=qP (some ⟨ba,oa+k,none⟩)) (Zd rfl) inv12 (fun X hX=>?_) fun inv13=>?_
 ·go_simp
 simp only [qJ,zq4,zr4,zs4];clear inv12;refine sk hH (i:=13) (v:=O qL ra) (Zd rfl) inv13 (fun X hX=>?_) fun inv14=>?_
 ·have r0:=(hX.cell (p:=⟨ba,oa+k,none⟩) (qO _ _ z1)).trans z1;go_simp
 simp only [qJ,zq4,zr4,zs4];clear inv13;refine sk hH (i:=14) (v:=qP (some ⟨w.heap.size,0,none⟩)) (Zd rfl) inv14 (fun X hX=>?_) fun inv15=>?_
 ·go_simp
 simp only [qJ,zq4,zr4,zs4];clear inv14;refine sk hH (i:=15) (v:=qP (some ⟨w.heap.size,0,none⟩)) (Zd rfl) inv15 (fun X hX=>?_) fun inv16=>?_
 ·go_simp
 simp only [qJ,zq4,zr4,zs4];clear inv15;refine sk hH (i:=16) (v:=qS (some ⟨bw,ow,none⟩) m.ways.length (m.ways.length+c1)) (Zd rfl) inv16 (fun X hX=>?_) fun inv17=>?_
 ·have r0:=(hX.cell (p:=⟨w.heap.size,0,none⟩) (qO _ _ y0)).trans y0;go_simp
 simp only [qJ,zq4,zr4,zs4];clear inv16;refine sk hH (i:=17) (v:=qP (some ⟨w.heap.size,13,none⟩)) (Zd rfl) inv17 (fun X hX=>?_) fun inv18=>?_
 ·go_simp
 simp only [qJ,zq4,zr4,zs4];clear inv17;refine sk hH (i:=18) (v:=O qL (k:Int)) (Zd rfl) inv18 (fun X hX=>?_) fun inv19=>?_
 ·have r0:=(hX.cell (p:=⟨w.heap.size,13,none⟩) (qO _ _ y13)).trans y13;go_simp
 simp only [qJ,zq4,zr4,zs4];clear inv18;refine sk hH (i:=19) (v:=O qL (K:Int)) (Zd rfl) inv19 (fun X hX=>?_) fun inv20=>?_
 ·go_simp
 simp only [qJ,zq4,zr4,zs4];clear inv19;refine sk hH (i:=20) (v:=qP (some ⟨bw,ow+K*5,none⟩)) (Zd rfl) inv20 (fun X hX=>?_) fun inv21=>?_
 ·go_simp
 simp only [qJ,zq4,zr4,zs4];clear inv20;refine sk hH (i:=21) (v:=qP (some ⟨bw,ow+K*5,none⟩)) (Zd rfl) inv21 (fun X hX=>?_) fun inv22=>?_
 ·go_simp
 simp only [qJ,zq4,zr4,zs4];clear inv21;refine sk hH (i:=22) (v:=.agg #[O qL qx,O qL qy]) (Zd rfl) inv22 (fun X hX=>?_) fun inv23=>?_
 ·have r0:=(hX.cell (p:=⟨bw,ow+K*5,none⟩) (qO _ _ x3)).trans x3;have r1:=(hX.cell (p:=⟨bw,ow+K*5+1,none⟩) (qO _ _ x4)).trans x4;go_simp
 simp only [qJ,zq4,zr4,zs4];clear inv22;refine sk hH (i:=23) (v:=qP (some ⟨w.heap.size,11,none⟩)) (Zd rfl) inv23 (fun X hX=>?_) fun inv24=>?_
 ·go_simp
 simp only [qJ,zq4,zr4,zs4];clear inv23;refine sk hH (i:=24) (v:=qS (some ⟨bb,ob,none⟩) m.ways.length (m.ways.length+cb)) (Zd rfl) inv24 (fun X hX=>?_) fun inv25=>?_
 ·have r0:=(hX.cell (p:=⟨w.heap.size,11,none⟩) (qO _ _ y11)).trans y11;go_simp
 simp only [qJ,zq4,zr4,zs4];clear inv24;refine sk hH (i:=25) (v:=qP (some ⟨w.heap.size,13,none⟩)) (Zd rfl) inv25 (fun X hX=>?_) fun inv26=>?_
 ·go_simp
 simp only [qJ,zq4,zr4,zs4];clear inv25;refine sk hH (i:=26) (v:=O qL (k:Int)) (Zd rfl) inv26 (fun X hX=>?_) fun inv27=>?_
 ·have r0:=(hX.cell (p:=⟨w.heap.size,13,none⟩) (qO _ _ y13)).trans y13;go_simp
 simp only [qJ,zq4,zr4,zs4];clear inv26;refine sk hH (i:=27) (v:=O qL (K:Int)) (Zd rfl) inv27 (fun X hX=>?_) fun inv28=>?_
 ·go_simp
 simp only [qJ,zq4,zr4,zs4];clear inv27;refine sk hH (i:=28) (v:=qP (some ⟨bb,ob+K,none⟩)) (Zd rfl) inv28 (fun X hX=>?_) fun inv29=>?_
 ·go_simp
 simp only [qJ,zq4,zr4,zs4];clear inv28;refine sk hH (i:=29) (v:=O qL rb) (Zd rfl) inv29 (fun X hX=>?_) fun inv30=>?_
 ·have r0:=(hX.cell (p:=⟨bb,ob+K,none⟩) (qO _ _ z2)).trans z2;go_simp
 simp only [qJ,zq4,zr4,zs4];clear inv29;have inv31:=HeadInv.put2 inv30 (j:=30) (by kernel_rfl) (by omega)
 clear inv30;refine sa1 (r:=30) B_X0.out ?_;refine Zr (Zd rfl) rfl (f:=44) (args:=#[.agg #[O qL px,O qL py],O qL ra,.agg #[O qL qx,O qL qy],O qL rb]) (by go_simp) (f1.out X1) ?_
 rintro e w1 ⟨v1,rfl,p1,b1⟩;refine⟨_,rfl,?_⟩;simp only [qJ,zq4,zr4,zs4];replace BW:=zAf BW b1;replace B_X0:=zAf B_X0 b1;clear b1;have P1:=qH p1;clear p1;refine sk hH (i:=31) (v:=.tuple #[v1,O qL ce]) (Zd rfl) inv31 (fun X hX=>?_) fun inv32=>?_
 ·go_simp
 simp only [qJ,zq4,zr4,zs4];clear inv31;refine sk hH (i:=32) (v:=v1) (Zd rfl) inv32 (fun X hX=>?_) fun inv33=>?_
 ·go_simp
 simp only [qJ,zq4,zr4,zs4];clear inv32;refine sk hH (i:=33) (v:=O qL ce) (Zd rfl) inv33 (fun X hX=>?_) fun inv34=>?_
 ·go_simp
 simp only [qJ,zq4,zr4,zs4];clear inv33;refine sk hH (i:=34) (v:=v1) (Zd rfl) inv34 (fun X hX=>?_) fun inv35=>?_
 ·go_simp
 simp only [qJ,zq4,zr4,zs4];clear inv34 inv35 hH;refine Zm (by kernel_rfl) B_X0.out ?_
 simp only [List.drop_succ_cons,List.drop_zero];obtain⟨g1,d1,hv1⟩:=P1.out.len;subst hv1;clear x1 x2 x3 x4 z1 z2 y0 y11 y12 y13;gi_wp2;go_wp2;go_ret;exact⟨_,rfl,P1.out,BW.out⟩
theorem Z3a (m:Msn) (vw vh vr vb va:Value) (k:Nat) (w:World) :
  Calls Tryz.prog 79 #[.agg (stgC m vw vh vr vb va k)] w fun e w'=>e=qR (.func (.func 141) #[] #[qP (some ⟨w.heap.size,0,none⟩)])/\w'=w.alloc (qC (stgC m vw vh vr vb va k) 81):=by
 unfold stgC;go_enter Tryz.func79,Tryz.ntmps79;go_wp2;go_ret;exact⟨rfl,rfl⟩
theorem Z1t (v:Value) (p:List Pt) (x:Pt) (w:World) (hp:Z7 w.heap.size w v p) :
  Calls Tryz.prog 81 #[v,.agg #[O qL x.x,O qL x.y]] w fun e w'=>e=qR (.bool (hasB p x))/\Below w.heap.size w w':=by
 have f1:=fun w1 (B:Below w.heap.size w w1)=>Z9P v p x w1 ((hp.below B).mono B.size)
 obtain⟨ap,cp,rfl⟩:=hp.len;generalize hasB p x=b1 at *;generalize hasE p x=b2 at *;obtain⟨px,py⟩:=x;simp only at f1 ⊢;replace f1:=qH f1;clear hp;have BW:=qH (qK w.heap.size w);go_enter Tryz.func81,Tryz.ntmps81;go_wp2_with fail;generalize hXX0:qV w _=X0;obtain⟨q0,hA,hzX0⟩:=box1 hXX0;clear hXX0;have BW:=qH hA;clear hA;have XB:=qH q0;clear q0;refine (f1.out _ BW.out).mono ?_;rintro e w1 ⟨rfl,b1⟩;replace BW:=zAf BW b1;have B_X0:=qH b1;clear b1;go_wp2;go_ret;exact⟨rfl,BW.out⟩
theorem fir_at {c : List Pt} {ls : List (List Pt)} (h : firB c ls = true) : ∃ i : Nat, firI c ls = i /\ i < ls.length := by
 unfold firB at h;unfold firI;by_cases hc:ls.length<=100/\okRocks c ls=true
 ·rw [if_pos hc] at h ⊢
  have key:∀ n i,hitTo c ls n=some i->i<n:=by
   intro n
   induction n with
   | zero=>intro i h;simp [hitTo] at h
   | succ n ih =>
    intro i h;simp only [hitTo] at h
    split at h
    ·exact Nat.lt_succ_of_lt (ih i h)
    ·split at h
     ·cases h;exact Nat.lt_succ_self _
     ·cases h
  cases he:hitTo c ls ls.length with
  | none=>rw [he] at h;cases h
  | some i=>exact⟨i,rfl,key _ _ he⟩
 ·rw [if_neg hc] at h;cases h
theorem Zc3 (m:Msn) (l:List Int) (vw vh vr vb va:Value) (w:World) (T:StgAt w.heap.size w m l vw vh vr vb va) (k:Nat) (vp:Value) (p:List Pt) (hp:Z7 w.heap.size w vp p) (Bo:Nat) (vs:Value) (q1 q2 q3 q4 q5:Int) (HO:Has w Bo #[vs,O qL q1,O qL q2,O qL q3,O qL q4,O qL q5] 38) (hf:firB p m.rocks=false) :
  Calls Tryz.prog 77 #[.agg (stgC m vw vh vr vb va k),vp,qP (some ⟨Bo,0,none⟩)] w fun e w'=>e=qR (.tuple #[.bool false,O qL 0])/\Below w.heap.size w w':=by
 have f1:=fun w1 (B:Below w.heap.size w w1)=>Z1i vp vr p m.rocks w1 ((hp.below B).mono B.size) ((T.msn.2.2.below B).mono B.size)
 rw [hf] at f1;obtain⟨ap,cp,rfl⟩:=hp.len;obtain⟨-,ab,cb,rfl,-⟩:=T.bef;obtain⟨-,aa,ca,rfl,-⟩:=T.aft;obtain⟨⟨-,a1,c1,rfl,hcw⟩,⟨-,a2,c2,rfl,-⟩,⟨-,a3,c3,rfl,hcr⟩⟩:=T.msn;generalize firE p m.rocks=e1 at *;generalize firI p m.rocks=i1 at *;unfold stgC at *;replace f1:=qH f1;clear T hp HO hcr hcw;have BW:=qH (qK w.heap.size w);go_enter Tryz.func77,Tryz.ntmps77;go_wp2_with fail;generalize hXX0:qV w _=X0;obtain⟨q0,hA,hzX0⟩:=box1 hXX0;clear hXX0;have BW:=qH hA;clear hA;have SB:=qH q0;clear q0 hzX0;have s3:=SB.out.cell (i:=3) rfl;refine (f1.out _ BW.out).mono ?_;rintro e w1 ⟨rfl,b1⟩;replace BW:=zAf BW b1;have B_X0:=qH b1;clear b1 s3;have s3:=(zCl SB B_X0).cell (i:=3) rfl;clear s3;go_wp2;go_ret2;exact⟨rfl,BW.out⟩
theorem Z7a (m:Msn) (l:List Int) (vw vh vr vb va:Value) (w:World) (T:StgAt w.heap.size w m l vw vh vr vb va) (k:Nat) (vp:Value) (p:List Pt) (hp:Z7 w.heap.size w vp p) (Bo:Nat) (vs:Value) (q1 q2 q3 q4 q5:Int) (HO:Has w Bo #[vs,O qL q1,O qL q2,O qL q3,O qL q4,O qL q5] 38) (hf:firB p m.rocks=true) :
  Calls Tryz.prog 77 #[.agg (stgC m vw vh vr vb va k),vp,qP (some ⟨Bo,0,none⟩)] w fun e w'=>e=qR (.tuple #[.bool true,O qL (hitE p (rk m.rocks (firI p m.rocks).toNat))])/\Has w' Bo #[vs,O qL q1,O qL q2,O qL (firI p m.rocks),O qL (hitX p (rk m.rocks (firI p m.rocks).toNat)),O qL (hitY p (rk m.rocks (firI p m.rocks).toNat))] 38/\w.grownBy w' (some Bo):=by
 have f1:=fun w1 (B:Below w.heap.size w w1)=>Z1i vp vr p m.rocks w1 ((hp.below B).mono B.size) ((T.msn.2.2.below B).mono B.size)
 rw [hf] at f1;have f2:=fun vq q w1 (B:Below w.heap.size w w1) hq=>Zcp vp vq p q w1 ((hp.below B).mono B.size) hq
 obtain⟨i,hi1,hi2⟩:=fir_at hf;rw [hi1] at f1 ⊢;rw [Int.toNat_natCast];obtain⟨ap,cp,rfl⟩:=hp.len;obtain⟨-,ab,cb,rfl,-⟩:=T.bef;obtain⟨-,aa,ca,rfl,-⟩:=T.aft;obtain⟨⟨-,a1,c1,rfl,hcw⟩,⟨-,a2,c2,rfl,-⟩,⟨-,a3,c3,rfl,hcr⟩⟩:=T.msn;obtain⟨br,or',rfl,hbr,hcr⟩:=hcr.resolve_left (by intro h;rw [h] at hi2;simp at hi2)
 obtain⟨u,xu,pu⟩:=hcr i hi2;obtain⟨au,cu,rfl⟩:=pu.len;have hi2':(i:Int)<m.rocks.length:=by omega
 have hi0:(0:Int)<=i:=by omega
 replace f2:=fun w1 (B:Below w.heap.size w w1)=>f2 _ (rk m.rocks i) w1 B ((pu.below B).mono B.size)
 generalize hitX p (rk m.rocks i)=hx at *;generalize hitY p (rk m.rocks i)=hy at *;generalize hitB p (rk m.rocks i)=hb' at *;generalize hitE p (rk m.rocks i)=he at *;replace f2:=qH f2;have hlo:=HO.lt;have HOB:=qH (fun w1 (B:Below w.heap.size w w1)=>HO.below B hlo)
 generalize firE p m.rocks=e1 at *
 skip
 unfold stgC at *;replace f1:=qH f1;clear T hp HO hcr hcw pu;have BW:=qH (qK w.heap.size w);go_enter Tryz.func77,Tryz.ntmps77;go_wp2_with fail;generalize hXX0:qV w _=X0;obtain⟨q0,hA,hzX0⟩:=box1 hXX0;clear hXX0;have BW:=qH hA;clear hA;have SB:=qH q0;clear q0 hzX0;have s3:=SB.out.cell (i:=3) rfl;refine (f1.out _ BW.out).mono ?_;rintro e w1 ⟨rfl,b1⟩;replace BW:=zAf BW b1;have B_X0:=qH b1;clear b1 s3;have s3:=(zCl SB B_X0).cell (i:=3) rfl;have xu1:=(BW.out.cell (p:=⟨br,or'+i,none⟩) hbr).trans xu;go_wp2_with fail;refine (f2.out _ BW.out).mono ?_;rintro e w2 ⟨rfl,b2⟩;replace BW:=zAf BW b2;replace B_X0:=zAf B_X0 b2;clear b2 s3 xu1;have zw2:=BW.out.size;go_upto_region 5 with fail
 generalize hXX3:qV w2 _=X3;obtain⟨q0,hA,hzX3⟩:=box1 hXX3;clear hXX3;replace BW:=zAf BW hA;replace B_X0:=zAf B_X0 hA;clear hA;have XB:=qH q0;clear q0;have HOX:=HOB.out _ BW.out;have lox:=HOX.lt;clear hzX3;have hne:w2.heap.size≠Bo:=by omega
 have XBX:=XB.out;refine (wpIn_wide (n:=9)).1 ?_;refine Zi (Zk _) 9 (fun X=>Has X w2.heap.size #[O qL hx,O qL hy] 36) (by kernel_rfl) (by kernel_rfl) (by kernel_rfl) fun hH inv0=>?_
 refine sk hH (i:=0) (v:=qP (some ⟨Bo,0,none⟩)) (Zd rfl) inv0 (fun X hX=>?_) fun inv1=>?_
 ·go_simp
 simp only [qJ,zq4,zr4,zs4];clear inv0;refine sk hH (i:=1) (v:=qP (some ⟨Bo,0,none⟩)) (Zd rfl) inv1 (fun X hX=>?_) fun inv2=>?_
 ·go_simp
 simp only [qJ,zq4,zr4,zs4];clear inv1;refine sk hH (i:=2) (v:=O qL (i:Int)) (Zd rfl) inv2 (fun X hX=>?_) fun inv3=>?_
 ·go_simp
 simp only [qJ,zq4,zr4,zs4];clear inv2;refine sk hH (i:=3) (v:=.agg #[O qL hx,O qL hy]) (Zd rfl) inv3 (fun X hX=>?_) fun inv4=>?_
 ·have r0:=hX.cell (i:=0) rfl;have r1:=hX.cell (i:=1) rfl;go_simp
 simp only [qJ,zq4,zr4,zs4];clear inv3;refine sk hH (i:=4) (v:=qP (some ⟨Bo,0,none⟩)) (Zd rfl) inv4 (fun X hX=>?_) fun inv5=>?_
 ·go_simp
 simp only [qJ,zq4,zr4,zs4];clear inv4;refine sk hH (i:=5) (v:=qP (some ⟨Bo,3,none⟩)) (Zd rfl) inv5 (fun X hX=>?_) fun inv6=>?_
 ·go_simp
 simp only [qJ,zq4,zr4,zs4];clear inv5;have hS0:Has X3.drew w2.heap.size #[O qL hx,O qL hy] 36:=XBX;have hO0:Has X3.drew Bo _ 38:=HOX;have hD0:w.grownBy X3.drew (some Bo):=Z4Z (BW.out.trans ((Below.drew (qK _ _)).mono BW.out.size)) _;generalize X3.drew=XD at *;have inv7:=HeadInv.put2 inv6 (j:=6) (by kernel_rfl) (by omega)
 clear inv6;refine ZB (rs:=[6]) (by kernel_rfl) (by simp) hS0 (by simp) (fun i' hi'=>?_)
 simp only [List.mem_cons,List.not_mem_nil,or_false] at hi';subst hi';have r1:=hO0.cell (i:=3) rfl;have r2:=Ze hO0 3;refine ZY (Zd rfl) rfl (w':=XD.setCell ⟨Bo,3,none⟩ (O qL (i:Int))) (by go_simp) ?_
 simp only [qJ,zq4,zr4,zs4];have hO1:=hO0.set 3 (O qL (i:Int));have hS1:Has (XD.setCell ⟨Bo,3,none⟩ (O qL (i:Int))) w2.heap.size #[O qL hx,O qL hy] 36:=(Below.heap_setCell XD ⟨Bo,3,none⟩ _ w2.heap.size hne).trans hS0;have hD1:=Z28 hD0 (ZQ XD Bo 3 (O qL (i:Int)));simp only [zq4,zr4,zs4] at hO1;clear r1 r2 hO0 hS0 hD0;generalize XD.setCell ⟨Bo,3,none⟩ (O qL (i:Int))=XE at *;refine sk hH (i:=7) (v:=qP (some ⟨Bo,0,none⟩)) (Zd rfl) inv7 (fun X hX=>?_) fun inv8=>?_
 ·go_simp
 simp only [qJ,zq4,zr4,zs4];clear inv7;refine sk hH (i:=8) (v:=qP (some ⟨Bo,4,none⟩)) (Zd rfl) inv8 (fun X hX=>?_) fun inv9=>?_
 ·go_simp
 simp only [qJ,zq4,zr4,zs4];clear inv8 inv9 hH;have r3:=hO1.cell (i:=4) rfl;have r4:=Ze hO1 4;have r5:=hO1.cell (i:=5) rfl;have r6:=Ze hO1 5;refine Zm (by kernel_rfl) hS1 ?_
 simp only [List.drop_succ_cons,List.drop_zero];gi_wp2;clear r3 r4 r5 r6;have hO2:=(hO1.set 4 (O qL hx)).set 5 (O qL hy);have hD2:=Z28 (Z28 hD1 (ZQ XE Bo 4 (O qL hx))) (ZQ (XE.setCell ⟨Bo,4,none⟩ (O qL hx)) Bo 5 (O qL hy));simp only [zq4,zr4,zs4] at hO2;generalize qU (qU XE _ _) _ _=XF at *;have HX:=qH (And.intro hO2 hD2);clear hO2 hD2 hO1 hS1 hD1;go_wp2;go_ret2;exact⟨rfl,HX.out⟩
end
end Go.Proofs.YthipcinibldgnaaGreat
