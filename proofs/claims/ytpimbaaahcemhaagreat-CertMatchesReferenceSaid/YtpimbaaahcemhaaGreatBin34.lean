/- package cert: before. | rows of passages that grow; slices.Clone of integers. | The head of the laws of layer 32. (Printed by tools/mkhead32.py.) | .. -/
import Derived.Test.YtpimbaaahcemhaaGreatBin32
import Derived.Lib.SliceRun
import Derived.ArgAppend
import Derived.Test.YtpimbaaahcemhaaGreatBin33
set_option linter.unusedSimpArgs false
set_option linter.unusedVariables false
set_option maxRecDepth 8000
set_option maxHeartbeats 6400000
namespace Go.Proofs.YtpimbaaahcemhaaGreat
section
open Go.RowKit
theorem zTy {p:Prop} [Decidable p] (h:p:=by omega):decide p=true:=decide_eq_true h
theorem zFy {p:Prop} [Decidable p] (h:¬p:=by omega):decide p=false:=decide_eq_false h
end
section
attribute [local irreducible] wpQuiet
open Go.RowKit
theorem Z0O {m:Msn} {c:Crt} (h:frmB m c=true):radOkB m c.stops=true∧c.psg.length=m.ways.length-1∧c.ret.length=m.ways.length-1∧∀ j,j<c.psg.length→okP c j=true:=by
 unfold frmB at h;simp only [Bool.and_eq_true,decide_eq_true_eq] at h;exact⟨h.1.1.1,h.1.1.2,h.1.2,h.2⟩
theorem Z0K {c:Crt} {j:Nat} (h:okP c j=true):Zc (pgd c.psg j).cor=true∧(0≤(pgd c.psg j).fr∧(pgd c.psg j).fr≤100000)∧(0≤(pgd c.psg j).tw∧(pgd c.psg j).tw≤100000)∧(0≤(pgd c.psg j).tm∧(pgd c.psg j).tm≤1000000000)∧(0≤(pgd c.psg j).en∧(pgd c.psg j).en≤1000000000)∧(0≤c.ret.getD j 0∧c.ret.getD j 0≤1000000000):=by
 unfold okP wthB at h;simp only [Bool.and_eq_true,decide_eq_true_eq] at h;exact h
theorem Z8t (m:Msn) (vw vh vr:Value) (c:Crt) (vs vp ve:Value) (w:World) (hm:MsnAt w.heap.size w m vw vh vr) (hc:CrtAt w.heap.size w c vs vp ve) (hF:frmB m c=true) (i:Nat) (hi:i<c.psg.length) :
  Calls Tryz.prog 42 #[.agg (Zd m vw vh vr),.agg #[vs,vp,ve],.int .i64 i] w fun e w'=>e=.returned (.tuple #[.int .i64 (befR m c i),.int .i64 (befT m c i),.int .i64 (befE m c i)])∧Below w.heap.size w w':=by
 obtain⟨hok,hl1,hl2,hal⟩:=Z0O hF;have V:=(Zp m).1 (Z0o hok).1;have n41:=V.n41;have hid0:=V.idle;have hww:=fun k hk=>ZH (ZX V.ways (j:=k) hk)
 have f1:=fun w1 (B:Below w.heap.size w w1)=>Z4B vs c.stops (i:Int) w1 ((hc.1.below B).mono B.size)
 have HR:befR m c i=if i=0 then m.start else if (i:Int) ∈ c.stops then min (pgd c.psg (i-1)).tw (wy m.ways i).fix else (pgd c.psg (i-1)).tw:=rfl
 have HT:befT m c i=if i=0 then 0 else if (i:Int) ∈ c.stops then (pgd c.psg (i-1)).tm+(wy m.ways i).wait else (pgd c.psg (i-1)).tm:=rfl
 have HE:befE m c i=if i=0 then 0 else if (i:Int) ∈ c.stops then (pgd c.psg (i-1)).en+m.idle*(wy m.ways i).wait else (pgd c.psg (i-1)).en:=rfl
 generalize befR m c i=xR at *;generalize befT m c i=xT at *;generalize befE m c i=xE at *;obtain⟨⟨-,a1,cap1,rfl,hcw⟩,⟨-,a2,cap2,rfl,-⟩,⟨-,a3,cap3,rfl,-⟩⟩:=hm;obtain⟨⟨-,aS,cS,rfl,-⟩,⟨-,ap,cp,rfl,hcp⟩,⟨-,ar,cr,rfl,-⟩⟩:=hc;unfold Zd at *;have HCW:=Lib.hid hcw;have HCP:=Lib.hid hcp;replace f1:=Lib.hid f1;replace HR:=Lib.hid HR;replace HT:=Lib.hid HT;replace HE:=Lib.hid HE;replace hww:=Lib.hid hww;replace hal:=Lib.hid hal;have BW:=Lib.hid (Below.refl w.heap.size w);clear hcw hcp V hF hok hl2;by_cases hi0:i=0
 ·subst hi0
  clear hww hal;have d0:(((0:Nat):Int) == 0)=true:=by simp
  go_enter Tryz.func42,Tryz.ntmps42;have hwr:∀ o,(w.alloc (.cells #[.slice a1 m.ways.length (m.ways.length+cap1),.slice a2 m.home.length (m.home.length+cap2),.int .i64 m.start,.slice a3 m.rocks.length (m.rocks.length+cap3),.int .i64 m.speed,.int .i64 m.part,.int .i64 m.flow,.int .i64 m.idle,.int .i64 m.drive,.int .i64 m.battery,.int .i64 m.deadline] 26) |>.alloc o).cell? ⟨w.heap.size,2,none⟩=some (.int .i64 m.start):=fun o=>by
   have h1:=(Has.new w #[.slice a1 m.ways.length (m.ways.length+cap1),.slice a2 m.home.length (m.home.length+cap2),.int .i64 m.start,.slice a3 m.rocks.length (m.rocks.length+cap3),.int .i64 m.speed,.int .i64 m.part,.int .i64 m.flow,.int .i64 m.idle,.int .i64 m.drive,.int .i64 m.battery,.int .i64 m.deadline] 26).below ((Below.refl (w.heap.size+1) _).alloc (by simp) o) (by omega)
   exact h1.cell (i:=2) rfl
  go_wp2;go_ret3;exact⟨by rw [HR.out,HT.out,HE.out];rfl,zB2⟩
 obtain⟨k,rfl⟩:∃ k,i=k+1:=⟨i-1,by omega⟩
 have hk1:k+1<m.ways.length:=by omega
 have hz:(((k+1:Nat):Int) == 0)=false:=by rw [beq_eq_false_iff_ne];omega
 have jw:IntKind.i64.wrap (((k+1:Nat):Int)-1)=(k:Int):=by rw [show ((k+1:Nat):Int)-1=(k:Int) by omega];exact zW2
 replace HR:=HR.out;replace HT:=HT.out;replace HE:=HE.out;rw [if_neg (by omega),Nat.add_sub_cancel] at HR HT HE
 obtain⟨b,o,rfl,hb,hcp⟩:=HCP.out.resolve_left (by intro h;rw [h] at hi;simp at hi)
 obtain⟨u,x0,hu,x1,x2,x3,x4⟩:=hcp k (by omega)
 obtain⟨bw,ow,rfl,hbw,hcw⟩:=HCW.out.resolve_left (by intro h;rw [h] at hk1;simp at hk1)
 obtain⟨y0,y1,y2,y3,y4⟩:=hcw (k+1) hk1;obtain⟨-,hr1,hr2,hr3,hr4,-⟩:=Z0K (hal.out k (by omega))
 obtain⟨-,-,-,-,g1,g2,g3,g4,-⟩:=hww.out (k+1) hk1;obtain⟨au,cu,rfl⟩:=hu.len;generalize pgd c.psg k=p at *;obtain⟨⟨qx,qy,fx,wt,bk⟩,hq⟩:∃ q,wy m.ways (k+1)=q:=⟨_,rfl⟩;rw [hq] at HR HT HE y0 y1 y2 y3 y4 g1 g2 g3 g4;simp only at HR HT HE y0 y1 y2 y3 y4 g1 g2 g3 g4;have hmul:=Int.mul_nonneg hid0.1 g3;have hmul2:m.idle*wt≤1000*100000:=Int.mul_le_mul hid0.2 g4 g3 (by omega)
 have w1:IntKind.i64.wrap (p.tm+wt)=p.tm+wt:=zW2;have w2':IntKind.i64.wrap (m.idle*wt)=m.idle*wt:=zW2;have w3:IntKind.i64.wrap (p.en+m.idle*wt)=p.en+m.idle*wt:=zW2;replace HR:=Lib.hid HR;replace HT:=Lib.hid HT;replace HE:=Lib.hid HE;have kl:((k+1:Nat):Int)<m.ways.length:=by omega
 have kl0:(0:Int)≤((k+1:Nat):Int):=by omega
 have kp:(k:Int)<c.psg.length:=by omega
 have kp0:(0:Int)≤(k:Int):=by omega
 have kl':(k:Int)+1<m.ways.length:=by omega
 have kl0':(0:Int)≤(k:Int)+1:=by omega
 have jk:IntKind.i64.wrap (k:Int)=k:=zW2;clear hcw hcp hww hal hq hmul hmul2 hu hi0 HCW HCP hl1;go_enter Tryz.func42,Tryz.ntmps42;go_upto_region 3 with fail
 generalize hXX0:World.alloc (World.alloc w _) _=X0;obtain⟨q0,q1,hA,hzX0⟩:=box2 hXX0;clear hXX0;have BW:=Lib.hid hA;clear hA;have MB:=Lib.hid q0;clear q0;have CB:=Lib.hid q1;clear q1 hzX0;have m0:=MB.out.cell (i:=0) rfl;have e1:=CB.out.cell (i:=1) rfl;replace x0:=(BW.out.cell (p:=⟨b,o+k*5,none⟩) hb).trans x0;replace x1:=(BW.out.cell (p:=⟨b,o+k*5+1,none⟩) hb).trans x1;replace x2:=(BW.out.cell (p:=⟨b,o+k*5+2,none⟩) hb).trans x2;replace x3:=(BW.out.cell (p:=⟨b,o+k*5+3,none⟩) hb).trans x3;replace x4:=(BW.out.cell (p:=⟨b,o+k*5+4,none⟩) hb).trans x4;replace y0:=(BW.out.cell (p:=⟨bw,ow+(k+1)*5,none⟩) hbw).trans y0;replace y1:=(BW.out.cell (p:=⟨bw,ow+(k+1)*5+1,none⟩) hbw).trans y1;replace y2:=(BW.out.cell (p:=⟨bw,ow+(k+1)*5+2,none⟩) hbw).trans y2;replace y3:=(BW.out.cell (p:=⟨bw,ow+(k+1)*5+3,none⟩) hbw).trans y3;replace y4:=(BW.out.cell (p:=⟨bw,ow+(k+1)*5+4,none⟩) hbw).trans y4;go_upto_region 3 with fail
 go_cut [9,10] from 15 (fun b1 b2 wx=>∃ x y,b1=.pointer (some ⟨x,0,none⟩)∧b2=.pointer (some ⟨y,0,none⟩)∧x≠y∧X0.heap.size≤x∧X0.heap.size≤y∧Has wx x #[.slice au p.cor.length (p.cor.length+cu),.int .i64 p.fr,.int .i64 p.tw,.int .i64 p.tm,.int .i64 p.en] 48∧Has wx y #[.int .i64 qx,.int .i64 qy,.int .i64 fx,.int .i64 wt,.int .i64 bk] 65∧Below X0.heap.size X0 wx)
 case first =>
  refine (wpIn_wide (n:=9)).1 ?_;refine Zj (Zt _) 14 (fun X=>Below X0.heap.size X0 X) (by kernel_rfl) (by kernel_rfl) (by kernel_rfl) fun hH inv0=>?_
  refine sk hH (i:=0) (v:=.pointer (some ⟨w.heap.size+1,1,none⟩)) (Ze rfl) inv0 (fun X hX=>?_) fun inv1=>?_
  ·go_simp
  simp only [Act.put,zq5,zr5,zs5];clear inv0;refine sk hH (i:=1) (v:=.slice (some ⟨b,o,none⟩) c.psg.length (c.psg.length+cp)) (Ze rfl) inv1 (fun X hX=>?_) fun inv2=>?_
  ·have re1:=(hX.cell (p:=⟨w.heap.size+1,1,none⟩) (World.block_lt_of_cell? _ _ e1)).trans e1;go_simp
  simp only [Act.put,zq5,zr5,zs5];clear inv1;refine sk hH (i:=2) (v:=.int .i64 ((k+1:Nat):Int)) (Ze rfl) inv2 (fun X hX=>?_) fun inv3=>?_
  ·go_simp
  simp only [Act.put,zq5,zr5,zs5];clear inv2;refine sk hH (i:=3) (v:=.int .i64 (k:Int)) (Ze rfl) inv3 (fun X hX=>?_) fun inv4=>?_
  ·go_simp
  simp only [Act.put,zq5,zr5,zs5];clear inv3;refine sk hH (i:=4) (v:=.pointer (some ⟨b,o+k*5,none⟩)) (Ze rfl) inv4 (fun X hX=>?_) fun inv5=>?_
  ·go_simp
  simp only [Act.put,zq5,zr5,zs5];clear inv4;refine sk hH (i:=5) (v:=.agg #[.slice au p.cor.length (p.cor.length+cu),.int .i64 p.fr,.int .i64 p.tw,.int .i64 p.tm,.int .i64 p.en]) (Ze rfl) inv5 (fun X hX=>?_) fun inv6=>?_
  ·have rx0:=(hX.cell (p:=⟨b,o+k*5,none⟩) (World.block_lt_of_cell? _ _ x0)).trans x0;have rx1:=(hX.cell (p:=⟨b,o+k*5+1,none⟩) (World.block_lt_of_cell? _ _ x1)).trans x1;have rx2:=(hX.cell (p:=⟨b,o+k*5+2,none⟩) (World.block_lt_of_cell? _ _ x2)).trans x2;have rx3:=(hX.cell (p:=⟨b,o+k*5+3,none⟩) (World.block_lt_of_cell? _ _ x3)).trans x3;have rx4:=(hX.cell (p:=⟨b,o+k*5+4,none⟩) (World.block_lt_of_cell? _ _ x4)).trans x4;go_simp
  simp only [Act.put,zq5,zr5,zs5];clear inv5;refine sk hH (i:=6) (v:=.pointer (some ⟨w.heap.size,0,none⟩)) (Ze rfl) inv6 (fun X hX=>?_) fun inv7=>?_
  ·go_simp
  simp only [Act.put,zq5,zr5,zs5];clear inv6;refine sk hH (i:=7) (v:=.slice (some ⟨bw,ow,none⟩) m.ways.length (m.ways.length+cap1)) (Ze rfl) inv7 (fun X hX=>?_) fun inv8=>?_
  ·have rm0:=(hX.cell (p:=⟨w.heap.size,0,none⟩) (World.block_lt_of_cell? _ _ m0)).trans m0;go_simp
  simp only [Act.put,zq5,zr5,zs5];clear inv7;refine sk hH (i:=8) (v:=.int .i64 ((k+1:Nat):Int)) (Ze rfl) inv8 (fun X hX=>?_) fun inv9=>?_
  ·go_simp
  simp only [Act.put,zq5,zr5,zs5];clear inv8;refine sk hH (i:=9) (v:=.pointer (some ⟨bw,ow+(k+1)*5,none⟩)) (Ze rfl) inv9 (fun X hX=>?_) fun inv10=>?_
  ·go_simp
  simp only [Act.put,zq5,zr5,zs5];clear inv9;refine sk hH (i:=10) (v:=.agg #[.int .i64 qx,.int .i64 qy,.int .i64 fx,.int .i64 wt,.int .i64 bk]) (Ze rfl) inv10 (fun X hX=>?_) fun inv11=>?_
  ·have ry0:=(hX.cell (p:=⟨bw,ow+(k+1)*5,none⟩) (World.block_lt_of_cell? _ _ y0)).trans y0;have ry1:=(hX.cell (p:=⟨bw,ow+(k+1)*5+1,none⟩) (World.block_lt_of_cell? _ _ y1)).trans y1;have ry2:=(hX.cell (p:=⟨bw,ow+(k+1)*5+2,none⟩) (World.block_lt_of_cell? _ _ y2)).trans y2;have ry3:=(hX.cell (p:=⟨bw,ow+(k+1)*5+3,none⟩) (World.block_lt_of_cell? _ _ y3)).trans y3;have ry4:=(hX.cell (p:=⟨bw,ow+(k+1)*5+4,none⟩) (World.block_lt_of_cell? _ _ y4)).trans y4;go_simp
  simp only [Act.put,zq5,zr5,zs5];clear inv10 inv11 hH;have hS0:Below X0.heap.size X0 X0.drew:=Below.drew (Below.refl _ _);have hz0:=hS0.size;generalize X0.drew=X0 at *;refine ZD (rs:=[11,12]) (by kernel_rfl) (by simp) hS0 (by simp) (fun i hi'=>?_)
  simp only [List.mem_cons,List.not_mem_nil,or_false] at hi';rcases hi' with rfl | rfl
  ·skip
   refine ZC (Ze rfl) rfl (v:=.pointer (some ⟨X0.heap.size,0,none⟩)) (w':=X0.alloc (.cells #[.slice none 0 0,.int .i64 0,.int .i64 0,.int .i64 0,.int .i64 0] 48)) (by go_simp) ?_
   simp only [Act.put,zq5,zr5,zs5];have hNX0:=Has.new X0 #[.slice none 0 0,.int .i64 0,.int .i64 0,.int .i64 0,.int .i64 0] 48;have hS1:=hS0.alloc (by omega) (.cells #[.slice none 0 0,.int .i64 0,.int .i64 0,.int .i64 0,.int .i64 0] 48)
   have hz1:X0.heap.size<(X0.alloc (.cells #[.slice none 0 0,.int .i64 0,.int .i64 0,.int .i64 0,.int .i64 0] 48)).heap.size:=by simp
   generalize X0.alloc (.cells #[.slice none 0 0,.int .i64 0,.int .i64 0,.int .i64 0,.int .i64 0] 48)=X1 at *;refine sa1 (r:=12) hS1 ?_;refine ZC (Ze rfl) rfl (v:=.pointer (some ⟨X1.heap.size,0,none⟩)) (w':=X1.alloc (.cells #[.int .i64 0,.int .i64 0,.int .i64 0,.int .i64 0,.int .i64 0] 65)) (by go_simp) ?_
   simp only [Act.put,zq5,zr5,zs5];have hNX1:=Has.new X1 #[.int .i64 0,.int .i64 0,.int .i64 0,.int .i64 0,.int .i64 0] 65;replace hNX0:=hNX0.below ((Below.refl X1.heap.size X1).alloc (Nat.le_refl _) (.cells #[.int .i64 0,.int .i64 0,.int .i64 0,.int .i64 0,.int .i64 0] 65)) hNX0.lt;have hS2:=hS1.alloc (by omega) (.cells #[.int .i64 0,.int .i64 0,.int .i64 0,.int .i64 0,.int .i64 0] 65)
   have hz2:X1.heap.size<(X1.alloc (.cells #[.int .i64 0,.int .i64 0,.int .i64 0,.int .i64 0,.int .i64 0] 65)).heap.size:=by simp
   generalize X1.alloc (.cells #[.int .i64 0,.int .i64 0,.int .i64 0,.int .i64 0,.int .i64 0] 65)=X2 at *;refine sa1 (r:=13) hS2 ?_;refine Z4N (Ze rfl) rfl rfl (g:=X0.heap.size) (cells:=#[.slice au p.cor.length (p.cor.length+cu),.int .i64 p.fr,.int .i64 p.tw,.int .i64 p.tm,.int .i64 p.en]) rfl rfl hNX0 (by kernel_rfl) rfl (by simp [Value.oneCell']) ?_
   simp only [Act.put,zq5,zr5,zs5];have hP:=Has.put (cells:=#[.slice au p.cor.length (p.cor.length+cu),.int .i64 p.fr,.int .i64 p.tw,.int .i64 p.tm,.int .i64 p.en]) hNX0;have hO:=Has.keep (cells:=#[.slice au p.cor.length (p.cor.length+cu),.int .i64 p.fr,.int .i64 p.tw,.int .i64 p.tm,.int .i64 p.en]) (C:=X0.heap.size) hNX1 (by omega)
   have hS3:=Below.setRow hS2 (C:=X0.heap.size) (by omega) #[.slice au p.cor.length (p.cor.length+cu),.int .i64 p.fr,.int .i64 p.tw,.int .i64 p.tm,.int .i64 p.en]
   generalize X2.setRow X0.heap.size #[.slice au p.cor.length (p.cor.length+cu),.int .i64 p.fr,.int .i64 p.tw,.int .i64 p.tm,.int .i64 p.en]=X3 at *;refine Zv (by kernel_rfl) hS3 ?_
   simp only [List.drop_succ_cons,List.drop_zero];refine Z0n rfl rfl (g:=X1.heap.size) (cells:=#[.int .i64 qx,.int .i64 qy,.int .i64 fx,.int .i64 wt,.int .i64 bk]) rfl rfl hO (by kernel_rfl) rfl (by simp [Value.oneCell']) ?_
   have hP2:=Has.put (cells:=#[.int .i64 qx,.int .i64 qy,.int .i64 fx,.int .i64 wt,.int .i64 bk]) hO;have hP1:=Has.keep (cells:=#[.int .i64 qx,.int .i64 qy,.int .i64 fx,.int .i64 wt,.int .i64 bk]) (C:=X1.heap.size) hP (by omega)
   have hS4:=Below.setRow hS3 (C:=X1.heap.size) (by omega) #[.int .i64 qx,.int .i64 qy,.int .i64 fx,.int .i64 wt,.int .i64 bk]
   generalize X3.setRow X1.heap.size #[.int .i64 qx,.int .i64 qy,.int .i64 fx,.int .i64 wt,.int .i64 bk]=X4 at *;gi_wp2;go_meet;exact⟨_,_,rfl,rfl,by omega,by omega,by omega,hP1,hP2,hS4⟩
  ·skip
   refine ZC (Ze rfl) rfl (v:=.pointer (some ⟨X0.heap.size,0,none⟩)) (w':=X0.alloc (.cells #[.int .i64 0,.int .i64 0,.int .i64 0,.int .i64 0,.int .i64 0] 65)) (by go_simp) ?_
   simp only [Act.put,zq5,zr5,zs5];have hNX0:=Has.new X0 #[.int .i64 0,.int .i64 0,.int .i64 0,.int .i64 0,.int .i64 0] 65;have hS1:=hS0.alloc (by omega) (.cells #[.int .i64 0,.int .i64 0,.int .i64 0,.int .i64 0,.int .i64 0] 65)
   have hz1:X0.heap.size<(X0.alloc (.cells #[.int .i64 0,.int .i64 0,.int .i64 0,.int .i64 0,.int .i64 0] 65)).heap.size:=by simp
   generalize X0.alloc (.cells #[.int .i64 0,.int .i64 0,.int .i64 0,.int .i64 0,.int .i64 0] 65)=X1 at *;refine sa1 (r:=11) hS1 ?_;refine ZC (Ze rfl) rfl (v:=.pointer (some ⟨X1.heap.size,0,none⟩)) (w':=X1.alloc (.cells #[.slice none 0 0,.int .i64 0,.int .i64 0,.int .i64 0,.int .i64 0] 48)) (by go_simp) ?_
   simp only [Act.put,zq5,zr5,zs5];have hNX1:=Has.new X1 #[.slice none 0 0,.int .i64 0,.int .i64 0,.int .i64 0,.int .i64 0] 48;replace hNX0:=hNX0.below ((Below.refl X1.heap.size X1).alloc (Nat.le_refl _) (.cells #[.slice none 0 0,.int .i64 0,.int .i64 0,.int .i64 0,.int .i64 0] 48)) hNX0.lt;have hS2:=hS1.alloc (by omega) (.cells #[.slice none 0 0,.int .i64 0,.int .i64 0,.int .i64 0,.int .i64 0] 48)
   have hz2:X1.heap.size<(X1.alloc (.cells #[.slice none 0 0,.int .i64 0,.int .i64 0,.int .i64 0,.int .i64 0] 48)).heap.size:=by simp
   generalize X1.alloc (.cells #[.slice none 0 0,.int .i64 0,.int .i64 0,.int .i64 0,.int .i64 0] 48)=X2 at *;refine sa1 (r:=13) hS2 ?_;refine Z4N (Ze rfl) rfl rfl (g:=X1.heap.size) (cells:=#[.slice au p.cor.length (p.cor.length+cu),.int .i64 p.fr,.int .i64 p.tw,.int .i64 p.tm,.int .i64 p.en]) rfl rfl hNX1 (by kernel_rfl) rfl (by simp [Value.oneCell']) ?_
   simp only [Act.put,zq5,zr5,zs5];have hP:=Has.put (cells:=#[.slice au p.cor.length (p.cor.length+cu),.int .i64 p.fr,.int .i64 p.tw,.int .i64 p.tm,.int .i64 p.en]) hNX1;have hO:=Has.keep (cells:=#[.slice au p.cor.length (p.cor.length+cu),.int .i64 p.fr,.int .i64 p.tw,.int .i64 p.tm,.int .i64 p.en]) (C:=X1.heap.size) hNX0 (by omega)
   have hS3:=Below.setRow hS2 (C:=X1.heap.size) (by omega) #[.slice au p.cor.length (p.cor.length+cu),.int .i64 p.fr,.int .i64 p.tw,.int .i64 p.tm,.int .i64 p.en]
   generalize X2.setRow X1.heap.size #[.slice au p.cor.length (p.cor.length+cu),.int .i64 p.fr,.int .i64 p.tw,.int .i64 p.tm,.int .i64 p.en]=X3 at *;refine Zv (by kernel_rfl) hS3 ?_
   simp only [List.drop_succ_cons,List.drop_zero];refine Z0n rfl rfl (g:=X0.heap.size) (cells:=#[.int .i64 qx,.int .i64 qy,.int .i64 fx,.int .i64 wt,.int .i64 bk]) rfl rfl hO (by kernel_rfl) rfl (by simp [Value.oneCell']) ?_
   have hP2:=Has.put (cells:=#[.int .i64 qx,.int .i64 qy,.int .i64 fx,.int .i64 wt,.int .i64 bk]) hO;have hP1:=Has.keep (cells:=#[.int .i64 qx,.int .i64 qy,.int .i64 fx,.int .i64 wt,.int .i64 bk]) (C:=X0.heap.size) hP (by omega)
   have hS4:=Below.setRow hS3 (C:=X0.heap.size) (by omega) #[.int .i64 qx,.int .i64 qy,.int .i64 fx,.int .i64 wt,.int .i64 bk]
   generalize X3.setRow X0.heap.size #[.int .i64 qx,.int .i64 qy,.int .i64 fx,.int .i64 wt,.int .i64 bk]=X4 at *;gi_wp2;go_meet;exact⟨_,_,rfl,rfl,by omega,by omega,by omega,hP1,hP2,hS4⟩
 case rest =>
  obtain⟨bx,by',rfl,rfl,hxy,hbx,hby,HX0,HY0,hC⟩:=hcut
  replace BW:=zAg BW hC;have B_X0:=Lib.hid hC;clear hC;have BX:=Lib.hid HX0;have BY:=Lib.hid HY0;clear HX0 HY0 m0 e1 x0 x1 x2 x3 x4 y0 y1 y2 y3 y4;have z2:=Low.fact (BX.out.cell (i:=2) rfl);have z3:=Low.fact (BX.out.cell (i:=3) rfl);have z4:=Low.fact (BX.out.cell (i:=4) rfl);go_wp2
  (refine Zg (by kernel_rfl) (by kernel_rfl) ?_;(iterate 9 (apply Zf;(case hw=>rfl);(case hval=>(intro w1 hw1;have hcx:=Low.cells hw1;simp only [Oper.quietAt];go_simp;first | done | rfl | exact⟨rfl,rfl⟩));simp only [Act.put,zq5,zr5,zs5]));refine wpQuiet_nil ?_;intro w2 hw2)
  obtain⟨wa,hwa⟩:∃ x,x=w2:=⟨_,rfl⟩;subst hwa;have hA:Below wc.heap.size wc wa:=hw2.out;clear hw2 z2 z3 z4;replace BW:=zAg BW hA;replace B_X0:=zAg B_X0 hA;have B_wc:=Lib.hid hA;clear hA;have e0:=(zCw CB B_X0).cell (i:=0) rfl;go_wp2_with fail;refine (f1.out _ BW.out).mono ?_;rintro e w1 ⟨rfl,b1⟩;replace BW:=zAg BW b1;replace B_X0:=zAg B_X0 b1;replace B_wc:=zAg B_wc b1;clear b1 e0;cases hmem:decide (((k+1:Nat):Int) ∈ c.stops)
  ·have hm2:¬ ((k+1:Nat):Int) ∈ c.stops:=by simpa using hmem
   have HV:=Lib.hid (And.intro (HR.out.trans (if_neg hm2)) (And.intro (HT.out.trans (if_neg hm2)) (HE.out.trans (if_neg hm2))));clear hm2 hmem;go_wp2;go_ret3;exact⟨by rw [HV.out.1,HV.out.2.1,HV.out.2.2];rfl,BW.out⟩
  have hm2:((k+1:Nat):Int) ∈ c.stops:=by simpa using hmem
  have HV:=Lib.hid (And.intro (HR.out.trans (if_pos hm2)) (And.intro (HT.out.trans (if_pos hm2)) (HE.out.trans (if_pos hm2))));clear hm2 hmem;have z1:=Low.fact ((zCw BY B_wc).cell (i:=2) rfl);have z2:=Low.fact ((zCw BY B_wc).cell (i:=3) rfl);have z3:=Low.fact ((zCw MB B_X0).cell (i:=7) rfl);obtain⟨mi,hmi⟩:∃ x,min p.tw fx=x:=⟨_,rfl⟩;go_wp2
  (refine Zg (by kernel_rfl) (by kernel_rfl) ?_;(iterate 18 (apply Zf;(case hw=>rfl);(case hval=>(intro w1 hw1;have hcx:=Low.cells hw1;simp only [Oper.quietAt];go_simp;first | done | rfl | exact⟨rfl,rfl⟩));simp only [Act.put,zq5,zr5,zs5]));refine wpQuiet_nil ?_;intro w2 hw2)
  have BZ:=Lib.hid (BW.out.trans (hw2.out.mono BW.out.size));go_wp2;go_ret3;exact⟨by rw [HV.out.1,HV.out.2.1,HV.out.2.2,hmi];rfl,BZ.out⟩
theorem Z8.offG {W X : World} {v : Value} {l : List Pt} {row : Option Nat} (h : Z8 W.heap.size W v l) (hg : W.grownBy X row) (hne : ∀ r, row = some r → l = [] ∨ v.ownBlock ≠ some r) : Z8 X.heap.size X v l := by
 obtain⟨hl,a,cap,e,hc⟩:=h;refine⟨hl,a,cap,e,?_⟩;rcases hc with hc | ⟨b,o,e1,hb,hc⟩
 ·exact .inl hc
 ·by_cases hl0:l=[]
  ·exact .inl hl0
  ·refine .inr ⟨b,o,e1,Nat.lt_of_lt_of_le hb hg.size,fun j hj=>?_⟩
   have hbn:some b≠row:=fun er=>by
    rcases hne b er.symm with h | h
    ·exact hl0 h
    ·exact h (by rw [e,e1];rfl)
   obtain⟨c1,c2⟩:=hc j hj;exact⟨(World.cell?_of_block (hg.block b hb hbn)).trans c1,(World.cell?_of_block (hg.block b hb hbn)).trans c2⟩
theorem Z8.own_lt {W:World} {n0:Nat} {v:Value} {l:List Pt} (h:Z8 n0 W v l) {r:Nat} (hr:v.ownBlock=some r):l=[]∨r<n0:=by
 obtain⟨-,a,cap,e,hc⟩:=h;rcases hc with hc | ⟨b,o,e1,hb,-⟩
 ·exact .inl hc
 ·right
  rw [e,e1] at hr;simp only [Value.ownBlock,Option.some.injEq] at hr;omega
def PsR (W:World) (g:Nat→Psg) (k:Nat) (xs:List Value) (P:Nat→Prop):Prop :=
 xs.length=k*5∧∀ j,j<k→∃ u,xs[j*5]?=some u∧Z8 W.heap.size W u (g j).cor∧((g j).cor=[]∨∀ r,u.ownBlock=some r→P r)∧xs[j*5+1]?=some (.int .i64 (g j).fr)∧xs[j*5+2]?=some (.int .i64 (g j).tw)∧xs[j*5+3]?=some (.int .i64 (g j).tm)∧xs[j*5+4]?=some (.int .i64 (g j).en)
section
variable {W X:World} {g:Nat→Psg} {k:Nat} {xs:List Value} {P Q:Nat→Prop}
theorem PsR.nil:PsR W g 0 [] P:=⟨rfl,fun j h=>by omega⟩
theorem PsR.snoc (h:PsR W g k xs P) {u:Value} (hu:Z8 W.heap.size W u (g k).cor) (hP:(g k).cor=[]∨∀ r,u.ownBlock=some r→P r) :
  PsR W g (k+1) (xs++[u,.int .i64 (g k).fr,.int .i64 (g k).tw,.int .i64 (g k).tm,.int .i64 (g k).en]) P:=by
 obtain⟨hl,hc⟩:=h;refine⟨by simp [hl];omega,fun j hj=>?_⟩
 by_cases e:j=k
 ·subst e
  have q:∀ i,(xs++[u,.int .i64 (g j).fr,.int .i64 (g j).tw,.int .i64 (g j).tm,.int .i64 (g j).en])[j*5+i]?=[u,.int .i64 (g j).fr,.int .i64 (g j).tw,.int .i64 (g j).tm,.int .i64 (g j).en][i]?:=fun i=>by
   rw [List.getElem?_append_right (by omega),hl,Nat.add_sub_cancel_left]
  exact⟨u,by have:=q 0;rw [Nat.add_zero] at this;exact this,hu,hP,q 1,q 2,q 3,q 4⟩
 ·obtain⟨u',c0,c⟩:=hc j (by omega)
  have q:∀ i,i<5→(xs++[u,.int .i64 (g k).fr,.int .i64 (g k).tw,.int .i64 (g k).tm,.int .i64 (g k).en])[j*5+i]?=xs[j*5+i]?:=fun i hi=>List.getElem?_append_left (by omega)
  refine⟨u',by have:=q 0 (by omega);rw [Nat.add_zero] at this;rw [this];exact c0,c.1,c.2.1,?_,?_,?_,?_⟩
  ·rw [q 1 (by omega)];exact c.2.2.1
  ·rw [q 2 (by omega)];exact c.2.2.2.1
  ·rw [q 3 (by omega)];exact c.2.2.2.2.1
  ·rw [q 4 (by omega)];exact c.2.2.2.2.2
theorem PsR.below (h:PsR W g k xs P) (B:Below W.heap.size W X):PsR X g k xs P:=by
 refine⟨h.1,fun j hj=>?_⟩
 obtain⟨u,c0,hu,c⟩:=h.2 j hj;exact⟨u,c0,(hu.below B).mono B.size,c⟩
theorem PsR.app (h:PsR W g k xs P) {row:Option Nat} (hg:W.grownBy X row) (hr:∀ r,row=some r→¬ P r) (hQ:∀ r,r<W.heap.size→P r→Q r):PsR X g k xs Q:=by
 refine⟨h.1,fun j hj=>?_⟩
 obtain⟨u,c0,hu,hp,c⟩:=h.2 j hj;refine⟨u,c0,hu.offG hg (fun r e=>?_),?_,c⟩
 ·rcases hp with hp | hp
  ·exact .inl hp
  ·exact .inr fun e2=>hr r e (hp r e2)
 ·rcases hp with hp | hp
  ·exact .inl hp
  ·by_cases hn:(g j).cor=[]
   ·exact .inl hn
   ·exact .inr fun r e=>hQ r ((hu.own_lt e).resolve_left hn) (hp r e)
theorem PsR.psgs (h:PsR W g k xs P) {base:Nat} {v:Value} (hr:W.ownsRow base 48 5 v k xs) (hl:k≤70368744177663):PsgsAt W.heap.size W v (upto g k):=by
 have hg:∀ j,j<k→pgd (upto g k) j=g j:=fun j hj=>by simp [pgd,upto,List.getD,hj]
 refine⟨by rw [Zu];exact hl,?_⟩
 rw [Zu];rcases hr.2 with⟨rfl,h0⟩ | ⟨gb,cap,cur,rfl,_,hb,hc,_⟩
 ·exact⟨none,0,by rw [h0],.inl (List.eq_nil_of_length_eq_zero (by rw [Zu];exact h0))⟩
 ·refine⟨some ⟨gb,0,none⟩,cap-k,by rw [show k+(cap-k)=cap by omega],.inr ⟨gb,0,rfl,(Array.getElem?_eq_some_iff.1 hb).1,fun j hj=>?_⟩⟩
  rw [hg j hj];obtain⟨u,c0,hu,-,c1,c2,c3,c4⟩:=h.2 j hj;have q:∀ i w,i<5→xs[j*5+i]?=some w→W.cell? ⟨gb,0+j*5+i,none⟩=some w:=fun i w hi e=>by
   rw [Nat.zero_add];exact (hr.cellAt (j*5+i) (by omega)).trans e
  exact⟨u,by have:=q 0 u (by omega) c0;rwa [Nat.add_zero] at this,hu,q 1 _ (by omega) c1,q 2 _ (by omega) c2,q 3 _ (by omega) c3,q 4 _ (by omega) c4⟩
end
structure MkS (bC:Nat) (Z X:World) (g:Nat→Psg) (v1 v2:Value) (n1 n2:Nat) (x1 x2:List Value) (kc:Nat) (xc:List Value):Prop where
 bel:Below bC Z X
 r1:X.ownsRow (bC+1) 48 5 v1 n1 x1
 r2:X.ownsRow (bC+1) 3 1 v2 n2 x2
 ne:v1.ownBlock=none∨v1.ownBlock≠v2.ownBlock
 cor:PsR X g kc xc (fun r=>bC<r∧some r≠v1.ownBlock∧some r≠v2.ownBlock)
section
variable {bC:Nat} {Z X Y:World} {g:Nat→Psg} {v1 v2 u:Value} {n1 n2 n' kc:Nat} {x1 x2 x' xc:List Value}
theorem MkS.ne2 (h:MkS bC Z X g v1 v2 n1 n2 x1 x2 kc xc):v2.ownBlock=none∨v2.ownBlock≠v1.ownBlock:=by
 rcases h.ne with h | h
 ·rw [h]
  cases v2.ownBlock <;> simp
 ·exact .inr (Ne.symm h)
theorem MkS.up (h:MkS bC Z X g v1 v2 n1 n2 x1 x2 kc xc) (B:Below X.heap.size X Y) (hb:bC≤X.heap.size):MkS bC Z Y g v1 v2 n1 n2 x1 x2 kc xc:=by
 have hg:X.grownBy Y none:=⟨B.os,B.tape,B.output,B.size,fun b hb _=>B.block b hb⟩
 exact⟨h.bel.trans (B.mono hb),h.r1.kept hg (by cases v1.ownBlock <;> simp),h.r2.kept hg (by cases v2.ownBlock <;> simp),h.ne,h.cor.below B⟩
theorem MkS.app1 (h:MkS bC Z X g v1 v2 n1 n2 x1 x2 kc xc) (hb:bC≤X.heap.size) (hg:X.grownBy Y v1.ownBlock) (hr:Y.ownsRow (bC+1) 48 5 u n' x') (ho:u.ownBlock=v1.ownBlock∨u.ownBlock=some X.heap.size):MkS bC Z Y g u v2 n' n2 x' x2 kc xc:=by
 refine⟨h.bel.trans ((Below.refl bC X).grown hg hb (fun j e=>by have:=(h.r1.lt j e).1;omega)),hr,h.r2.kept hg h.ne2,?_,h.cor.app hg (fun r e hp=>hp.2.1 e.symm) (fun r hlt hp=>⟨hp.1,?_,hp.2.2⟩)⟩
 ·rcases ho with ho | ho
  ·rw [ho];exact h.ne
  ·right
   rw [ho];intro e;have:=(h.r2.lt _ e.symm).2;omega
 ·rcases ho with ho | ho
  ·rw [ho];exact hp.2.1
  ·rw [ho]
   intro e;have:r=X.heap.size:=by simpa using e
   omega
theorem MkS.app2 (h : MkS bC Z X g v1 v2 n1 n2 x1 x2 kc xc) (hb : bC ≤ X.heap.size) (hg : X.grownBy Y v2.ownBlock) (hr : Y.ownsRow (bC + 1) 3 1 u n' x') (ho : u.ownBlock = v2.ownBlock ∨ u.ownBlock = some X.heap.size) : MkS bC Z Y g v1 u n1 n' x1 x' kc xc := by
 refine⟨h.bel.trans ((Below.refl bC X).grown hg hb (fun j e=>by have:=(h.r2.lt j e).1;omega)),h.r1.kept hg h.ne,hr,?_,h.cor.app hg (fun r e hp=>hp.2.2 e.symm) (fun r hlt hp=>⟨hp.1,hp.2.1,?_⟩)⟩
 ·rcases ho with ho | ho
  ·rw [ho];exact h.ne
  ·by_cases hn:v1.ownBlock=none
   ·exact .inl hn
   ·right
    rw [ho];intro e;have:=(h.r1.lt _ e).2;omega
 ·rcases ho with ho | ho
  ·rw [ho];exact hp.2.2
  ·rw [ho]
   intro e;have:r=X.heap.size:=by simpa using e
   omega
theorem MkS.set (h:MkS bC Z X g v1 v2 n1 n2 x1 x2 kc xc) (i:Nat) (w:Value):MkS bC Z (X.setCell ⟨bC,i,none⟩ w) g v1 v2 n1 n2 x1 x2 kc xc:=by
 have hg:X.grownBy (X.setCell ⟨bC,i,none⟩ w) (some bC):=⟨rfl,rfl,rfl,by simp [World.setCell],fun k _ hk=>Below.heap_setCell _ _ _ k (fun e=>hk (by rw [e]))⟩
 refine⟨h.bel.setCell (p:=⟨bC,i,none⟩) (Nat.le_refl _) w,h.r1.kept hg (.inr fun e=>?_),h.r2.kept hg (.inr fun e=>?_),h.ne,h.cor.app hg (fun r e hp=>?_) (fun r _ hp=>hp)⟩
 ·have:=(h.r1.lt _ e).1;omega
 ·have:=(h.r2.lt _ e).1;omega
 ·cases e;exact Nat.lt_irrefl _ hp.1
theorem MkS.fin (h:MkS bC Z X g v1 v2 n1 n2 x1 x2 n1 x1) {b:Nat} (hb:b≤bC) (hg:X.grownBy Y (some b)) (hn:n1≤70368744177663):PsgsAt Y.heap.size Y v1 (upto g n1)∧Y.ownsRow (bC+1) 3 1 v2 n2 x2:=by
 have q1:Y.ownsRow (bC+1) 48 5 v1 n1 x1:=h.r1.kept hg (.inr fun e=>by have:=(h.r1.lt _ e).1;omega)
 have q2:Y.ownsRow (bC+1) 3 1 v2 n2 x2:=h.r2.kept hg (.inr fun e=>by have:=(h.r2.lt _ e).1;omega)
 have q3:=h.cor.app (Q:=fun _=>True) hg (fun r e hp=>by cases e;omega) (fun _ _ _=>trivial)
 exact⟨q3.psgs q1 hn,q2⟩
theorem Z7h {s n0:Nat} {W:World} {v:Value} {l:List Pt} (hN:NewI s v) (h:Z8 n0 W v l) {r:Nat} (hr:v.ownBlock=some r):l=[]∨s≤r:=by
 obtain⟨-,a,cap,e,hc⟩:=h;rcases hc with hc | ⟨b,o,e1,hb,-⟩
 ·exact .inl hc
 ·right
  have:=hN b o _ _ (by rw [e,e1])
  rw [e,e1] at hr;simp only [Value.ownBlock,Option.some.injEq] at hr;omega
theorem MkS.fresh (h:MkS bC Z X g v1 v2 n1 n2 x1 x2 kc xc) (hb:bC<X.heap.size) {s n0:Nat} {W:World} {l:List Pt} (hN:NewI s u) (hs:X.heap.size≤s) (hu:Z8 n0 W u l):l=[]∨∀ r,u.ownBlock=some r→bC<r∧some r≠v1.ownBlock∧some r≠v2.ownBlock:=by
 by_cases hl:l=[]
 ·exact .inl hl
 ·refine .inr fun r hr=>?_
  have h1:=(Z7h hN hu hr).resolve_left hl;refine⟨by omega,fun e=>?_,fun e=>?_⟩
  ·have:=(h.r1.lt _ e.symm).2;omega
  ·have:=(h.r2.lt _ e.symm).2;omega
theorem MkS.one (h:MkS bC Z X g v1 v2 n1 n2 x1 x2 kc xc) (hu:Z8 X.heap.size X u (g kc).cor) (hP:(g kc).cor=[]∨∀ r,u.ownBlock=some r→bC<r∧some r≠v1.ownBlock∧some r≠v2.ownBlock) :
  MkS bC Z X g v1 v2 n1 n2 x1 x2 (kc+1) (xc++[u,.int .i64 (g kc).fr,.int .i64 (g kc).tw,.int .i64 (g kc).tm,.int .i64 (g kc).en]):=⟨h.bel,h.r1,h.r2,h.ne,h.cor.snoc hu hP⟩
def MkH (X:World) (v1 v2:Value) (B:Nat) (cs:Array Value) (T:TypeId):Prop:=Has X B cs T∧some B≠v1.ownBlock∧some B≠v2.ownBlock
variable {B:Nat} {cs:Array Value} {T:TypeId}
theorem MkH.app1 (h:MkH X v1 v2 B cs T) (hg:X.grownBy Y v1.ownBlock) (ho:u.ownBlock=v1.ownBlock∨u.ownBlock=some X.heap.size):MkH Y u v2 B cs T:=by
 have hlt:=h.1.lt;refine⟨(hg.block B hlt (by exact h.2.1)).trans h.1,?_,h.2.2⟩
 rcases ho with ho | ho
 ·rw [ho];exact h.2.1
 ·rw [ho];intro e;have:B=X.heap.size:=by simpa using e
  omega
theorem MkH.app2 (h:MkH X v1 v2 B cs T) (hg:X.grownBy Y v2.ownBlock) (ho:u.ownBlock=v2.ownBlock∨u.ownBlock=some X.heap.size):MkH Y v1 u B cs T:=by
 have hlt:=h.1.lt;refine⟨(hg.block B hlt (by exact h.2.2)).trans h.1,h.2.1,?_⟩
 rcases ho with ho | ho
 ·rw [ho];exact h.2.2
 ·rw [ho];intro e;have:B=X.heap.size:=by simpa using e
  omega
theorem MkH.up (h:MkH X v1 v2 B cs T) (hB:Below X.heap.size X Y):MkH Y v1 v2 B cs T:=⟨h.1.below hB h.1.lt,h.2⟩
theorem MkS.free (h:MkS bC Z X g v1 v2 n1 n2 x1 x2 kc xc) (hH:Has Y B cs T) (hB:B≤bC∨X.heap.size≤B):MkH Y v1 v2 B cs T:=by
 refine⟨hH,fun e=>?_,fun e=>?_⟩
 ·have:=h.r1.lt _ e.symm;omega
 ·have:=h.r2.lt _ e.symm;omega
end
theorem Z15 {W:World} {b:Nat} {t:TypeId} {s n:Nat} {v:Value} {xs:List Value} (h:W.ownsRow b t s v n xs):∃ a c,v=.slice a n c:=by
 rcases h.2 with⟨e,e0⟩ | ⟨g,cap,cur,e,-⟩
 ·exact⟨none,0,by rw [e,e0]⟩
 ·exact⟨_,_,e⟩
theorem Z0Z {X:World} {B:Nat} {l:List Value} {T:TypeId} (h:Has X B l.toArray T):∀ j u,l[j]?=some u→X.cell? ((⟨B,0,none⟩:Addr).add j)=some u:=fun j u hu=>by
 rw [show (⟨B,0,none⟩:Addr).add j=⟨B,j,none⟩ by simp [Addr.add];try exact fun h=>h.symm]
 exact h.cell (by simpa using hu)
theorem Z5e (v : Value) (l : List Int) (w : World) (hp : Za w.heap.size w v l) (hl : l.length ≤ 1000000) :
  Calls Tryz.prog 30 #[v] w fun e w'=>∃ v',e=.returned v'∧Za w'.heap.size w' v' l∧Below w.heap.size w w'∧NewI w.heap.size v':=by
 obtain⟨hl0,a,cap,rfl,hc⟩:=hp;have q22:∀ (w:World) (a:Option Addr) (n c n' c':Nat),(binOp .eql 27 (.slice a n c) (.slice none n' c')).run Tryz.prog w=.ok (.bool a.isNone) w:=fun w a n c n' c'=>Lib.run_eql_slice_nil w _ _ a n c n' c' Tryz.underlying27
 cases a with
 | none =>
  obtain rfl:l=[]:=by
   rcases hc with h | ⟨b,o,h,-⟩
   ·exact h
   ·cases h
  go_enter Tryz.func30,Tryz.ntmps30;go_wp2;go_ret;exact⟨_,rfl,Za.nil _ _,Below.refl _ _,NewI.nil _⟩
 | some ad =>
  have hcell:∀ j u,(l.map (Value.int .i64))[j]?=some u→(w.alloc (.cells #[] 3)).cell? (ad.add j)=some u:=fun j u hu=>by
   rcases hc with rfl | ⟨b,o,h,hb,hc⟩
   ·simp at hu
   ·cases h
    have hj:j<l.length:=by have:=(List.getElem?_eq_some_iff.1 hu).1;simpa using this
    have e:u=.int .i64 (l.getD j 0):=by
     rw [List.getElem?_map,List.getElem?_eq_getElem hj] at hu;simp only [Option.map_some,Option.some.injEq] at hu;rw [← hu,List.getD,List.getElem?_eq_getElem hj];rfl
    rw [e,show (⟨b,o,none⟩:Addr).add j=⟨b,o+j,none⟩ by first | rfl | simp [Addr.add]]
    exact (((Below.refl w.heap.size w).alloc (Nat.le_refl _) (.cells #[] 3)).cell (p:=⟨b,o+j,none⟩) hb).trans (hc j hj)
  have HCE:=Lib.hid hcell;obtain⟨i0,hi0,hz0',hz1',hz2'⟩:=info_parts intInfo;have HI:=Lib.hid hi0;have hA:=Lib.hid ((Below.refl w.heap.size w).alloc (Nat.le_refl _) (.cells #[] 3));have hr:=Lib.hid (World.ownsRow_lit (base:=w.heap.size) (e:=3) (size:=1) w #[] 0 (Nat.le_refl _) (by unfold maxLen;omega) (by simp))
  clear hcell hi0 hc;go_enter Tryz.func30,Tryz.ntmps30;go_wp2_with (at_builtin;refine wpList_append_own _ rfl _ _ 27 rfl w.heap.size 3 i0 (.int .i64 0) 1 8 Tryz.underlying27 HI.out hz0' hz1' hz2' rfl (by decide) _ _ _ rfl hr.out ad l.length (l.length+cap) (l.map (Value.int .i64)) rfl (by simp) HCE.out (by intro x hx;obtain⟨y,-,rfl⟩:=List.mem_map.1 hx;rfl) (by unfold maxLen;omega) (by omega) (by simp) ?_;intro v' w2 r2 g2 _)
  rw [Nat.zero_add,List.nil_append] at r2;have B2:=hA.out.trans (Z1n hr.out g2 (Nat.le_refl _) hA.out.size);have P2:=Za.own r2 (by omega)
  have N2:NewI w.heap.size v':=fun b o n c e=>(r2.lt b (by rw [e];rfl)).1
  go_ret;exact⟨_,rfl,P2,B2,N2⟩
instance (l:List Pt) (s t:Pt):Decidable (Nx l s t):=by unfold Nx;infer_instance
def hullB (l h:List Pt):Bool:=decide (l≠[]∧1≤h.length∧(nth h 0 ∈ l∧∀ x,x ∈ l→¬ LexLt x (nth h 0))∧(∀ i,i<h.length→Nx l (nth h i) (nth h ((i+1) % h.length)))∧(∀ i,i<h.length→0<i→nth h i≠nth h 0))
theorem Z7o {l h:List Pt} (k:hullB l h=true):hullP l=h:=by
 simp only [hullB,decide_eq_true_eq] at k;obtain⟨h1,h2,h3,h4,h5⟩:=k;exact (Z29 ⟨fun e=>absurd e h1,fun _=>h2,fun _=>h3,h4,fun i h0 hi=>h5 i hi h0⟩).symm
theorem Z75 {ax ay bx by' n : Int} (h0 : 0 ≤ n) (h : (ax-bx) * (ax-bx) + (ay-by') * (ay-by') ≤ n * n) (h2 : (n-1) * (n-1) < (ax-bx) * (ax-bx) + (ay-by') * (ay-by')) : distV ax ay bx by' = n := by
 unfold distV;generalize (ax-bx)*(ax-bx)+(ay-by')*(ay-by')=s at *
 have hs:=Z3b (s:=s) (by
  have:0≤(n-1)*(n-1):=by
   rcases Int.le_total 0 (n-1) with h | h
   ·exact Int.mul_nonneg h h
   ·have:=Int.mul_nonneg (show 0≤-(n-1) by omega) (show 0≤-(n-1) by omega)
    rwa [Int.neg_mul_neg] at this
  omega)
 have h1:=hs.2.2 n h0 h;rcases Int.lt_or_le (rootUp s) n with h3 | h3
 ·have h4:=Int.mul_le_mul (show rootUp s≤n-1 by omega) (show rootUp s≤n-1 by omega) hs.1 (by omega)
  have:=hs.2.1;omega
 ·omega
end
set_option maxRecDepth 100000 in
theorem Z6S:Z5 10=[⟨-10,-5⟩,⟨-5,-10⟩,⟨5,-10⟩,⟨10,-5⟩,⟨10,5⟩,⟨5,10⟩,⟨-5,10⟩,⟨-10,5⟩]:=Z7o (by decide +kernel)
section
attribute [local irreducible] wpQuiet
open Go.RowKit
noncomputable def cvB (c:Crt) (i:Int) (r:List (List Pt)):Bool:=if 0≤i∧i<c.psg.length then rwB r (pgd c.psg i.toNat).cor else false
noncomputable def cvE (c:Crt) (i:Int) (r:List (List Pt)):Int:=if 0≤i∧i<c.psg.length then rwE r (pgd c.psg i.toNat).cor else 1
theorem Z2v (c:Crt) (vs vp ve vr:Value) (i:Int) (r:List (List Pt)) (w:World) (hc:CrtAt w.heap.size w c vs vp ve) (hr:Z7 w.heap.size w vr r) :
  Calls Tryz.prog 15 #[.agg #[vs,vp,ve],.int .i64 i,vr] w fun e w'=>e=.returned (.tuple #[.bool (cvB c i r),.int .i64 (cvE c i r)])∧Below w.heap.size w w':=by
 have f1:=fun vq q w1 (B:Below w.heap.size w w1) h=>Z6J vr r vq q w1 ((hr.below B).mono B.size) h
 have H1:cvB c i r=if 0≤i∧i<c.psg.length then rwB r (pgd c.psg i.toNat).cor else false:=rfl
 have H2:cvE c i r=if 0≤i∧i<c.psg.length then rwE r (pgd c.psg i.toNat).cor else 1:=rfl
 generalize cvB c i r=x at *;generalize cvE c i r=y at *;obtain⟨⟨-,aS,cS,rfl,-⟩,⟨-,ap,cp,rfl,hcp⟩,⟨-,ar,cr,rfl,-⟩⟩:=hc;obtain⟨-,a4,c4,rfl,-⟩:=hr;replace f1:=Lib.hid f1;have BW:=Lib.hid (Below.refl w.heap.size w);by_cases h1:i<0
 ·have d1:decide (i<0)=true:=by rw [decide_eq_true_eq];exact h1
  have HV:=Lib.hid (And.intro (show x=false by rw [H1,if_neg (by omega)]) (show y=1 by rw [H2,if_neg (by omega)]))
  clear H1 H2 h1 hcp;go_enter Tryz.func15,Tryz.ntmps15;go_wp2;go_ret2;exact⟨by rw [HV.out.1,HV.out.2];rfl,zB2⟩
 have d1:decide (i<0)=false:=by rw [decide_eq_false_iff_not];exact h1
 by_cases h2:i<c.psg.length;rotate_left
 ·have d2:decide (i≥(c.psg.length:Int))=true:=zTy
  have HV:=Lib.hid (And.intro (show x=false by rw [H1,if_neg (by omega)]) (show y=1 by rw [H2,if_neg (by omega)]))
  clear H1 H2 h1 h2 hcp;go_enter Tryz.func15,Tryz.ntmps15;go_wp2_with fail;have e1:(w.alloc (.cells #[.slice aS c.stops.length (c.stops.length+cS),.slice ap c.psg.length (c.psg.length+cp),.slice ar c.ret.length (c.ret.length+cr)] 30)).cell? ⟨w.heap.size,1,none⟩=some (.slice ap c.psg.length (c.psg.length+cp)):=(Has.new w #[.slice aS c.stops.length (c.stops.length+cS),.slice ap c.psg.length (c.psg.length+cp),.slice ar c.ret.length (c.ret.length+cr)] 30).cell (i:=1) rfl;go_wp2;go_ret2;exact⟨by rw [HV.out.1,HV.out.2];rfl,zB2⟩
 have d2:decide (i≥(c.psg.length:Int))=false:=zFy;obtain⟨k,rfl⟩:∃ k:Nat,i=k:=⟨i.toNat,by omega⟩
 have hk:k<c.psg.length:=by omega
 have HV:=Lib.hid (And.intro (show x=rwB r (pgd c.psg k).cor by rw [H1,if_pos ⟨by omega,h2⟩,Int.toNat_natCast]) (show y=rwE r (pgd c.psg k).cor by rw [H2,if_pos ⟨by omega,h2⟩,Int.toNat_natCast]))
 obtain⟨b,o,rfl,hb,hcp⟩:=hcp.resolve_left (by intro h;rw [h] at hk;simp at hk)
 obtain⟨u,x0,hu,-⟩:=hcp k hk;obtain⟨au,cu,rfl⟩:=hu.len;have f2:=Lib.hid (fun w1 B=>f1.out _ _ w1 B ((hu.below B).mono B.size))
 generalize rwB r (pgd c.psg k).cor=x' at *;generalize rwE r (pgd c.psg k).cor=y' at *;generalize (pgd c.psg k).cor=cl at *;have k0:(0:Int)≤(k:Int):=by omega
 clear hcp hu H1 H2 f1 h1;go_enter Tryz.func15,Tryz.ntmps15;go_upto_region 1 with fail
 generalize hXX0:World.alloc w _=X0;obtain⟨q0,hA,hzX0⟩:=box1 hXX0;clear hXX0;have BW:=Lib.hid hA;clear hA;have CB:=Lib.hid q0;clear q0 hzX0;have e1:=CB.out.cell (i:=1) rfl;replace x0:=(BW.out.cell (p:=⟨b,o+k*5,none⟩) hb).trans x0;go_wp2_with fail;refine (f2.out _ BW.out).mono ?_;rintro e w1 ⟨rfl,b1⟩;replace BW:=zAg BW b1;have B_X0:=Lib.hid b1;clear b1 x0 e1;go_wp2;go_ret2;exact⟨by rw [HV.out.1,HV.out.2];rfl,BW.out⟩
theorem Z5W (c:Crt) (vs vp ve us up ue:Value) (w:World) (hc:CrtAt w.heap.size w c vs vp ve) (hd:CrtAt w.heap.size w c us up ue) :
  Calls Tryz.prog 12 #[.agg #[vs,vp,ve],.agg #[us,up,ue]] w fun e w'=>e=.returned (.bool true)∧Below w.heap.size w w':=by
 have f1:=fun w1 (B:Below w.heap.size w w1)=>Z45 vs us c.stops c.stops w1 ((hc.1.below B).mono B.size) ((hd.1.below B).mono B.size)
 have f2:=fun w1 (B:Below w.heap.size w w1)=>Z45 ve ue c.ret c.ret w1 ((hc.2.2.below B).mono B.size) ((hd.2.2.below B).mono B.size)
 have f3:=fun vx vy (p:List Pt) w1 hx hy=>Z6f vx vy p p w1 hx hy
 rw [decide_eq_true rfl] at f1 f2;simp only [decide_true] at f3;obtain⟨⟨-,aS,cS,rfl,-⟩,⟨hpl,ap,cp,rfl,hcp⟩,⟨-,ar,cr,rfl,-⟩⟩:=hc;obtain⟨⟨-,aS',cS',rfl,-⟩,⟨-,ap',cp',rfl,hdp⟩,⟨-,ar',cr',rfl,-⟩⟩:=hd;have HCP:=Lib.hid hcp;have HDP:=Lib.hid hdp;replace f1:=Lib.hid f1;replace f2:=Lib.hid f2;replace f3:=Lib.hid f3;clear hcp hdp;obtain⟨n,hn⟩:∃ n,c.psg.length=n:=⟨_,rfl⟩;have HN:=Lib.hid hn;have hnb:n≤70368744177663:=by rw [← hn];exact hpl
 rw [hn];clear hn hpl;have BW:=Lib.hid (Below.refl w.heap.size w);have dn:((n:Int) == (n:Int))=true:=by simp
 go_enter Tryz.func12,Tryz.ntmps12;go_wp2_with fail;generalize hXX0:World.alloc (World.alloc w _) _=X0;obtain⟨q0,q1,hA,hzX0⟩:=box2 hXX0;clear hXX0;have BW:=Lib.hid hA;clear hA;have CB:=Lib.hid q0;clear q0;have DB:=Lib.hid q1;clear q1 hzX0;have hc:=CB.out;have c0:=hc.cell (i:=0) rfl;have c1:=hc.cell (i:=1) rfl;have c2:=hc.cell (i:=2) rfl;have hd:=DB.out;have d0:=hd.cell (i:=0) rfl;have d1:=hd.cell (i:=1) rfl;have d2:=hd.cell (i:=2) rfl;refine (f1.out _ BW.out).mono ?_;rintro e w1 ⟨rfl,b1⟩;replace BW:=zAg BW b1;have B_X0:=Lib.hid b1;clear b1 hc c0 c1 c2 hd d0 d1 d2;have hc:=(zCw CB B_X0);have c0:=hc.cell (i:=0) rfl;have c1:=hc.cell (i:=1) rfl;have c2:=hc.cell (i:=2) rfl;have hd:=(zCw DB B_X0);have d0:=hd.cell (i:=0) rfl;have d1:=hd.cell (i:=1) rfl;have d2:=hd.cell (i:=2) rfl;go_wp2_with fail;refine (f2.out _ BW.out).mono ?_;rintro e w2 ⟨rfl,b2⟩;replace BW:=zAg BW b2;replace B_X0:=zAg B_X0 b2;clear b2 hc c0 c1 c2 hd d0 d1 d2;have hc:=(zCw CB B_X0);have c0:=hc.cell (i:=0) rfl;have c1:=hc.cell (i:=1) rfl;have c2:=hc.cell (i:=2) rfl;have hd:=(zCw DB B_X0);have d0:=hd.cell (i:=0) rfl;have d1:=hd.cell (i:=1) rfl;have d2:=hd.cell (i:=2) rfl;go_wp2;have hCB:=Lib.hid (zCw CB B_X0);have hDB:=Lib.hid (zCw DB B_X0);clear hc c0 c1 c2 hd d0 d1 d2
 go_loopw [5] (fun i wr=>∃ k:Nat,k≤n∧i=.int .i64 k∧Below w2.heap.size w2 wr) (fun i _=>n-(intOf i).toNat)
 case atStart=>exact⟨0,Nat.zero_le _,rfl,Below.refl _ _⟩
 case round =>
  obtain⟨k,hk,rfl,hB⟩:=hrel;obtain⟨wo,hwo⟩:∃ x,x=wr:=⟨_,rfl⟩;subst hwo;have BB:=Lib.hid hB;replace BW:=zAg BW hB;clear hB;have hCO:=Lib.hid (zCw hCB BB);have hDO:=Lib.hid (zCw hDB BB);have BR:=Lib.hid (Below.refl wo.heap.size wo);by_cases hlt:k<n
  ·obtain⟨b,o,rfl,hb,hc⟩:=HCP.out.resolve_left (by intro h;have:=HN.out;rw [h] at this;simp at this;omega)
   obtain⟨b',o',rfl,hb',hd⟩:=HDP.out.resolve_left (by intro h;have:=HN.out;rw [h] at this;simp at this;omega)
   obtain⟨u,x0,hu,x1,x2,x3,x4⟩:=hc k (by rw [HN.out];exact hlt)
   obtain⟨v,y0,hv,y1,y2,y3,y4⟩:=hd k (by rw [HN.out];exact hlt)
   generalize pgd c.psg k=p at *;have HU:=Lib.hid ((hu.below BW.out).mono BW.out.size);have HV:=Lib.hid ((hv.below BW.out).mono BW.out.size);obtain⟨au,cu,rfl⟩:=HU.out.len;obtain⟨av,cv,rfl⟩:=HV.out.len;replace x0:=(BW.out.cell (p:=⟨b,o+k*5,none⟩) hb).trans x0;have Y0:=Lib.hid ((BW.out.cell (p:=⟨b',o'+k*5,none⟩) hb').trans y0);replace x1:=(BW.out.cell (p:=⟨b,o+k*5+1,none⟩) hb).trans x1;have Y1:=Lib.hid ((BW.out.cell (p:=⟨b',o'+k*5+1,none⟩) hb').trans y1);replace x2:=(BW.out.cell (p:=⟨b,o+k*5+2,none⟩) hb).trans x2;have Y2:=Lib.hid ((BW.out.cell (p:=⟨b',o'+k*5+2,none⟩) hb').trans y2);replace x3:=(BW.out.cell (p:=⟨b,o+k*5+3,none⟩) hb).trans x3;have Y3:=Lib.hid ((BW.out.cell (p:=⟨b',o'+k*5+3,none⟩) hb').trans y3);replace x4:=(BW.out.cell (p:=⟨b,o+k*5+4,none⟩) hb).trans x4;have Y4:=Lib.hid ((BW.out.cell (p:=⟨b',o'+k*5+4,none⟩) hb').trans y4);have dk:decide ((k:Int)<(n:Int))=true:=zTy;have kl:(k:Int)<(n:Int):=by omega
   have k0:(0:Int)≤(k:Int):=by omega
   have hbz:=Nat.lt_of_lt_of_le hb' BW.out.size;clear hc hd hu hv y0 y1 y2 y3 y4;have hc:=hCO.out;have c0:=hc.cell (i:=0) rfl;have c1:=hc.cell (i:=1) rfl;have c2:=hc.cell (i:=2) rfl;have hd:=hDO.out;have d0:=hd.cell (i:=0) rfl;have d1:=hd.cell (i:=1) rfl;have d2:=hd.cell (i:=2) rfl;go_upto_region 7 with fail
   generalize hXX6:World.alloc wo _=X6;obtain⟨q0,hA,hzX6⟩:=box1 hXX6;clear hXX6;replace BW:=zAg BW hA;have BR:=Lib.hid hA;clear hA;have PB:=Lib.hid q0;clear q0 hc c0 c1 c2 hd d0 d1 d2;have hc:=(zCw hCO BR);have c0:=hc.cell (i:=0) rfl;have c1:=hc.cell (i:=1) rfl;have c2:=hc.cell (i:=2) rfl;have hd:=(zCw hDO BR);have d0:=hd.cell (i:=0) rfl;have d1:=hd.cell (i:=1) rfl;have d2:=hd.cell (i:=2) rfl;clear x0 x1 x2 x3 x4;have y0:=(BR.out.cell (p:=⟨b',o'+k*5,none⟩) hbz).trans Y0.out;have y1:=(BR.out.cell (p:=⟨b',o'+k*5+1,none⟩) hbz).trans Y1.out;have y2:=(BR.out.cell (p:=⟨b',o'+k*5+2,none⟩) hbz).trans Y2.out;have y3:=(BR.out.cell (p:=⟨b',o'+k*5+3,none⟩) hbz).trans Y3.out;have y4:=(BR.out.cell (p:=⟨b',o'+k*5+4,none⟩) hbz).trans Y4.out;go_upto_region 8 with fail
   generalize hXX7:World.alloc X6 _=X7;obtain⟨q0,hA,hzX7⟩:=box1 hXX7;clear hXX7;replace BW:=zAg BW hA;replace BR:=zAg BR hA;have B_X6:=Lib.hid hA;clear hA;have QB:=Lib.hid q0;clear q0 y0 y1 y2 y3 y4;replace QB:=QB.out;rw [hzX6] at QB;replace QB:=Lib.hid QB;clear hc c0 c1 c2 hd d0 d1 d2;have hp:=(zCw PB B_X6);have x0:=hp.cell (i:=0) rfl;have x1:=hp.cell (i:=1) rfl;have x2:=hp.cell (i:=2) rfl;have x3:=hp.cell (i:=3) rfl;have x4:=hp.cell (i:=4) rfl;have hq:=QB.out;have y0:=hq.cell (i:=0) rfl;have y1:=hq.cell (i:=1) rfl;have y2:=hq.cell (i:=2) rfl;have y3:=hq.cell (i:=3) rfl;have y4:=hq.cell (i:=4) rfl;go_wp2_with fail;refine (f3.out _ _ p.cor X7 ((HU.out.below BR.out).mono BR.out.size) ((HV.out.below BR.out).mono BR.out.size)).mono ?_;rintro e w3 ⟨rfl,b3⟩;replace BW:=zAg BW b3;replace BR:=zAg BR b3;replace B_X6:=zAg B_X6 b3;have B_X7:=Lib.hid b3;clear b3 hp x0 x1 x2 x3 x4 hq y0 y1 y2 y3 y4;have hp:=(zCw PB B_X6);have x0:=hp.cell (i:=0) rfl;have x1:=hp.cell (i:=1) rfl;have x2:=hp.cell (i:=2) rfl;have x3:=hp.cell (i:=3) rfl;have x4:=hp.cell (i:=4) rfl;have hq:=(zCw QB B_X7);have y0:=hq.cell (i:=0) rfl;have y1:=hq.cell (i:=1) rfl;have y2:=hq.cell (i:=2) rfl;have y3:=hq.cell (i:=3) rfl;have y4:=hq.cell (i:=4) rfl;have e1:(p.fr == p.fr)=true:=by simp
   have e2:(p.tw == p.tw)=true:=by simp
   have e3:(p.tm == p.tm)=true:=by simp
   have e4:(p.en == p.en)=true:=by simp
   go_wp2;go_roundw
   case rel=>exact⟨k+1,by omega,by go_num,BB.out.trans (BR.out.mono BB.out.size)⟩
   case measure=>simp [intOf];omega
  obtain rfl:k=n:=by omega
  have jj:decide ((k:Int)<(k:Int))=false:=by simp
  have hc:=hCO.out;have c0:=hc.cell (i:=0) rfl;have c1:=hc.cell (i:=1) rfl;have c2:=hc.cell (i:=2) rfl;have hd:=hDO.out;have d0:=hd.cell (i:=0) rfl;have d1:=hd.cell (i:=1) rfl;have d2:=hd.cell (i:=2) rfl;go_wp2;go_ret;exact⟨rfl,BW.out⟩
theorem Z8d (vr : Value) (ls : List (List Pt)) (w : World) (hr : Z7 w.heap.size w vr ls) :
  Calls Tryz.prog 109 #[vr] w fun e w'=>e=.returned (.bool (polysB ls))∧Below w.heap.size w w':=by
 obtain⟨hll,ar,capr,rfl,hrc⟩:=hr;have HRC:=Lib.hid hrc;clear hrc;go_enter Tryz.func109,Tryz.ntmps109;go_wp2
 go_loopw [3] (fun i wr=>∃ k:Nat,k≤ls.length∧i=.int .i64 (k:Int)∧(∀ j,j<k→Zc (rk ls j)=true)∧Below w.heap.size w wr) (fun i _=>ls.length-(intOf i).toNat)
 case atStart=>exact⟨0,by omega,rfl,fun j h=>by omega,Below.refl _ _⟩
 case round =>
  obtain⟨k,hk,rfl,hall,hB⟩:=hrel;have HALL:=Lib.hid hall;clear hall;by_cases hlt:k<ls.length
  ·have dk:decide ((k:Int)<(ls.length:Int))=true:=by simp;omega
   obtain⟨b,o,rfl,hb,hcc⟩:∃ b o,ar=some ⟨b,o,none⟩∧b<w.heap.size∧∀ j,j<ls.length→∃ u,w.cell? ⟨b,o+j,none⟩=some u∧Z8 w.heap.size w u (rk ls j):=by
    rcases HRC.out with h | h
    ·rw [h] at hlt;simp at hlt
    ·exact h
   obtain⟨u,hu,hpu⟩:=hcc k hlt;have e0:=(hB.cell (p:=⟨b,o+k,none⟩) hb).trans hu;have hv:=Z0h u (rk ls k) wr ((hpu.below hB).mono hB.size);rw [← Z0r] at hv;have kl:(k:Int)<ls.length:=by omega
   have k0:(0:Int)≤k:=by omega
   have hzr:=hB.size;have HB:=Lib.hid hB;clear hcc hu hpu hB;cases hg:Zc (rk ls k)
   ·rw [hg] at hv
    have hv':=Lib.hid hv;have hr:polysB ls=false:=by
     unfold polysB;exact decide_eq_false fun h=>by rw [h k hlt] at hg;cases hg
    have HR:=Lib.hid hr;clear hg hv hr;go_wp2_with fail;refine hv'.out.mono ?_;rintro e w3 ⟨rfl,hb3⟩;have B3:=Lib.hid (HB.out.trans (hb3.mono hzr));clear hb3;go_wp2;exact bodyPost_ret (results_tmp rfl _ _ _) rfl ⟨by rw [HR.out];rfl,B3.out⟩
   ·rw [hg] at hv
    have hv':=Lib.hid hv;have HALL2:Hid (∀ j,j<k+1→Zc (rk ls j)=true):=fun j hj=>by
     by_cases e:j=k
     ·rw [e];exact hg
     ·exact HALL.out j (by omega)
    clear hg hv;go_wp2_with fail;refine hv'.out.mono ?_;rintro e w3 ⟨rfl,hb3⟩;have B3:=Lib.hid (HB.out.trans (hb3.mono hzr));clear hb3;go_wp2;go_roundw
    case rel=>exact⟨k+1,by omega,by go_num,HALL2.out,B3.out⟩
    case measure=>simp [intOf];omega
  ·obtain rfl:k=ls.length:=by omega
   have dk:decide ((ls.length:Int)<(ls.length:Int))=false:=by simp
   have hr:polysB ls=true:=Z2o.2 HALL.out;have HR:=Lib.hid hr;have HB:=Lib.hid hB;clear hr hB;go_wp2;exact bodyPost_ret (results_tmp rfl _ _ _) rfl ⟨by rw [HR.out];rfl,HB.out⟩
theorem Z6K (v:Value) (l:List (List Pt)) (w:World) (hr:Z7 w.heap.size w v l) :
  Calls Tryz.prog 54 #[v] w fun e w'=>e=.returned (.bool (regB l))∧Below w.heap.size w w':=by
 have f:=Lib.hid (Z8d v l w hr);have HR:Hid (regB l=(decide (l.length≤32) && polysB l)):=rfl;generalize polysB l=b at *;obtain⟨hl,a,cap,rfl,hc⟩:=hr;by_cases h:l.length≤32
 ·have d:decide ((l.length:Int)≤32)=true:=zTy
  have HV:=Lib.hid (show regB l=b by rw [HR.out];simp [h])
  go_enter Tryz.func54,Tryz.ntmps54;go_wp2_with fail;refine f.out.mono ?_;rintro e w2 ⟨rfl,b2⟩;go_wp2;go_ret;exact⟨by rw [HV.out];rfl,b2⟩
 ·have d:decide ((l.length:Int)≤32)=false:=zFy
  have HV:=Lib.hid (show regB l=false by rw [HR.out];simp [h])
  clear h;go_enter Tryz.func54,Tryz.ntmps54;go_wp2;go_ret;exact⟨by rw [HV.out];rfl,Below.refl _ _⟩
theorem ZaI (v : Value) (l : List (List Pt)) (w : World) (hr : Z7 w.heap.size w v l) :
  Calls Tryz.prog 9 #[v] w fun e w'=>∃ b:Bool,e=.returned (.bool b)∧w'=w:=by
 obtain⟨hl,a,cap,rfl,hc⟩:=hr;have HC:=Lib.hid hc;clear hc;go_enter Tryz.func9,Tryz.ntmps9;go_wp2
 go_loopw [3,4] (fun s i wr=>∃ (k:Nat) (n:Int),k≤l.length∧k≤41∧s=.int .i64 n∧i=.int .i64 k∧wr=w) (fun _ i _=>41-(intOf i).toNat)
 case atStart=>exact⟨0,0,by omega,by omega,rfl,rfl,rfl⟩
 case round =>
  obtain⟨k,n,hk,hk4,rfl,rfl,rfl⟩:=hrel;by_cases h1:k<l.length
  ·have d1:decide ((k:Int)<(l.length:Int))=true:=zTy
   by_cases h2:k<41
   ·have d2:decide ((k:Int)<41)=true:=zTy
    obtain⟨b,o,rfl,hb,hcc⟩:=HC.out.resolve_left (by intro h;rw [h] at h1;simp at h1)
    obtain⟨u,hu,hpu⟩:=hcc k h1;obtain⟨au,cu,rfl⟩:=hpu.len;have kl:(k:Int)<l.length:=by omega
    have k0:(0:Int)≤k:=by omega
    clear hcc hpu;go_wp2;go_roundw
    case rel=>exact⟨k+1,_,by omega,by omega,rfl,by go_num,by first | rfl | trivial⟩
    case measure=>simp [intOf];omega
   ·have d2:decide ((k:Int)<41)=false:=zFy
    have d3:decide ((l.length:Int)≤40)=false:=zFy;go_wp2;go_ret;exact⟨_,rfl,rfl⟩
  ·have d1:decide ((k:Int)<(l.length:Int))=false:=zFy
   cases h3:decide ((l.length:Int)≤40)
   ·go_wp2
    go_ret;exact⟨_,rfl,rfl⟩
   ·go_wp2
    go_ret;exact⟨_,rfl,rfl⟩
theorem set11 {X Z:World} {B:Nat} {cs:Array Value} {T:TypeId} {v0 v1 v2 v3 v4 v5 v6 v7 v8 v9 v10:Value} (H:Has X B cs T) (hs:cs.size=11) (hz:(((((((((((X.setCell ⟨B,0,none⟩ v0).setCell ⟨B,1,none⟩ v1).setCell ⟨B,2,none⟩ v2).setCell ⟨B,3,none⟩ v3).setCell ⟨B,4,none⟩ v4).setCell ⟨B,5,none⟩ v5).setCell ⟨B,6,none⟩ v6).setCell ⟨B,7,none⟩ v7).setCell ⟨B,8,none⟩ v8).setCell ⟨B,9,none⟩ v9).setCell ⟨B,10,none⟩ v10)=Z) :
  Has Z B #[v0,v1,v2,v3,v4,v5,v6,v7,v8,v9,v10] T∧(∀ n,n≤B→Below n X Z)∧Z.heap.size=X.heap.size∧∀ b,b≠B→Z.heap[b]?=X.heap[b]?:=by
 subst hz;obtain⟨l,rfl⟩:∃ l:List Value,cs=l.toArray:=⟨cs.toList,by simp⟩
 obtain⟨u0,u1,u2,u3,u4,u5,u6,u7,u8,u9,u10,rfl⟩:∃ u0 u1 u2 u3 u4 u5 u6 u7 u8 u9 u10,l=[u0,u1,u2,u3,u4,u5,u6,u7,u8,u9,u10]:=by
  match l,hs with
  | [u0,u1,u2,u3,u4,u5,u6,u7,u8,u9,u10],_=>exact⟨_,_,_,_,_,_,_,_,_,_,_,rfl⟩
 refine⟨?_,fun n hn=>?_,by simp,fun b hb=>?_⟩
 ·have:=(((((((((((H.set 0 v0).set 1 v1).set 2 v2).set 3 v3).set 4 v4).set 5 v5).set 6 v6).set 7 v7).set 8 v8).set 9 v9).set 10 v10)
  simpa only [zq5,zr5,zs5] using this
 ·exact ((((((((((((Below.refl n X).setCell (p:=⟨B,0,none⟩) hn v0).setCell (p:=⟨B,1,none⟩) hn v1).setCell (p:=⟨B,2,none⟩) hn v2).setCell (p:=⟨B,3,none⟩) hn v3).setCell (p:=⟨B,4,none⟩) hn v4).setCell (p:=⟨B,5,none⟩) hn v5).setCell (p:=⟨B,6,none⟩) hn v6).setCell (p:=⟨B,7,none⟩) hn v7).setCell (p:=⟨B,8,none⟩) hn v8).setCell (p:=⟨B,9,none⟩) hn v9).setCell (p:=⟨B,10,none⟩) hn v10)
 ·iterate 11 (rw [Below.heap_setCell _ _ _ _ (by exact hb)])
def fewC (c:Crt):Bool:=decide (c.psg.length≤12) && (decide (c.ret.length≤12) && decide (c.stops.length≤12))
theorem Z7Q (c:Crt) (vs vp ve:Value) (w:World) (hc:CrtAt w.heap.size w c vs vp ve) :
  Calls Tryz.prog 27 #[.agg #[vs,vp,ve]] w fun e w'=>e=.returned (.bool (fewC c))∧Below w.heap.size w w':=by
 have HF:Hid (fewC c=(decide (c.psg.length≤12) && (decide (c.ret.length≤12) && decide (c.stops.length≤12)))):=rfl;generalize fewC c=fc at *;obtain⟨⟨-,aS,cS,rfl,-⟩,⟨-,ap,cp,rfl,-⟩,⟨-,ar,cr,rfl,-⟩⟩:=hc;have H:=Has.new w #[.slice aS c.stops.length (c.stops.length+cS),.slice ap c.psg.length (c.psg.length+cp),.slice ar c.ret.length (c.ret.length+cr)] 30;have e0:=H.cell (i:=0) rfl;have e1:=H.cell (i:=1) rfl;have e2:=H.cell (i:=2) rfl;clear H;generalize c.psg.length=a at *;generalize c.ret.length=b at *;generalize c.stops.length=s at *;by_cases h1:a≤12;rotate_left
 ·have d1:decide ((a:Int)≤12)=false:=zFy
  have HV:=Lib.hid (show fc=false by rw [HF.out,decide_eq_false h1];rfl)
  clear h1;go_enter Tryz.func27,Tryz.ntmps27;go_wp2;go_ret;exact⟨by rw [HV.out];rfl,zB2⟩
 have d1:decide ((a:Int)≤12)=true:=zTy;by_cases h2:b≤12;rotate_left
 ·have d2:decide ((b:Int)≤12)=false:=zFy
  have HV:=Lib.hid (show fc=false by rw [HF.out,decide_eq_false h2];simp)
  clear h1 h2;go_enter Tryz.func27,Tryz.ntmps27;go_wp2;go_ret;exact⟨by rw [HV.out];rfl,zB2⟩
 have d2:decide ((b:Int)≤12)=true:=zTy;by_cases h3:s≤12
 ·have d3:decide ((s:Int)≤12)=true:=zTy
  have HV:=Lib.hid (show fc=true by rw [HF.out,decide_eq_true h1,decide_eq_true h2,decide_eq_true h3];rfl)
  clear h1 h2 h3;go_enter Tryz.func27,Tryz.ntmps27;go_wp2;go_ret;exact⟨by rw [HV.out];rfl,zB2⟩
 ·have d3:decide ((s:Int)≤12)=false:=zFy
  have HV:=Lib.hid (show fc=false by rw [HF.out,decide_eq_true h1,decide_eq_true h2,decide_eq_false h3];rfl)
  clear h1 h2 h3;go_enter Tryz.func27,Tryz.ntmps27;go_wp2;go_ret;exact⟨by rw [HV.out];rfl,zB2⟩
theorem Z9G (m:Msn) (vw vh vr:Value) (c:Crt) (vs vp ve:Value) (w:World) (hm:MsnAt w.heap.size w m vw vh vr) (hc:CrtAt w.heap.size w c vs vp ve) :
  Calls Tryz.prog 8 #[.agg (Zd m vw vh vr),.agg #[vs,vp,ve]] w fun e w'=>e=.returned (.bool (fewB m && fewC c))∧Below w.heap.size w w':=by
 have f1:=fun w1 (B:Below w.heap.size w w1)=>ZbA m vw vh vr w1 ((hm.below B).mono B.size)
 have f2:=fun w1 (B:Below w.heap.size w w1)=>Z7Q c vs vp ve w1 ((hc.below B).mono B.size)
 generalize fewB m=b1 at *;generalize fewC c=b2 at *;obtain⟨⟨-,a1,cap1,rfl,-⟩,⟨-,a2,cap2,rfl,-⟩,⟨-,a3,cap3,rfl,-⟩⟩:=hm;obtain⟨⟨-,aS,cS,rfl,-⟩,⟨-,ap,cp,rfl,-⟩,⟨-,ar,cr,rfl,-⟩⟩:=hc;unfold Zd at *;replace f1:=Lib.hid f1;replace f2:=Lib.hid f2;have BW:=Lib.hid (Below.refl w.heap.size w);go_enter Tryz.func8,Tryz.ntmps8;go_wp2_with fail;generalize hXX0:World.alloc (World.alloc w _) _=X0;obtain⟨q0,q1,hA,hzX0⟩:=box2 hXX0;clear hXX0;have BW:=Lib.hid hA;clear hA;have MB:=Lib.hid q0;clear q0;have CB:=Lib.hid q1;clear q1 hzX0;have hk:=CB.out;have k0':=hk.cell (i:=0) rfl;have k1':=hk.cell (i:=1) rfl;have k2':=hk.cell (i:=2) rfl;refine (f1.out _ BW.out).mono ?_;rintro e w1 ⟨rfl,b1⟩;replace BW:=zAg BW b1;have B_X0:=Lib.hid b1;clear b1 hk k0' k1' k2';have hk:=(zCw CB B_X0);have k0':=hk.cell (i:=0) rfl;have k1':=hk.cell (i:=1) rfl;have k2':=hk.cell (i:=2) rfl;cases b1
 ·go_wp2
  go_ret;exact⟨rfl,BW.out⟩
 go_wp2_with fail;refine (f2.out _ BW.out).mono ?_;rintro e w2 ⟨rfl,b2⟩;replace BW:=zAg BW b2;replace B_X0:=zAg B_X0 b2;clear b2 hk k0' k1' k2';have hk:=(zCw CB B_X0);have k0':=hk.cell (i:=0) rfl;have k1':=hk.cell (i:=1) rfl;have k2':=hk.cell (i:=2) rfl;go_wp2;go_ret;exact⟨rfl,BW.out⟩
end
end Go.Proofs.YtpimbaaahcemhaaGreat
