/- landfallref03's Bounds, Octagon, Fewer; landfallref04's polygon, both, Met; landfallref33's Touches, Index. | package mink: plus, the function that .. -/
import Derived.Test.YtpimbaaahcemhaaGreatBin25
set_option linter.unusedSimpArgs false
set_option maxRecDepth 8000
set_option maxHeartbeats 3000000
namespace Go.Proofs.YtpimbaaahcemhaaGreat
section
attribute [local irreducible] wpQuiet
open Go.RowKit
def linP (a b:Int) (p:Pt):Int:=a*p.x+b*p.y
theorem Z9b {f:Pt→Int} {l:List Pt} {m:Int} (h:∀ k,k<l.length→-m≤f (nth l k)∧f (nth l k)≤m) (h1:1≤l.length):∀ k,k≤l.length→(-m≤loTo f l k∧loTo f l k≤m)∧(-m≤hiTo f l k∧hiTo f l k≤m)
 | 0,_=>⟨h 0 (by omega),h 0 (by omega)⟩
 | k + 1, hk => by
  have ih:=Z9b h h1 k (by omega)
  have:=h k (by omega)
  simp only [loTo,hiTo];constructor <;> split <;> omega
theorem Zbt {a b:Int} (ha:-1≤a∧a≤1) (hb:-1≤b∧b≤1) {p:Pt} (hp:Z4 p=true):-1000000≤linP a b p∧linP a b p≤1000000:=by
 have:=ZS.1 hp;have x:=ZF (a:=a) (b:=p.x) (m:=1) (n:=500000) (by omega) (by omega) (by omega) (by omega)
 have y:=ZF (a:=b) (b:=p.y) (m:=1) (n:=500000) (by omega) (by omega) (by omega) (by omega)
 unfold linP;omega
theorem Zay (f:Pt→Int) (l:List Pt):loTo f l 1=f (nth l 0):=ite_self _
theorem ZaG (f:Pt→Int) (l:List Pt):hiTo f l 1=f (nth l 0):=ite_self _
theorem Z1z (v : Value) (l : List Pt) (a b : Int) (w : World) (hp : Z8 w.heap.size w v l) (h1 : 0 < l.length) (hl : ∀ k, k < l.length → Z4 (nth l k) = true) (ha : -1 ≤ a ∧ a ≤ 1) (hb : -1 ≤ b ∧ b ≤ 1) :
  Calls Tryz.prog 211 #[v,.int .i64 a,.int .i64 b] w fun e w'=>e=.returned (.tuple #[.int .i64 (loTo (linP a b) l l.length),.int .i64 (hiTo (linP a b) l l.length)])∧Below w.heap.size w w':=by
 obtain⟨hll,ad,cap,rfl,hc⟩:=hp;obtain⟨bk,o,rfl,hbk,hc⟩:=hc.resolve_left (by intro h;rw [h] at h1;simp at h1)
 have HC:=Lib.hid hc;have HB:Hid (∀ k,k<l.length→(∀ x y:Int,nth l k=⟨x,y⟩→IntKind.i64.wrap (a*x)=a*x∧IntKind.i64.wrap (b*y)=b*y∧IntKind.i64.wrap (a*x+b*y)=a*x+b*y)):=fun k hk x y e=>by
  have:=ZS.1 (hl k hk);rw [e] at this;simp only at this;have p1:=ZF (a:=a) (b:=x) (m:=1) (n:=500000) (by omega) (by omega) (by omega) (by omega)
  have p2:=ZF (a:=b) (b:=y) (m:=1) (n:=500000) (by omega) (by omega) (by omega) (by omega)
  exact⟨zW2,zW2,zW2⟩
 obtain⟨q0,q1⟩:=hc 0 h1;rw [Nat.zero_mul,Nat.add_zero] at q0 q1;have ho1:=Zay (linP a b) l;have ho2:=ZaG (linP a b) l;obtain⟨⟨x0,y0⟩,h0⟩:∃ p,nth l 0=p:=⟨_,rfl⟩;obtain⟨w1,w2,w3⟩:=HB.out 0 h1 _ _ h0;rw [h0] at q0 q1 ho1 ho2;simp only at q0 q1;have HO:Hid (loTo (linP a b) l 1=a*x0+b*y0∧hiTo (linP a b) l 1=a*x0+b*y0):=⟨ho1,ho2⟩;have l0:=Low.fact q0;have l1:=Low.fact q1;have i0:(0:Int)<l.length:=by omega
 have ne:¬ l=[]:=by intro h;rw [h] at h1;simp at h1
 clear hc hl ha hb ho1 ho2 h0 q0 q1;go_enter Tryz.func211,Tryz.ntmps211;go_wp2
 (refine Zg (by kernel_rfl) (by kernel_rfl) ?_;(iterate 14 (apply Zf;(case hw=>rfl);(case hval=>(intro w1 hw1;have hcx:=Low.cells hw1;simp only [Oper.quietAt];go_simp;first | done | rfl | exact⟨rfl,rfl⟩));simp only [Act.put,zq5,zr5,zs5]));refine wpQuiet_nil ?_;intro w2 hw2)
 have B0:=Lib.hid hw2.out;clear hw2 l0 l1;go_wp2
 go_loopw [8,9,10] (fun x y i wr=>∃ k:Nat,k<l.length∧i=.int .i64 ((k:Int)+1)∧x=.int .i64 (loTo (linP a b) l (k+1))∧y=.int .i64 (hiTo (linP a b) l (k+1))∧Below w.heap.size w wr) (fun _ _ i _=>l.length+1-(intOf i).toNat)
 case atStart=>exact⟨0,h1,rfl,by rw [HO.out.1],by rw [HO.out.2],B0.out⟩
 case round =>
  obtain⟨k,hk,rfl,hx,hy,hB⟩:=hrel;have hzB:=hB.size;by_cases hlt:k+1<l.length
  ·subst hx
   subst hy;obtain⟨q0,q1⟩:=HC.out (k+1) hlt;have e0:=(hB.cell (p:=⟨bk,o+(k+1)*2,none⟩) hbk).trans q0;have e1:=(hB.cell (p:=⟨bk,o+(k+1)*2+1,none⟩) hbk).trans q1;have hs:Hid (loTo (linP a b) l (k+1+1)=(if linP a b (nth l (k+1))<loTo (linP a b) l (k+1) then linP a b (nth l (k+1)) else loTo (linP a b) l (k+1))∧hiTo (linP a b) l (k+1+1)=(if hiTo (linP a b) l (k+1)<linP a b (nth l (k+1)) then linP a b (nth l (k+1)) else hiTo (linP a b) l (k+1))):=⟨rfl,rfl⟩
   obtain⟨⟨x,y⟩,h0⟩:∃ p,nth l (k+1)=p:=⟨_,rfl⟩;obtain⟨m1,m2,m3⟩:=HB.out (k+1) hlt _ _ h0;rw [h0] at e0 e1 hs;simp only at e0 e1;have hlin:Hid (linP a b ⟨x,y⟩=a*x+b*y):=rfl;rw [hlin.out] at hs;have dk:decide ((k:Int)+1<(l.length:Int))=true:=by simp;omega
   have kl:(k:Int)+1<l.length:=by omega
   have k0:(0:Int)≤(k:Int)+1:=by omega
   have kn:((k:Int)+1).toNat=k+1:=by omega
   generalize loTo (linP a b) l (k+1)=lo at *;generalize hiTo (linP a b) l (k+1)=hi at *;have l0:=Low.fact e0;have l1:=Low.fact e1;have HBB:=Lib.hid hB;clear q0 q1 hB h0 hlin;rcases Int.lt_or_le (a*x+b*y) lo with h1 | h1
   ·rcases Int.lt_or_le hi (a*x+b*y) with h2 | h2
    ·rw [if_pos h1,if_pos h2] at hs
     have e8:(if a*x+b*y<lo then a*x+b*y else lo)=a*x+b*y:=if_pos h1
     have e9:(if hi<a*x+b*y then a*x+b*y else hi)=a*x+b*y:=if_pos h2
     go_wp2
     (refine Zg (by kernel_rfl) (by kernel_rfl) ?_;(iterate 18 (apply Zf;(case hw=>rfl);(case hval=>(intro w1 hw1;have hcx:=Low.cells hw1;simp only [Oper.quietAt];go_simp;first | done | rfl | exact⟨rfl,rfl⟩));simp only [Act.put,zq5,zr5,zs5]));refine wpQuiet_nil ?_;intro w2 hw2)
     have c0:=hw2.cell e0;have c1:=hw2.cell e1;have l0:=Low.fact c0;have l1:=Low.fact c1;have HB2:=Lib.hid (HBB.out.trans (hw2.out.mono hzB));clear hw2 HBB e0 e1 hzB;generalize w2=X2 at *;go_wp2
     (refine Zg (by kernel_rfl) (by kernel_rfl) ?_;(iterate 18 (apply Zf;(case hw=>rfl);(case hval=>(intro w1 hw1;have hcx:=Low.cells hw1;simp only [Oper.quietAt];go_simp;first | done | rfl | exact⟨rfl,rfl⟩));simp only [Act.put,zq5,zr5,zs5]));refine wpQuiet_nil ?_;intro w2 hw2)
     have HB3:=Lib.hid (HB2.out.trans (hw2.out.mono HB2.out.size));clear hw2 l0 l1;go_wp2;go_roundw
     case rel=>exact⟨k+1,hlt,by go_num,by rw [hs.out.1],by rw [hs.out.2],HB3.out⟩
     case measure=>simp [intOf];omega
    ·rw [if_pos h1,if_neg (by omega)] at hs
     have e8:(if a*x+b*y<lo then a*x+b*y else lo)=a*x+b*y:=if_pos h1
     have e9:(if hi<a*x+b*y then a*x+b*y else hi)=hi:=if_neg (by omega)
     go_wp2
     (refine Zg (by kernel_rfl) (by kernel_rfl) ?_;(iterate 18 (apply Zf;(case hw=>rfl);(case hval=>(intro w1 hw1;have hcx:=Low.cells hw1;simp only [Oper.quietAt];go_simp;first | done | rfl | exact⟨rfl,rfl⟩));simp only [Act.put,zq5,zr5,zs5]));refine wpQuiet_nil ?_;intro w2 hw2)
     have c0:=hw2.cell e0;have c1:=hw2.cell e1;have l0:=Low.fact c0;have l1:=Low.fact c1;have HB2:=Lib.hid (HBB.out.trans (hw2.out.mono hzB));clear hw2 HBB e0 e1 hzB;generalize w2=X2 at *;go_wp2
     (refine Zg (by kernel_rfl) (by kernel_rfl) ?_;(iterate 18 (apply Zf;(case hw=>rfl);(case hval=>(intro w1 hw1;have hcx:=Low.cells hw1;simp only [Oper.quietAt];go_simp;first | done | rfl | exact⟨rfl,rfl⟩));simp only [Act.put,zq5,zr5,zs5]));refine wpQuiet_nil ?_;intro w2 hw2)
     have HB3:=Lib.hid (HB2.out.trans (hw2.out.mono HB2.out.size));clear hw2 l0 l1;go_wp2;go_roundw
     case rel=>exact⟨k+1,hlt,by go_num,by rw [hs.out.1],by rw [hs.out.2],HB3.out⟩
     case measure=>simp [intOf];omega
   ·rcases Int.lt_or_le hi (a*x+b*y) with h2 | h2
    ·rw [if_neg (by omega),if_pos h2] at hs
     have e8:(if a*x+b*y<lo then a*x+b*y else lo)=lo:=if_neg (by omega)
     have e9:(if hi<a*x+b*y then a*x+b*y else hi)=a*x+b*y:=if_pos h2
     go_wp2
     (refine Zg (by kernel_rfl) (by kernel_rfl) ?_;(iterate 18 (apply Zf;(case hw=>rfl);(case hval=>(intro w1 hw1;have hcx:=Low.cells hw1;simp only [Oper.quietAt];go_simp;first | done | rfl | exact⟨rfl,rfl⟩));simp only [Act.put,zq5,zr5,zs5]));refine wpQuiet_nil ?_;intro w2 hw2)
     have c0:=hw2.cell e0;have c1:=hw2.cell e1;have l0:=Low.fact c0;have l1:=Low.fact c1;have HB2:=Lib.hid (HBB.out.trans (hw2.out.mono hzB));clear hw2 HBB e0 e1 hzB;generalize w2=X2 at *;go_wp2
     (refine Zg (by kernel_rfl) (by kernel_rfl) ?_;(iterate 18 (apply Zf;(case hw=>rfl);(case hval=>(intro w1 hw1;have hcx:=Low.cells hw1;simp only [Oper.quietAt];go_simp;first | done | rfl | exact⟨rfl,rfl⟩));simp only [Act.put,zq5,zr5,zs5]));refine wpQuiet_nil ?_;intro w2 hw2)
     have HB3:=Lib.hid (HB2.out.trans (hw2.out.mono HB2.out.size));clear hw2 l0 l1;go_wp2;go_roundw
     case rel=>exact⟨k+1,hlt,by go_num,by rw [hs.out.1],by rw [hs.out.2],HB3.out⟩
     case measure=>simp [intOf];omega
    ·rw [if_neg (by omega),if_neg (by omega)] at hs
     have e8:(if a*x+b*y<lo then a*x+b*y else lo)=lo:=if_neg (by omega)
     have e9:(if hi<a*x+b*y then a*x+b*y else hi)=hi:=if_neg (by omega)
     go_wp2
     (refine Zg (by kernel_rfl) (by kernel_rfl) ?_;(iterate 18 (apply Zf;(case hw=>rfl);(case hval=>(intro w1 hw1;have hcx:=Low.cells hw1;simp only [Oper.quietAt];go_simp;first | done | rfl | exact⟨rfl,rfl⟩));simp only [Act.put,zq5,zr5,zs5]));refine wpQuiet_nil ?_;intro w2 hw2)
     have c0:=hw2.cell e0;have c1:=hw2.cell e1;have l0:=Low.fact c0;have l1:=Low.fact c1;have HB2:=Lib.hid (HBB.out.trans (hw2.out.mono hzB));clear hw2 HBB e0 e1 hzB;generalize w2=X2 at *;go_wp2
     (refine Zg (by kernel_rfl) (by kernel_rfl) ?_;(iterate 18 (apply Zf;(case hw=>rfl);(case hval=>(intro w1 hw1;have hcx:=Low.cells hw1;simp only [Oper.quietAt];go_simp;first | done | rfl | exact⟨rfl,rfl⟩));simp only [Act.put,zq5,zr5,zs5]));refine wpQuiet_nil ?_;intro w2 hw2)
     have HB3:=Lib.hid (HB2.out.trans (hw2.out.mono HB2.out.size));clear hw2 l0 l1;go_wp2;go_roundw
     case rel=>exact⟨k+1,hlt,by go_num,by rw [hs.out.1],by rw [hs.out.2],HB3.out⟩
     case measure=>simp [intOf];omega
  ·have hk1:k+1=l.length:=by omega
   rw [hk1] at hx hy;subst hx;subst hy;have dk:decide ((k:Int)+1<(l.length:Int))=false:=by simp;omega
   have HBB:=Lib.hid hB;clear hB hk1;go_wp2;go_ret2;exact⟨rfl,HBB.out⟩
def octP (l:List Pt):List Pt :=
 let a:=loTo (linP 1 0) l l.length;let b:=hiTo (linP 1 0) l l.length;let c:=loTo (linP 0 1) l l.length;let d:=hiTo (linP 0 1) l l.length
 let s:=loTo (linP 1 1) l l.length;let t:=hiTo (linP 1 1) l l.length;let u:=loTo (linP 1 (-1)) l l.length;let v:=hiTo (linP 1 (-1)) l l.length
 [⟨b,b-v⟩,⟨b,t-b⟩,⟨t-d,d⟩,⟨d+u,d⟩,⟨a,a-u⟩,⟨a,s-a⟩,⟨s-c,c⟩,⟨c+v,c⟩]
theorem Z6t (vl:Value) (l:List Pt) (w:World) (hp:Z8 w.heap.size w vl l) (h1:0<l.length) (hl:∀ k,k<l.length→Z4 (nth l k)=true) :
  Calls Tryz.prog 194 #[vl] w (PtsQ (hullP (octP l)) w):=by
 have f1:=Lib.hid (fun w1 (B:Below w.heap.size w w1)=>Z1z vl l 1 0 w1 ((hp.below B).mono B.size) h1 hl (by omega) (by omega))
 have f2:=Lib.hid (fun w1 (B:Below w.heap.size w w1)=>Z1z vl l 0 1 w1 ((hp.below B).mono B.size) h1 hl (by omega) (by omega))
 have f3:=Lib.hid (fun w1 (B:Below w.heap.size w w1)=>Z1z vl l 1 1 w1 ((hp.below B).mono B.size) h1 hl (by omega) (by omega))
 have f4:=Lib.hid (fun w1 (B:Below w.heap.size w w1)=>Z1z vl l 1 (-1) w1 ((hp.below B).mono B.size) h1 hl (by omega) (by omega))
 have bd:∀ a b:Int,-1≤a∧a≤1→-1≤b∧b≤1→_:=fun a b ha hb=>Z9b (f:=linP a b) (l:=l) (m:=1000000) (fun k hk=>Zbt ha hb (hl k hk)) (by omega) l.length (Nat.le_refl _)
 have x1:=bd 1 0 (by omega) (by omega)
 have x2:=bd 0 1 (by omega) (by omega)
 have x3:=bd 1 1 (by omega) (by omega)
 have x4:=bd 1 (-1) (by omega) (by omega)
 have ho:octP l=[⟨hiTo (linP 1 0) l l.length,hiTo (linP 1 0) l l.length-hiTo (linP 1 (-1)) l l.length⟩,⟨hiTo (linP 1 0) l l.length,hiTo (linP 1 1) l l.length-hiTo (linP 1 0) l l.length⟩,⟨hiTo (linP 1 1) l l.length-hiTo (linP 0 1) l l.length,hiTo (linP 0 1) l l.length⟩,⟨hiTo (linP 0 1) l l.length+loTo (linP 1 (-1)) l l.length,hiTo (linP 0 1) l l.length⟩,⟨loTo (linP 1 0) l l.length,loTo (linP 1 0) l l.length-loTo (linP 1 (-1)) l l.length⟩,⟨loTo (linP 1 0) l l.length,loTo (linP 1 1) l l.length-loTo (linP 1 0) l l.length⟩,⟨loTo (linP 1 1) l l.length-loTo (linP 0 1) l l.length,loTo (linP 0 1) l l.length⟩,⟨loTo (linP 0 1) l l.length+hiTo (linP 1 (-1)) l l.length,loTo (linP 0 1) l l.length⟩]:=rfl;obtain⟨ad,cap,rfl⟩:=hp.len;clear bd hp hl;rw [ho];clear ho;generalize loTo (linP 1 0) l l.length=a at *;generalize hiTo (linP 1 0) l l.length=b at *;generalize loTo (linP 0 1) l l.length=c at *;generalize hiTo (linP 0 1) l l.length=d at *;generalize loTo (linP 1 1) l l.length=s at *;generalize hiTo (linP 1 1) l l.length=t at *;generalize loTo (linP 1 (-1)) l l.length=u at *;generalize hiTo (linP 1 (-1)) l l.length=v at *;have k1:IntKind.i64.wrap (b-v)=b-v:=zW2;have k2:IntKind.i64.wrap (t-b)=t-b:=zW2;have k3:IntKind.i64.wrap (t-d)=t-d:=zW2;have k4:IntKind.i64.wrap (d+u)=d+u:=zW2;have k5:IntKind.i64.wrap (a-u)=a-u:=zW2;have k6:IntKind.i64.wrap (s-a)=s-a:=zW2;have k7:IntKind.i64.wrap (s-c)=s-c:=zW2;have k8:IntKind.i64.wrap (c+v)=c+v:=zW2;have far:∀ k,k<8→far6 (nth [⟨b,b-v⟩,⟨b,t-b⟩,⟨t-d,d⟩,⟨d+u,d⟩,⟨a,a-u⟩,⟨a,s-a⟩,⟨s-c,c⟩,⟨c+v,c⟩] k):=fun k hk=>by
  rcases (show k=0∨k=1∨k=2∨k=3∨k=4∨k=5∨k=6∨k=7 by omega) with rfl | rfl | rfl | rfl | rfl | rfl | rfl | rfl
  all_goals (simp only [nth,List.getD_cons_zero,List.getD_cons_succ,far6];omega)
 have FAR:=Lib.hid far;clear x1 x2 x3 x4 far;go_enter Tryz.func194,Tryz.ntmps194;go_wp2_with fail;refine (f1.out w (Below.refl _ _)).mono ?_;rintro e w1 ⟨rfl,b1⟩;have B1:=Lib.hid b1;clear b1;go_wp2_with fail;refine (f2.out _ B1.out).mono ?_;rintro e w2 ⟨rfl,b2⟩;have B2:=zAg B1 b2;clear b2;go_wp2_with fail;refine (f3.out _ B2.out).mono ?_;rintro e w3 ⟨rfl,b3⟩;have B3:=zAg B2 b3;clear b3;go_wp2_with fail;refine (f4.out _ B3.out).mono ?_;rintro e w4 ⟨rfl,b4⟩;have B4:=zAg B3 b4;clear b4;go_wp2_with fail;have hN:=Has.new w4 (Zb [⟨b,b-v⟩,⟨b,t-b⟩,⟨t-d,d⟩,⟨d+u,d⟩,⟨a,a-u⟩,⟨a,s-a⟩,⟨s-c,c⟩,⟨c+v,c⟩]).toArray 58;have hPP:=Z6n hN (by simp)
 have hA:=B4.out.alloc B4.out.size (.cells (Zb [⟨b,b-v⟩,⟨b,t-b⟩,⟨t-d,d⟩,⟨d+u,d⟩,⟨a,a-u⟩,⟨a,s-a⟩,⟨s-c,c⟩,⟨c+v,c⟩]).toArray 58);refine (Z2A _ _ _ hPP FAR.out (by simp)).mono ?_
 rintro e w5 ⟨v5,rfl,h5,b5⟩;have HZ:=Lib.hid (And.intro h5 (hA.trans (b5.mono hA.size)));clear hN hPP hA h5 b5;go_wp2;go_ret;exact⟨_,rfl,HZ.out.1,HZ.out.2⟩
noncomputable def fewerP (l:List Pt):List Pt:=if 64<l.length then hullP (octP l) else l
theorem Z9F (vl:Value) (l:List Pt) (w:World) (hp:Z8 w.heap.size w vl l) (hl:∀ k,k<l.length→Z4 (nth l k)=true) :
  Calls Tryz.prog 170 #[vl] w (PtsQ (fewerP l) w):=by
 have f:=Lib.hid (fun h1=>Z6t vl l w hp h1 hl)
 have hp':=Lib.hid hp;obtain⟨ad,cap,rfl⟩:=hp.len;clear hp hl;unfold fewerP;by_cases h:64<l.length
 ·have d1:decide ((l.length:Int)>64)=true:=by simp;omega
  rw [if_pos h];have F:=Lib.hid (f.out (by omega))
  clear f;go_enter Tryz.func170,Tryz.ntmps170;go_wp2_with fail;refine F.out.mono ?_;rintro e w5 ⟨v5,rfl,h5,b5⟩;have HZ:=Lib.hid (And.intro h5 b5);clear h5 b5;go_wp2;go_ret;exact⟨_,rfl,HZ.out.1,HZ.out.2⟩
 ·have d1:decide ((l.length:Int)>64)=false:=by simp;omega
  rw [if_neg h];clear f;go_enter Tryz.func170,Tryz.ntmps170;go_wp2;go_ret;exact⟨_,rfl,hp'.out,Below.refl _ _⟩
noncomputable def polyP (l:List Pt):List Pt:=if l.length=0 then [] else fewerP (hullP l)
theorem Z6p (vl:Value) (l:List Pt) (w:World) (hp:Z8 w.heap.size w vl l) (hs:l.length≤1000000) (hl:∀ k,k<l.length→Z4 (nth l k)=true) :
  Calls Tryz.prog 111 #[vl] w fun e w'=>∃ v,e=.returned (.tuple #[v,.bool (!decide (l.length=0))])∧Z8 w'.heap.size w' v (polyP l)∧Below w.heap.size w w':=by
 have f:=Lib.hid (Z2A vl l w hp (fun k hk=>Z8i (hl k hk)) hs)
 have g:=Lib.hid (fun u w1 (hu:Z8 w1.heap.size w1 u (hullP l))=>Z9F u (hullP l) w1 hu fun k hk=>by
  obtain⟨j,hj,e⟩:=mem_nth' (Z5L (nth_mem' hk));rw [← e];exact hl j hj)
 obtain⟨ad,cap,rfl⟩:=hp.len;clear hp hl;unfold polyP;by_cases h:l.length=0
 ·have d1:((l.length:Int) == 0)=true:=by rw [beq_iff_eq];omega
  rw [if_pos h,decide_eq_true h];clear f g;go_enter Tryz.func111,Tryz.ntmps111;go_wp2;go_ret2;exact⟨_,rfl,Z8.nil _ _,Below.refl _ _⟩
 ·have d1:((l.length:Int) == 0)=false:=by rw [beq_eq_false_iff_ne];omega
  rw [if_neg h,decide_eq_false h];go_enter Tryz.func111,Tryz.ntmps111;go_wp2_with fail;refine f.out.mono ?_;rintro e w5 ⟨v5,rfl,h5,b5⟩;have F:=Lib.hid (g.out _ _ h5);have B5:=Lib.hid b5;clear h5 b5 g;go_wp2_with fail;refine F.out.mono ?_;rintro e w6 ⟨v6,rfl,h6,b6⟩;have HZ:=Lib.hid (And.intro h6 (B5.out.trans (b6.mono B5.out.size)));clear h6 b6;go_wp2;go_ret2;exact⟨_,rfl,HZ.out.1,HZ.out.2⟩
noncomputable def bothR (l m:List Pt):List Pt:=cornersP l m++cornersP m l++crossPR l m
theorem Z3m {l m:List Pt} {x:Pt}:x ∈ bothR l m↔x ∈ sharedP l m:=by
 unfold bothR sharedP;simp only [List.mem_append,Z6x]
theorem Za1 {l m:List Pt}:(bothR l m).length=0↔(sharedP l m).length=0:=by
 rw [List.length_eq_zero_iff,List.length_eq_zero_iff,List.eq_nil_iff_forall_not_mem,List.eq_nil_iff_forall_not_mem];exact⟨fun h x hx=>h x (Z3m.2 hx),fun h x hx=>h x (Z3m.1 hx)⟩
theorem Z3E {l m:List Pt} (hl:l.length≤64) (hm:m.length≤64):(crossPR l m).length≤16384:=by
 have:=Z21 l m l.length;have h4:4*m.length*l.length≤4*64*64:=Nat.mul_le_mul (Nat.mul_le_mul (Nat.le_refl 4) hm) hl;unfold crossPR;omega
theorem ZaX (vp vq:Value) (l m:List Pt) (w:World) (hp:Z8 w.heap.size w vp l) (hq:Z8 w.heap.size w vq m) (hl:Zc l=true) (hm:Zc m=true) :
  Calls Tryz.prog 112 #[vp,vq] w (PtsQ (bothR l m) w):=by
 have GL:=Zn hl;have GM:=Zn hm;have l64:=GL.2.1;have m64:=GM.2.1;have f1:=Lib.hid (Z1c vp vq l m w hp hq (by omega) (fun k hk=>(GL.2.2.1 k hk).1) hm)
 have f2:=Lib.hid (fun w1 (B:Below w.heap.size w w1)=>Z1c vq vp m l w1 ((hq.below B).mono B.size) ((hp.below B).mono B.size) (by omega) (fun k hk=>(GM.2.2.1 k hk).1) hl)
 have f3:=Lib.hid (fun w1 (B:Below w.heap.size w w1)=>Z3R vp vq l m w1 ((hp.below B).mono B.size) ((hq.below B).mono B.size) hl hm)
 have c1:=Z08 l m;have c2:=Z08 m l;have c3:=Z3E l64 m64;obtain⟨ap,capp,rfl⟩:=hp.len;obtain⟨aq,capq,rfl⟩:=hq.len;unfold bothR;generalize cornersP l m=L1 at *;generalize cornersP m l=L2 at *;generalize crossPR l m=L3 at *;clear hp hq hl hm GL GM;go_enter Tryz.func112,Tryz.ntmps112;go_wp2_with fail;refine f1.out.mono ?_;rintro e w1 ⟨v1,rfl,h1,b1⟩;have H1:=Lib.hid h1;have B1:=Lib.hid b1;clear h1 b1;go_wp2_with (first | (at_builtin;refine ZW rfl _ _ rfl w.heap.size _ 0 [] rfl (World.ownsRow_nil _ _ _ _) _ L1 rfl H1.out (by omega) B1.out.size ?_;intro x1 w2 r2 g2 _;have R2:=Lib.hid r2;have B2:=Lib.hid (B1.out.trans (Z1n (World.ownsRow_nil w1 w.heap.size 58 2) g2 (Nat.le_refl _) B1.out.size));clear r2 g2) | fail)
 refine (f2.out _ B2.out).mono ?_;rintro e w3 ⟨v3,rfl,h3,b3⟩;have H3:=Lib.hid h3;have B3:=zAg B2 b3;have R3:=Lib.hid (Zo R2.out b3);clear h3 b3 R2;go_wp2_with (first | (at_builtin;refine ZW rfl _ _ rfl w.heap.size _ _ _ rfl R3.out _ L2 rfl H3.out (by omega) B3.out.size ?_;intro x2 w4 r4 g4 _;have R4:=Lib.hid r4;have B4:=Lib.hid (B3.out.trans (Z1n R3.out g4 (Nat.le_refl _) B3.out.size));clear r4 g4) | fail)
 refine (f3.out _ B4.out).mono ?_;rintro e w5 ⟨v5,rfl,h5,b5⟩;have H5:=Lib.hid h5;have B5:=zAg B4 b5;have R5:=Lib.hid (Zo R4.out b5);clear h5 b5 R4;go_wp2_with (first | (at_builtin;refine ZW rfl _ _ rfl w.heap.size _ _ _ rfl R5.out _ L3 rfl H5.out (by omega) B5.out.size ?_;intro x3 w6 r6 g6 _;have R6:=Lib.hid r6;have B6:=Lib.hid (B5.out.trans (Z1n R5.out g6 (Nat.le_refl _) B5.out.size));clear r6 g6) | fail)
 go_ret;refine⟨_,rfl,Z8.own (base:=w.heap.size) (l:=L1++L2++L3) (n:=0+L1.length+L2.length+L3.length) ?_ (by simp only [List.length_append];omega),B6.out⟩
 have:=R6.out;rw [List.nil_append] at this;rw [ZB,ZB];exact this
theorem Z5n {l m:List Pt} (hl:Zc l=true) (hm:Zc m=true) {x:Pt} (hx:x ∈ sharedP l m):Z4 x=true:=by
 unfold sharedP at hx;simp only [List.mem_append] at hx;have GL:=Zn hl;have GM:=Zn hm;rcases hx with (hx | hx) | hx
 ·obtain⟨j,hj,e,_⟩:=(Z0d _).1 hx
  rw [← e];exact (GL.2.2.1 j hj).1
 ·obtain⟨j,hj,e,_⟩:=(Z0d _).1 hx
  rw [← e];exact (GM.2.2.1 j hj).1
 ·exact Z5Y (fun k hk=>(GM.2.2.1 k hk).1) hx
theorem Zbq (vp vq:Value) (l m:List Pt) (w:World) (hp:Z8 w.heap.size w vp l) (hq:Z8 w.heap.size w vq m) (hl:Zc l=true) (hm:Zc m=true) :
  Calls Tryz.prog 63 #[vp,vq] w fun e w'=>∃ v,e=.returned (.tuple #[v,.bool (touchB l m)])∧Z8 w'.heap.size w' v (polyP (bothR l m))∧Below w.heap.size w w':=by
 have f1:=Lib.hid (ZaX vp vq l m w hp hq hl hm);have l64:=(Zn hl).2.1;have m64:=(Zn hm).2.1;have c1:=Z08 l m;have c2:=Z08 m l;have c3:=Z3E l64 m64;have ht:(!decide ((bothR l m).length=0))=touchB l m:=by
  unfold touchB;rw [hl,hm];simp only [Bool.and_true,Bool.true_and]
  congr 1
  rw [decide_eq_decide];exact Za1
 have f2:=Lib.hid (fun u w1 (hu:Z8 w1.heap.size w1 u (bothR l m))=>Z6p u (bothR l m) w1 hu (by unfold bothR;simp only [List.length_append];omega) fun k hk=>Z5n hl hm (Z3m.1 (nth_mem' hk)))
 rw [ht] at f2;obtain⟨ap,capp,rfl⟩:=hp.len;obtain⟨aq,capq,rfl⟩:=hq.len;clear hp hq hl hm ht;go_enter Tryz.func63,Tryz.ntmps63;go_wp2_with fail;refine f1.out.mono ?_;rintro e w1 ⟨v1,rfl,h1,b1⟩;have F:=Lib.hid (f2.out _ _ h1);have B1:=Lib.hid b1;clear h1 b1 f2;go_wp2_with fail;refine F.out.mono ?_;rintro e w2 ⟨v2,rfl,h2,b2⟩;have HZ:=Lib.hid (And.intro h2 (B1.out.trans (b2.mono B1.out.size)));clear h2 b2;go_wp2;go_ret2;exact⟨_,rfl,HZ.out.1,HZ.out.2⟩
theorem Z68 (vp vq:Value) (l m:List Pt) (w:World) (hp:Z8 w.heap.size w vp l) (hq:Z8 w.heap.size w vq m) (hl:Zc l=true) (hm:Zc m=true) :
  Calls Tryz.prog 21 #[vp,vq] w fun e w'=>e=.returned (.bool (touchB l m))∧Below w.heap.size w w':=by
 have f1:=Lib.hid (Zbq vp vq l m w hp hq hl hm);obtain⟨ap,capp,rfl⟩:=hp.len;obtain⟨aq,capq,rfl⟩:=hq.len;clear hp hq hl hm;go_enter Tryz.func21,Tryz.ntmps21;go_wp2_with fail;refine f1.out.mono ?_;rintro e w1 ⟨v1,rfl,h1,b1⟩;have B1:=Lib.hid b1;clear h1 b1;go_wp2;exact bodyPost_ret (results_tmp rfl _ _ _) rfl ⟨rfl,B1.out⟩
def idxO (o:Option Nat):Int:=match o with | some k=>k | none=>-1
theorem Z5I (vc vr : Value) (c : List Pt) (ls : List (List Pt)) (w : World) (hc : Z8 w.heap.size w vc c) (hr : Z7 w.heap.size w vr ls) (hgc : Zc c = true) (hgl : ∀ j, j < ls.length → Zc (rk ls j) = true) :
  Calls Tryz.prog 105 #[vc,vr] w fun e w'=>e=.returned (.int .i64 (idxO (hitTo c ls ls.length)))∧Below w.heap.size w w':=by
 obtain⟨hll,ar,capr,rfl,hrc⟩:=hr;have HRC:=Lib.hid hrc;have HC:=Lib.hid hc;have HG:=Lib.hid (And.intro hgc hgl);obtain⟨ac,capc,rfl⟩:=hc.len;clear hrc hc hgc hgl;go_enter Tryz.func105,Tryz.ntmps105;go_wp2
 go_loopw [5] (fun i wr=>∃ k:Nat,k≤ls.length∧i=.int .i64 (k:Int)∧hitTo c ls k=none∧Below w.heap.size w wr) (fun i _=>ls.length-(intOf i).toNat)
 case atStart=>exact⟨0,by omega,rfl,rfl,Below.refl _ _⟩
 case round =>
  obtain⟨k,hk,rfl,hno,hB⟩:=hrel;by_cases hlt:k<ls.length
  ·have dk : decide ((k : Int) < (ls.length : Int)) = true := by simp; omega
   obtain⟨b,o,rfl,hb,hcc⟩:=HRC.out.resolve_left (by intro h;rw [h] at hlt;simp at hlt)
   obtain⟨u,hu,hpu⟩:=hcc k hlt;have e0:=(hB.cell (p:=⟨b,o+k,none⟩) hb).trans hu;have hv:=Z68 _ u c (rk ls k) wr ((HC.out.below hB).mono hB.size) ((hpu.below hB).mono hB.size) HG.out.1 (HG.out.2 k hlt);have kl:(k:Int)<ls.length:=by omega
   have k0:(0:Int)≤k:=by omega
   have hzr:=hB.size;have HB:=Lib.hid hB;have hst:hitTo c ls (k+1)=if touchB c (rk ls k)=true then some k else none:=by simp [hitTo,hno]
   have HNO:=Lib.hid hno;clear hcc hu hpu hB hno;cases hg:touchB c (rk ls k)
   ·rw [hg] at hv hst
    have hv':=Lib.hid hv;have hst':=Lib.hid hst;clear hg hv hst;go_wp2_with fail;refine hv'.out.mono ?_;rintro e w3 ⟨rfl,hb3⟩;have B3:=Lib.hid (HB.out.trans (hb3.mono hzr));clear hb3;go_wp2;go_roundw
    case rel=>exact⟨k+1,by omega,by go_num,hst'.out,B3.out⟩
    case measure=>simp [intOf];omega
   ·rw [hg] at hv
    have hv':=Lib.hid hv;have hres:hitTo c ls ls.length=some k:=by
     cases h:hitTo c ls ls.length with
     | none =>
      have:=hitTo_none h k hlt;rw [hg] at this;cases this
     | some q =>
      obtain⟨q1,q2,q3⟩:=Z2t h;have n:=hitTo_none HNO.out;rcases Nat.lt_trichotomy q k with e | e | e
      ·rw [n q e] at q2;cases q2
      ·rw [e]
      ·have:=q3 k e
       rw [hg] at this;cases this
    have HR:=Lib.hid hres;clear hg hv hst hres;go_wp2_with fail;refine hv'.out.mono ?_;rintro e w3 ⟨rfl,hb3⟩;have B3:=Lib.hid (HB.out.trans (hb3.mono hzr));clear hb3;go_wp2;exact bodyPost_ret (results_tmp rfl _ _ _) rfl ⟨by rw [HR.out];rfl,B3.out⟩
  ·obtain rfl:k=ls.length:=by omega
   have dk:decide ((ls.length:Int)<(ls.length:Int))=false:=by simp
   have HR:=Lib.hid hno;have HB:=Lib.hid hB;clear hno hB;go_wp2;exact bodyPost_ret (results_tmp rfl _ _ _) rfl ⟨by rw [HR.out];rfl,HB.out⟩
theorem Zan (p q:Pt) (w:World) (hp:Z4 p=true) (hq:Z4 q=true) :
  Calls Tryz.prog 125 #[.agg #[.int .i64 p.x,.int .i64 p.y],.agg #[.int .i64 q.x,.int .i64 q.y]] w fun e w'=>e=.returned (.agg #[.int .i64 (mvP q p).x,.int .i64 (mvP q p).y])∧Below w.heap.size w w':=by
 rw [ZS] at hp hq;obtain⟨px,py⟩:=p;obtain⟨qx,qy⟩:=q;simp only at hp hq
 show Calls _ _ _ _ fun e w'=>e=.returned (.agg #[.int .i64 (px+qx),.int .i64 (py+qy)])∧_
 have m1:IntKind.i64.wrap (px+qx)=px+qx:=zW2;have m2:IntKind.i64.wrap (py+qy)=py+qy:=zW2;clear hp hq;go_enter Tryz.func125,Tryz.ntmps125;go_wp2;refine bodyPost_ret (v:=.agg #[.int .i64 (px+qx),.int .i64 (py+qy)]) (by simp [results,Tryz.f125,go_sem]) rfl ⟨rfl,?_⟩
 repeat (first | exact Below.refl _ _ | assumption | apply Below.drew | refine Below.setCell ?_ (by first | omega | (simp;done) | (simp;omega)) _ | refine Below.alloc ?_ (by first | omega | (simp;done) | (simp;omega)) _ | refine Below.call (by assumption) ?_ (by first | omega | (simp;done) | (simp;omega)))
theorem Z7B (Bd:Nat) (x d:Pt) (w:World) (hx:Z4 x=true) (hd:Z4 d=true) (HD:Has w Bd #[.int .i64 d.x,.int .i64 d.y] 58) :
  Calls Tryz.prog 124 #[.agg #[.int .i64 x.x,.int .i64 x.y],.pointer (some ⟨Bd,0,none⟩)] w fun e w'=>e=.returned (.agg #[.int .i64 (mvP d x).x,.int .i64 (mvP d x).y])∧Below w.heap.size w w':=by
 have f:=Lib.hid (fun w1=>Zan x d w1 hx hd)
 have hlt:=HD.lt;have c0:=HD.cell (i:=0) rfl;have c1:=HD.cell (i:=1) rfl;have H:=Has.new (w.alloc (.cells #[.int .i64 x.x,.int .i64 x.y] 58)) #[.int .i64 0,.int .i64 0] 58;rw [show (w.alloc (.cells #[.int .i64 x.x,.int .i64 x.y] 58)).heap.size=w.heap.size+1 by simp] at H
 have H:=Lib.hid H;have B0:=Lib.hid (show Below w.heap.size w ((w.alloc (.cells #[.int .i64 x.x,.int .i64 x.y] 58)).alloc (.cells #[.int .i64 0,.int .i64 0] 58)) from ((Below.refl _ _).alloc (Nat.le_refl _) _).alloc (by first | omega | (simp;done) | (simp;omega)) _)
 generalize mvP d x=r at *;clear HD hx hd;go_enter Tryz.func124,Tryz.ntmps124;go_wp2_with fail;refine (f.out _).mono ?_;rintro e w1 ⟨rfl,hb1⟩;have H1:=H.out.below hb1 (by simp)
 have x0:=Zk H1 (i:=0) rfl;have x1:=Zk H1 (i:=1) rfl;have y0:=Zh H1 0;have y1:=Zh H1 1;have z0:=Zk (H1.set 0 (.int .i64 r.x)) (i:=0) rfl;have z1:=Zk ((H1.set 0 (.int .i64 r.x)).set 1 (.int .i64 r.y)) (i:=1) rfl;have B1:=zAg B0 hb1;clear hb1 H1 c0 c1;go_wp2;refine bodyPost_ret (v:=.agg #[.int .i64 r.x,.int .i64 r.y]) (by simp [results,Tryz.f124,go_sem,z0,z1]) rfl ⟨rfl,?_⟩
 exact (B1.out.setCell (p:=⟨w.heap.size+1,0,none⟩) (by simp) _).setCell (p:=⟨w.heap.size+1,1,none⟩) (by simp) _
theorem Z99 (d:Pt) (l:List Pt) {k:Nat} (h:k<l.length):mvL d (l.take (k+1))=mvL d (l.take k)++[mvP d (nth l k)]:=by
 have e:nth l k=l[k]:=by simp [nth,List.getD_eq_getElem?_getD,List.getElem?_eq_getElem h]
 unfold mvL;rw [List.take_add_one,List.getElem?_eq_getElem h,List.map_append,e]
 rfl
theorem ZaL (v : Value) (l : List Pt) (Bd : Nat) (d : Pt) (w : World) (hp : Z8 w.heap.size w v l) (HD : Has w Bd #[.int .i64 d.x, .int .i64 d.y] 58) (hs : l.length ≤ 64) (hpl : ∀ k, k < l.length → Z4 (nth l k) = true) (hd : Z4 d = true) :
  Calls Tryz.prog 123 #[v,.func (.func 124) #[] #[.pointer (some ⟨Bd,0,none⟩)]] w (PtsQ (mvL d l) w):=by
 obtain⟨hll,a,cap,rfl,hc⟩:=hp;have HC:=Lib.hid hc;have HPL:=Lib.hid hpl;have HDD:=Lib.hid HD;have HDP:=Lib.hid hd;obtain⟨i0,hi,hz0',hz1',hz2'⟩:=info_parts ptInfo;clear hc hpl hd HD;go_enter Tryz.func123,Tryz.ntmps123;go_wp2
 go_loopw [5,10] (fun v i wr=>∃ k:Nat,k≤l.length∧i=.int .i64 (k:Int)∧wr.ownsRow w.heap.size 58 2 v k (Zb (mvL d (l.take k)))∧Below w.heap.size w wr) (fun _ i _=>l.length-(intOf i).toNat)
 case atStart=>exact⟨0,by omega,rfl,World.ownsRow_nil _ _ _ _,Below.refl _ _⟩
 case round =>
  obtain⟨k,hk,rfl,hrow,hB⟩:=hrel;have hzB:=hB.size;by_cases hlt:k<l.length
  ·obtain⟨b,o,rfl,hb,hcc⟩:∃ b o,a=some ⟨b,o,none⟩∧b<w.heap.size∧∀ j,j<l.length→w.cell? ⟨b,o+j*2,none⟩=some (.int .i64 (nth l j).x)∧w.cell? ⟨b,o+j*2+1,none⟩=some (.int .i64 (nth l j).y):=by
    rcases HC.out with h | h
    ·rw [h] at hlt;simp at hlt
    ·exact h
   obtain⟨q0,q1⟩:=hcc k hlt;have c0:=(hB.cell (p:=⟨b,o+k*2,none⟩) hb).trans q0;have c1:=(hB.cell (p:=⟨b,o+k*2+1,none⟩) hb).trans q1;have hst:=Lib.hid (Z99 d l hlt);have f:=Lib.hid (fun w1 (B:Below w.heap.size w w1)=>Z7B Bd (nth l k) d w1 (HPL.out k hlt) HDP.out (HDD.out.below B HDD.out.lt))
   generalize mvP d (nth l k)=r at *;generalize (nth l k).x=px at *;generalize (nth l k).y=py at *;have kl:(k:Int)<l.length:=by omega
   have k0:(0:Int)≤k:=by omega
   have dk:decide ((k:Int)<(l.length:Int))=true:=by simp;omega
   have HR:=Lib.hid hrow;have HB:=Lib.hid hB;have BA:=Lib.hid (show Below wr.heap.size wr (wr.alloc (.cells #[.int .i64 px,.int .i64 py] 58)) from (Below.refl _ _).alloc (Nat.le_refl _) _)
   clear hcc q0 q1 hrow hB;go_wp2_with fail;refine (f.out _ (HB.out.trans (BA.out.mono HB.out.size))).mono ?_;rintro e w2 ⟨rfl,b2⟩;have B2:=zAg BA b2;have R2:=Lib.hid (Zo HR.out B2.out);have z2:=B2.out.size;clear b2;go_wp2_with (at_builtin;refine wpList_append_own _ rfl _ _ 23 rfl w.heap.size 58 i0 (.agg #[.int .i64 0,.int .i64 0]) 2 16 Tryz.underlying23 hi hz0' hz1' hz2' rfl (by decide) _ _ _ rfl (R2.out.alloc _) ⟨w2.heap.size,0,none⟩ 1 1 [.int .i64 r.x,.int .i64 r.y] rfl rfl (Z16 _ _ _) (by simp [Value.oneCell']) (by unfold maxLen;omega) (by omega) (by simp;omega) ?_;intro v' w4 hown' hgrow _)
   go_roundw
   case rel =>
    have A2:=(Below.refl w2.heap.size w2).alloc (Nat.le_refl _) (.cells #[.int .i64 r.x,.int .i64 r.y] 58);have b4:Below w.heap.size w w4:=(HB.out.trans ((B2.out.trans (A2.mono z2)).mono hzB)).grown hgrow (by simp;omega) (fun j ej=>(R2.out.lt j ej).1)
    refine⟨k+1,by omega,by go_num,?_,b4⟩
    rw [hst.out,ZB];exact hown'
   case measure=>simp [intOf];omega
  ·obtain rfl:k=l.length:=by omega
   have dk:decide ((l.length:Int)<(l.length:Int))=false:=by simp
   rw [List.take_length] at hrow;have P:=Lib.hid (Z8.own hrow (by rw [ZQ];omega))
   have HB:=Lib.hid hB;clear hrow hB;go_wp2;go_ret;exact⟨_,rfl,P.out,HB.out⟩
theorem Zav (d:Pt) (l:List Pt) {k:Nat} (h:k<l.length):mvL d (l.take (k+1))=mvL d (l.take k)++[mvP d (nth l k)]:=by
 have e:nth l k=l[k]:=by simp [nth,List.getD_eq_getElem?_getD,List.getElem?_eq_getElem h]
 unfold mvL;rw [List.take_add_one,List.getElem?_eq_getElem h,List.map_append,e]
 rfl
theorem Z5D (vl : Value) (l : List Pt) (d : Pt) (w : World) (hp : Z8 w.heap.size w vl l) (hs : l.length ≤ 64) (hpl : ∀ k, k < l.length → Z4 (nth l k) = true) (hd : Z4 d = true) :
  Calls Tryz.prog 181 #[vl,.agg #[.int .i64 d.x,.int .i64 d.y]] w fun e w'=>∃ v,e=.returned v∧w'.ownsRow w.heap.size 58 2 v l.length (Zb (mvL d l))∧Below w.heap.size w w':=by
 obtain⟨hll,a,cap,rfl,hc⟩:=hp;have HC:=Lib.hid hc;have HPL:=Lib.hid hpl;have pd:=Zl hd;obtain⟨i0,hi,hz0',hz1',hz2'⟩:=info_parts ptInfo;obtain⟨bx,by'⟩:=d
 simp only at pd;have hA:=(Below.refl w.heap.size w).alloc (Nat.le_refl _) (.cells #[.int .i64 bx,.int .i64 by'] 58)
 have HN:=Lib.hid (Has.new w #[.int .i64 bx,.int .i64 by'] 58)
 have HA:=Lib.hid hA;have hz1:(w.alloc (.cells #[.int .i64 bx,.int .i64 by'] 58)).heap.size=w.heap.size+1:=by simp
 clear hc hpl hd hA;go_enter Tryz.func181,Tryz.ntmps181;go_wp2
 go_loopw [5,6] (fun v i wr=>∃ k:Nat,k≤l.length∧i=.int .i64 (k:Int)∧wr.ownsRow (w.heap.size+1) 58 2 v k (Zb (mvL ⟨bx,by'⟩ (l.take k)))∧Below (w.heap.size+1) (w.alloc (.cells #[.int .i64 bx,.int .i64 by'] 58)) wr) (fun _ i _=>l.length-(intOf i).toNat)
 case atStart=>exact⟨0,by omega,rfl,World.ownsRow_nil _ _ _ _,Below.refl _ _⟩
 case round =>
  obtain⟨k,hk,rfl,hrow,hB⟩:=hrel;have hzB:=hB.size;rw [hz1] at hzB;have hBw:=HA.out.trans (hB.mono (by omega))
  by_cases hlt:k<l.length
  ·obtain⟨b,o,rfl,hb,hcc⟩:∃ b o,a=some ⟨b,o,none⟩∧b<w.heap.size∧∀ j,j<l.length→w.cell? ⟨b,o+j*2,none⟩=some (.int .i64 (nth l j).x)∧w.cell? ⟨b,o+j*2+1,none⟩=some (.int .i64 (nth l j).y):=by
    rcases HC.out with h | h
    ·rw [h] at hlt;simp at hlt
    ·exact h
   obtain⟨q0,q1⟩:=hcc k hlt;have pk:=Zl (HPL.out k hlt);have hst:=Lib.hid (Zav ⟨bx,by'⟩ l hlt)
   have hmv:Hid (mvP ⟨bx,by'⟩ (nth l k)=⟨(nth l k).x+bx,(nth l k).y+by'⟩):=rfl
   obtain⟨px,hpx⟩:∃ px,(nth l k).x=px:=⟨_,rfl⟩;obtain⟨py,hpy⟩:∃ py,(nth l k).y=py:=⟨_,rfl⟩;rw [hpx,hpy] at pk hmv;rw [hpx] at q0;rw [hpy] at q1;have N:=HN.out.below hB (by omega)
   have c0:=(hBw.cell (p:=⟨b,o+k*2,none⟩) hb).trans q0;have c1:=(hBw.cell (p:=⟨b,o+k*2+1,none⟩) hb).trans q1;have c2:=N.cell (i:=0) rfl;have c3:=N.cell (i:=1) rfl;have m1:IntKind.i64.wrap (px+bx)=px+bx:=zW2;have m2:IntKind.i64.wrap (py+by')=py+by':=zW2
   have dk:decide ((k:Int)<(l.length:Int))=true:=by simp;omega
   have kl:(k:Int)<l.length:=by omega
   have k0:(0:Int)≤k:=by omega
   have HR:=Lib.hid hrow;have HB:=Lib.hid hB;have C01:=Lib.hid (And.intro c0 (And.intro c1 (And.intro c2 c3)));have hbz:b<wr.heap.size:=by omega
   clear hcc q0 q1 hrow hB hBw c0 c1 c2 c3 N hpx hpy pk;go_wp2;refine (wpIn_wide (n:=9)).1 ?_;refine Zj (Zt _) 20 (fun X=>X.cell? ⟨b,o+k*2,none⟩=some (.int .i64 px)∧X.cell? ⟨b,o+k*2+1,none⟩=some (.int .i64 py)∧X.cell? ⟨w.heap.size,0,none⟩=some (.int .i64 bx)∧X.cell? ⟨w.heap.size,1,none⟩=some (.int .i64 by')) (by kernel_rfl) (by kernel_rfl) (by kernel_rfl) fun hH inv0=>?_
   refine sk hH (i:=0) (v:=u5) (Ze rfl) inv0 (fun X hX=>?_) fun inv1=>?_
   ·obtain⟨x0,x1,x2,x3⟩:=hX;go_simp
   simp only [Act.put,zq5,zr5,zs5];refine sk hH (i:=1) (v:=(.slice (some ⟨b,o,none⟩) l.length (l.length+cap))) (Ze rfl) inv1 (fun X hX=>?_) fun inv2=>?_
   ·obtain⟨x0,x1,x2,x3⟩:=hX;go_simp
   simp only [Act.put,zq5,zr5,zs5];refine sk hH (i:=2) (v:=(.int .i64 (k:Int))) (Ze rfl) inv2 (fun X hX=>?_) fun inv3=>?_
   ·obtain⟨x0,x1,x2,x3⟩:=hX;go_simp
   simp only [Act.put,zq5,zr5,zs5];refine sk hH (i:=3) (v:=(.pointer (some ⟨b,o+k*2,none⟩))) (Ze rfl) inv3 (fun X hX=>?_) fun inv4=>?_
   ·obtain⟨x0,x1,x2,x3⟩:=hX;go_simp
   simp only [Act.put,zq5,zr5,zs5];refine sk hH (i:=4) (v:=(.pointer (some ⟨b,o+k*2,none⟩))) (Ze rfl) inv4 (fun X hX=>?_) fun inv5=>?_
   ·obtain⟨x0,x1,x2,x3⟩:=hX;go_simp
   simp only [Act.put,zq5,zr5,zs5];refine sk hH (i:=5) (v:=(.int .i64 px)) (Ze rfl) inv5 (fun X hX=>?_) fun inv6=>?_
   ·obtain⟨x0,x1,x2,x3⟩:=hX;go_simp
   simp only [Act.put,zq5,zr5,zs5];refine sk hH (i:=6) (v:=(.pointer (some ⟨w.heap.size,0,none⟩))) (Ze rfl) inv6 (fun X hX=>?_) fun inv7=>?_
   ·obtain⟨x0,x1,x2,x3⟩:=hX;go_simp
   simp only [Act.put,zq5,zr5,zs5];refine sk hH (i:=7) (v:=(.int .i64 bx)) (Ze rfl) inv7 (fun X hX=>?_) fun inv8=>?_
   ·obtain⟨x0,x1,x2,x3⟩:=hX;go_simp
   simp only [Act.put,zq5,zr5,zs5];refine sk hH (i:=8) (v:=(.int .i64 (px+bx))) (Ze rfl) inv8 (fun X hX=>?_) fun inv9=>?_
   ·obtain⟨x0,x1,x2,x3⟩:=hX;go_simp
   simp only [Act.put,zq5,zr5,zs5];refine sk hH (i:=9) (v:=(.slice (some ⟨b,o,none⟩) l.length (l.length+cap))) (Ze rfl) inv9 (fun X hX=>?_) fun inv10=>?_
   ·obtain⟨x0,x1,x2,x3⟩:=hX;go_simp
   simp only [Act.put,zq5,zr5,zs5];refine sk hH (i:=10) (v:=(.int .i64 (k:Int))) (Ze rfl) inv10 (fun X hX=>?_) fun inv11=>?_
   ·obtain⟨x0,x1,x2,x3⟩:=hX;go_simp
   simp only [Act.put,zq5,zr5,zs5];refine sk hH (i:=11) (v:=(.pointer (some ⟨b,o+k*2,none⟩))) (Ze rfl) inv11 (fun X hX=>?_) fun inv12=>?_
   ·obtain⟨x0,x1,x2,x3⟩:=hX;go_simp
   simp only [Act.put,zq5,zr5,zs5];refine sk hH (i:=12) (v:=(.pointer (some ⟨b,o+k*2+1,none⟩))) (Ze rfl) inv12 (fun X hX=>?_) fun inv13=>?_
   ·obtain⟨x0,x1,x2,x3⟩:=hX;go_simp
   simp only [Act.put,zq5,zr5,zs5];refine sk hH (i:=13) (v:=(.int .i64 py)) (Ze rfl) inv13 (fun X hX=>?_) fun inv14=>?_
   ·obtain⟨x0,x1,x2,x3⟩:=hX;go_simp
   simp only [Act.put,zq5,zr5,zs5];refine sk hH (i:=14) (v:=(.pointer (some ⟨w.heap.size,1,none⟩))) (Ze rfl) inv14 (fun X hX=>?_) fun inv15=>?_
   ·obtain⟨x0,x1,x2,x3⟩:=hX;go_simp
   simp only [Act.put,zq5,zr5,zs5];refine sk hH (i:=15) (v:=(.int .i64 by')) (Ze rfl) inv15 (fun X hX=>?_) fun inv16=>?_
   ·obtain⟨x0,x1,x2,x3⟩:=hX;go_simp
   simp only [Act.put,zq5,zr5,zs5];refine sk hH (i:=16) (v:=(.int .i64 (py+by'))) (Ze rfl) inv16 (fun X hX=>?_) fun inv17=>?_
   ·obtain⟨x0,x1,x2,x3⟩:=hX;go_simp
   simp only [Act.put,zq5,zr5,zs5];refine sk hH (i:=17) (v:=(.agg #[.int .i64 (px+bx),.int .i64 (py+by')])) (Ze rfl) inv17 (fun X hX=>?_) fun inv18=>?_
   ·obtain⟨x0,x1,x2,x3⟩:=hX;go_simp
   simp only [Act.put,zq5,zr5,zs5];have D:Below wr.heap.size wr wr.drew:=Below.drew (Below.refl _ _);have R0:=Zo HR.out D;have B0:=HB.out.trans (D.mono (by omega))
   have S0:wr.drew.cell? ⟨b,o+k*2,none⟩=some (.int .i64 px)∧wr.drew.cell? ⟨b,o+k*2+1,none⟩=some (.int .i64 py)∧wr.drew.cell? ⟨w.heap.size,0,none⟩=some (.int .i64 bx)∧wr.drew.cell? ⟨w.heap.size,1,none⟩=some (.int .i64 by'):=C01.out
   have z0:w.heap.size+1≤wr.drew.heap.size:=hzB;have zb:b<wr.drew.heap.size:=hbz;generalize wr.drew=X0 at R0 B0 S0 z0 zb ⊢;clear inv0 inv1 inv2 inv3 inv4 inv5 inv6 inv7 inv8 inv9 inv10 inv11 inv12 inv13 inv14 inv15 inv16 inv17 inv18 hH D;refine sa1 (r:=18) S0 ?_;refine ZC (Ze rfl) rfl (v:=.slice (some ⟨X0.heap.size,0,none⟩) 1 1) (w':=X0.alloc (.cells #[.int .i64 (px+bx),.int .i64 (py+by')] 58)) (by go_simp) ?_
   simp only [Act.put,zq5,zr5,zs5];have A0:=(Below.refl X0.heap.size X0).alloc (Nat.le_refl _) (.cells #[.int .i64 (px+bx),.int .i64 (py+by')] 58)
   have cN:=Z16 X0 (px+bx) (py+by')
   have R1:=Zo R0 A0;have B1:=B0.trans (A0.mono (by omega))
   have S1:=And.intro ((A0.cell (p:=⟨b,o+k*2,none⟩) zb).trans S0.1) (And.intro ((A0.cell (p:=⟨b,o+k*2+1,none⟩) zb).trans S0.2.1) (And.intro ((A0.cell (p:=⟨w.heap.size,0,none⟩) z0).trans S0.2.2.1) ((A0.cell (p:=⟨w.heap.size,1,none⟩) z0).trans S0.2.2.2)));have z1:=A0.size;generalize X0.alloc (.cells #[.int .i64 (px+bx),.int .i64 (py+by')] 58)=X1 at *
   refine sa1 (r:=19) S1 ?_;refine ZA (Ze rfl) rfl (.tmp 13) (.tmp 31) 23 rfl (w.heap.size+1) 58 i0 (.agg #[.int .i64 0,.int .i64 0]) 2 16 Tryz.underlying23 hi hz0' hz1' hz2' rfl (by decide) _ _ _ rfl R1 ⟨X0.heap.size,0,none⟩ 1 1 [.int .i64 (px+bx),.int .i64 (py+by')] rfl rfl cN (by simp [Value.oneCell']) (by unfold maxLen;omega) (by omega) (by omega) ?_
   intro v' X2 hown' hgrow _;simp only [Act.put,zq5,zr5,zs5];have B2:Below (w.heap.size+1) X1 X2:=(Below.refl _ X1).grown hgrow (by omega) (fun j ej=>(R1.lt j ej).1)
   refine Zv (by kernel_rfl) ⟨(B2.cell (p:=⟨b,o+k*2,none⟩) (Nat.lt_succ_of_lt hb)).trans S1.1,(B2.cell (p:=⟨b,o+k*2+1,none⟩) (Nat.lt_succ_of_lt hb)).trans S1.2.1,(B2.cell (p:=⟨w.heap.size,0,none⟩) (Nat.lt_succ_self _)).trans S1.2.2.1,(B2.cell (p:=⟨w.heap.size,1,none⟩) (Nat.lt_succ_self _)).trans S1.2.2.2⟩ ?_
   simp only [List.drop_succ_cons,List.drop_zero];have B3:=Lib.hid (B1.trans B2);have O3:=Lib.hid hown';clear R0 R1 B0 B1 B2 S0 S1 hown' hgrow A0 cN;gi_wp2;go_wp2;go_roundw
   case rel =>
    refine⟨k+1,by omega,by go_num,?_,B3.out⟩
    rw [hst.out,hmv.out,ZB];exact O3.out
   case measure=>simp [intOf];omega
  ·obtain rfl:k=l.length:=by omega
   have dk:decide ((l.length:Int)<(l.length:Int))=false:=by simp
   rw [List.take_length] at hrow;have HI:=Lib.hid (show wr.ownsRow w.heap.size 58 2 u5 l.length (Zb (mvL ⟨bx,by'⟩ l)) from⟨hrow.1,hrow.2.imp id fun ⟨g,cap,cur,h1,h2,h3⟩=>⟨g,cap,cur,h1,by omega,h3⟩⟩)
   have HB:=Lib.hid hBw;clear hrow hB hBw;go_wp2;go_ret;exact⟨_,rfl,HI.out,HB.out⟩
end
end Go.Proofs.YtpimbaaahcemhaaGreat
