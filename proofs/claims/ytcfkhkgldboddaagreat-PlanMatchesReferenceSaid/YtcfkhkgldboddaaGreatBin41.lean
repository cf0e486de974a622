/- landfallref35: farthest, planned, Best, Refused. -/
import Derived.Test.YtcfkhkgldboddaaGreatBin40
set_option linter.unusedSimpArgs false
set_option linter.unusedVariables false
set_option maxRecDepth 8000
set_option maxHeartbeats 3200000
namespace Go.Proofs.YtcfkhkgldboddaaGreat
open Go.RowKit
attribute [local irreducible] wpQuiet
noncomputable def rfAcc (m:Msn) (j:Nat):Int × List Int:=(upto (chosenL (fixL m)) j).foldl (rfarS (leadV m)) (-1,[])
theorem Z7r (m:Msn) (j:Nat):rfAcc m (j+1)=rfarS (leadV m) (rfAcc m j) (chosenL (fixL m) j):=by
 unfold rfAcc;rw [Zo,List.foldl_append];rfl
theorem Z3Q {f g:List Int→Int}:∀ (L:List (List Int)) (s:Int × List Int),(∀ x ∈ L,f x=g x)→L.foldl (rfarS f) s=L.foldl (rfarS g) s
 | [],_,_=>rfl
 | x :: L, s, h => by
  have e:rfarS f s x=rfarS g s x:=by unfold rfarS;rw [h x (by simp)]
  simp only [List.foldl_cons,e];exact Z3Q L _ fun y hy=>h y (by simp [hy])
theorem Z8t {m:Msn} (hV:validB m=true):rfAcc m (2 ^ (fixL m).length)=bestP m:=by
 unfold bestP rfAcc;have hs:(fixL m).Pairwise (·<·):=Z22 m _;rw [ZaC (kpL m) (kpL_nn m) hs];unfold rfarL;refine Z3Q _ _ fun x hx=>?_
 obtain⟨b,-,rfl⟩:∃ b,b ∈ List.range (2 ^ (fixL m).length)∧chosenL (fixL m) b=x:=by simpa [upto] using hx
 exact (kp_of (ZaW hV (Z0u _ _))).1.symm
theorem Z3R (m : Msn) (vw vh vr : Value) (w : World) (hm : MsnAt w.heap.size w m vw vh vr) (hV : validB m = true) (h13 : m.ways.length ≤ 13) :
  Calls Tryz.prog 23 #[.agg (Zc m vw vh vr)] w fun e w'=>∃ v,e=.returned (.tuple #[.int .i64 (bestP m).1,v])∧Z9 w'.heap.size w' v (bestP m).2∧Below w.heap.size w w':=by
 have hl12:(fixL m).length≤12:=by have h0:(fixL m).length≤m.ways.length-1:=Z0n m _;omega
 have f1:=fun w1 (B:Below w.heap.size w w1)=>Z3P m vw vh vr w1 ((hm.below B).mono B.size) (by omega)
 have f2:=fun vl w1 (u:Nat) hu hl=>Z5T vl (fixL m) u hu (by omega) w1 hl
 have f3:=fun vl u w1 (B:Below w.heap.size w w1) hl=>Z2s m vw vh vr vl (chosenL (fixL m) u) w1 ((hm.below B).mono B.size) hl (ZaW hV (Z0u _ _))
 have hst:=Z7r m;have hend:=Z8t hV;have hln:∀ u,(chosenL (fixL m) u).length≤12:=fun u=>Nat.le_trans (Z0u _ _).length_le hl12
 have hld:∀ l,0≤leadV m l:=fun l=>by unfold leadV;omega
 obtain⟨⟨-,a1,c1,rfl,-⟩,⟨-,a2,c2,rfl,-⟩,⟨-,a3,c3,rfl,-⟩⟩:=hm;generalize fixL m=fx at *;obtain⟨T,hTT⟩:∃ T,2 ^ fx.length=T:=⟨_,rfl⟩;have hT:T≤4096:=by rw [← hTT];exact Nat.le_trans (Nat.pow_le_pow_right (by omega) hl12) (by decide)
 have hw2:IntKind.i64.wrap (2 ^ fx.length)=(T:Int):=by
  have e:((2:Int) ^ fx.length)=((T:Nat):Int):=by rw [← hTT];simp
  rw [e];exact zW2
 have hw1:IntKind.i64.wrap (1*2 ^ ((fx.length:Nat):Int).toNat)=(T:Int):=by rw [Int.toNat_natCast,Int.one_mul];exact hw2
 rw [hTT] at hend;have s0:(0:Int)≤((fx.length:Nat):Int):=by omega
 have s1:((fx.length:Nat):Int)≤64:=by omega
 unfold Zc at *;replace f1:=Lib.hid f1;replace f2:=Lib.hid f2;replace f3:=Lib.hid f3;replace hst:=Lib.hid hst;replace hend:=Lib.hid hend;replace hln:=Lib.hid hln;replace hld:=Lib.hid hld;clear hTT hV;have BW:=Lib.hid (Below.refl w.heap.size w);go_enter Tryz.func23,Tryz.ntmps23;go_wp2_with fail;generalize hXX0:World.alloc w _=X0;obtain⟨q0,hA,hzX0⟩:=box1 hXX0;clear hXX0;have BW:=Lib.hid hA;clear hA;have MB:=Lib.hid q0;clear q0 hzX0;obtain⟨c0,c1,c2,c3,c4,c5,c6,c7,c8,c9,c10⟩:=Zh (m:=m) MB.out;refine (f1.out _ BW.out).mono ?_;rintro e w1 ⟨v1,rfl,p1,b1⟩;replace BW:=zAi BW b1;have B_X0:=Lib.hid b1;clear b1;have P1:=Lib.hid p1;clear p1;obtain⟨-,af,cf,hvf,-⟩:=P1.out;subst hvf;clear c0 c1 c2 c3 c4 c5 c6 c7 c8 c9 c10;have MBX:=Lib.hid (zCq MB B_X0);go_wp2
 go_loopw [5,6,7] (fun f b i wr=>∃ j:Nat,j≤T∧f=.int .i64 (rfAcc m j).1∧Z9 wr.heap.size wr b (rfAcc m j).2∧i=.int .i64 (j:Int)∧Below w1.heap.size w1 wr) (fun _ _ i _=>T-(intOf i).toNat)
 case atStart=>exact⟨0,Nat.zero_le _,rfl,Z9.nil _ _,rfl,Below.refl _ _⟩
 case round =>
  obtain⟨j,hj,rfl,hbi,rfl,hB⟩:=hrel;obtain⟨wo,hwo⟩:∃ x,x=wr:=⟨_,rfl⟩;subst hwo;obtain⟨fv,fl,hac⟩:∃ a b,rfAcc m j=(a,b):=⟨_,_,rfl⟩;simp only [hac] at hbi ⊢;have BO:=Lib.hid (And.intro hB (BW.out.trans (hB.mono BW.out.size)));have HBI:=Lib.hid hbi;obtain⟨-,ab,cb,hvb,-⟩:=hbi;subst hvb;by_cases hjn:j<T
  ·have g2:=Lib.hid (f2.out _ wo j (by omega) ((P1.out.below hB).mono hB.size))
   have hs:=hst.out j;rw [hac] at hs;unfold rfarS at hs;have hjl:(j:Int)<(T:Int):=by omega
   have lb:=hln.out j;have gl:=Lib.hid (fun vl w2 (B:Below w.heap.size w w2) hl=>f3.out vl j w2 B hl)
   clear hB;obtain⟨ch,hch⟩:∃ x,chosenL fx j=x:=⟨_,rfl⟩;simp only [hch] at g2 gl hs lb;have lb0:=hld.out ch;obtain⟨lv,hlv⟩:∃ x,leadV m ch=x:=⟨_,rfl⟩;obtain⟨lk,hlk⟩:∃ x,leadK m ch=x:=⟨_,rfl⟩;simp only [hlv] at gl hs lb0;simp only [hlk] at gl;clear hch hlv hlk hac;replace hs:=Lib.hid hs;go_wp2_with fail;refine g2.out.mono ?_;rintro e w4 ⟨v4,rfl,p4,b4⟩;have B4:=Lib.hid (And.intro (BO.out.1.trans (b4.mono BO.out.1.size)) (BO.out.2.trans (b4.mono BO.out.2.size)));have P4:=Lib.hid p4;have HBJ:=Lib.hid ((HBI.out.below b4).mono b4.size);obtain⟨-,ag,cg,hvg,-⟩:=p4;subst hvg;have MBO:=MBX.out.below B4.out.1 MBX.out.lt;clear b4 BO;obtain⟨x0,x1,x2,x3,x4,x5,x6,x7,x8,x9,x10⟩:=Zh (m:=m) MBO;clear MBO;go_wp2_with fail;refine (gl.out _ _ B4.out.2 P4.out).mono ?_;rintro e w5 ⟨rfl,b5⟩;have B5:=Lib.hid (And.intro (B4.out.1.trans (b5.mono B4.out.1.size)) (B4.out.2.trans (b5.mono B4.out.2.size)));have P5:=Lib.hid ((P4.out.below b5).mono b5.size);have HBK:=Lib.hid ((HBJ.out.below b5).mono b5.size);clear b5 B4 P4 HBJ x0 x1 x2 x3 x4 x5 x6 x7 x8 x9 x10;by_cases hlt:fv<lv
   ·have d1:decide (lv>fv)=true:=by rw [decide_eq_true_eq];exact hlt
    have hs2:=hs.out;rw [if_pos (.inl hlt)] at hs2;replace hs2:=Lib.hid hs2;clear hlt;go_wp2;go_roundw
    case rel=>exact⟨j+1,by omega,by rw [hs2.out],by rw [hs2.out];exact P5.out,by go_num,B5.out.1⟩
    case measure=>simp [intOf];omega
   ·have d1:decide (lv>fv)=false:=by rw [decide_eq_false_iff_not];exact hlt
    by_cases heq:lv=fv
    ·have d2:(lv == fv)=true:=by rw [beq_iff_eq];exact heq
     have hs2:=hs.out;replace hs2:=Lib.hid (show rfAcc m (j+1)=if betterB ch fl=true then (lv,ch) else (fv,fl) by
      rw [hs2];cases hbb:betterB ch fl <;> simp [hlt,heq])
     have g3:=Lib.hid (Z5U _ _ ch fl w5 P5.out HBK.out (by omega))
     clear hlt heq;go_wp2_with fail;refine g3.out.mono ?_;rintro e w6 ⟨rfl,b6⟩;have B6:=Lib.hid (B5.out.1.trans (b6.mono B5.out.1.size));have P6:=Lib.hid ((P5.out.below b6).mono b6.size);have HBL:=Lib.hid ((HBK.out.below b6).mono b6.size);clear b6;cases hbb:betterB ch fl
     all_goals
      rw [hbb] at hs2;replace hs2:=Lib.hid hs2.out;clear hbb
     ·go_wp2
      go_roundw
      case rel=>exact⟨j+1,by omega,by rw [hs2.out];rfl,by rw [hs2.out];exact HBL.out,by go_num,B6.out⟩
      case measure=>simp [intOf];omega
     ·go_wp2
      go_roundw
      case rel=>exact⟨j+1,by omega,by rw [hs2.out];rfl,by rw [hs2.out];exact P6.out,by go_num,B6.out⟩
      case measure=>simp [intOf];omega
    ·have d2:(lv == fv)=false:=by rw [beq_eq_false_iff_ne];exact heq
     have hs2:=hs.out;rw [if_neg (by rintro (h | h);exact hlt h;exact heq h.1)] at hs2
     replace hs2:=Lib.hid hs2;clear hlt heq;go_wp2;go_roundw
     case rel=>exact⟨j+1,by omega,by rw [hs2.out],by rw [hs2.out];exact HBK.out,by go_num,B5.out.1⟩
     case measure=>simp [intOf];omega
  ·obtain rfl:j=T:=by omega
   have he:=hend.out;rw [hac] at he;replace he:=Lib.hid he;clear hB hac;go_wp2;go_ret2;exact⟨_,by rw [← he.out];rfl,by rw [← he.out];exact HBI.out,BO.out.2⟩
theorem Z1x (m:Msn) (vw vh vr:Value) (w:World) (hm:MsnAt w.heap.size w m vw vh vr) (h13:m.ways.length≤13) :
  Calls Tryz.prog 22 #[.agg (Zc m vw vh vr)] w fun e w'=>e=.returned (.int .i64 (plE m))∧Below w.heap.size w w':=by
 have hl12:(fixL m).length≤12:=by have h0:(fixL m).length≤m.ways.length-1:=Z0n m _;omega
 have f1:=fun w1 (B:Below w.heap.size w w1)=>Z0D m vw vh vr w1 ((hm.below B).mono B.size)
 have f2:=fun w1 (B:Below w.heap.size w w1)=>Z3P m vw vh vr w1 ((hm.below B).mono B.size) (by omega)
 obtain⟨⟨-,a1,c1,rfl,-⟩,⟨-,a2,c2,rfl,-⟩,⟨-,a3,c3,rfl,-⟩⟩:=hm;unfold Zc plE at *;generalize fixL m=fx at *;cases hv:validB m
 all_goals
  simp only [hv,Bool.false_eq_true,if_false,if_true] at f1 ⊢;replace f1:=Lib.hid f1;clear hv
 ·clear f2
  have BW:=Lib.hid (Below.refl w.heap.size w);go_enter Tryz.func22,Tryz.ntmps22;go_wp2_with fail;generalize hXX0:World.alloc w _=X0;obtain⟨q0,hA,hzX0⟩:=box1 hXX0;clear hXX0;have BW:=Lib.hid hA;clear hA;have MB:=Lib.hid q0;clear q0;refine (f1.out _ BW.out).mono ?_;rintro e w1 ⟨rfl,b1⟩;replace BW:=zAi BW b1;have B_X0:=Lib.hid b1;clear b1;go_wp2;go_ret;exact⟨rfl,BW.out⟩
 ·replace f2:=Lib.hid f2
  have BW:=Lib.hid (Below.refl w.heap.size w);have d1:decide ((fx.length:Int)>12)=false:=by rw [decide_eq_false_iff_not];omega
  go_enter Tryz.func22,Tryz.ntmps22;go_wp2_with fail;generalize hXX0:World.alloc w _=X0;obtain⟨q0,hA,hzX0⟩:=box1 hXX0;clear hXX0;have BW:=Lib.hid hA;clear hA;have MB:=Lib.hid q0;clear q0 hzX0;obtain⟨c0,c1,c2,c3,c4,c5,c6,c7,c8,c9,c10⟩:=Zh (m:=m) MB.out;refine (f1.out _ BW.out).mono ?_;rintro e w1 ⟨rfl,b1⟩;replace BW:=zAi BW b1;have B_X0:=Lib.hid b1;clear b1 c0 c1 c2 c3 c4 c5 c6 c7 c8 c9 c10;obtain⟨c0,c1,c2,c3,c4,c5,c6,c7,c8,c9,c10⟩:=Zh (m:=m) (zCq MB B_X0);go_wp2_with fail;refine (f2.out _ BW.out).mono ?_;rintro e w2 ⟨v1,rfl,p1,b2⟩;replace BW:=zAi BW b2;replace B_X0:=zAi B_X0 b2;clear b2;have P1:=Lib.hid p1;clear p1;obtain⟨-,af,cf,hvf,-⟩:=P1.out;subst hvf;clear c0 c1 c2 c3 c4 c5 c6 c7 c8 c9 c10;go_wp2;go_ret;exact⟨rfl,BW.out⟩
theorem Z5V (m:Msn) (vw vh vr:Value) (w:World) (hm:MsnAt w.heap.size w m vw vh vr) (h13:m.ways.length≤13) :
  Calls Tryz.prog 9 #[.agg (Zc m vw vh vr)] w fun e w'=>∃ v,e=.returned (.tuple #[v,.bool (bsB m),.int .i64 (plE m)])∧Z9 w'.heap.size w' v (bsL m)∧Below w.heap.size w w':=by
 have f1:=fun w1 (B:Below w.heap.size w w1)=>Z1x m vw vh vr w1 ((hm.below B).mono B.size) h13
 cases hV:validB m
 ·simp only [bsB,bsL,rfB,rfL,rfG,plE,hV,Bool.false_and,Bool.false_eq_true,if_false] at f1 ⊢
  obtain⟨⟨-,a1,c1,rfl,-⟩,⟨-,a2,c2,rfl,-⟩,⟨-,a3,c3,rfl,-⟩⟩:=hm;unfold Zc at *;replace f1:=Lib.hid f1;have BW:=Lib.hid (Below.refl w.heap.size w);go_enter Tryz.func9,Tryz.ntmps9;go_wp2_with fail;generalize hXX0:World.alloc w _=X0;obtain⟨q0,hA,hzX0⟩:=box1 hXX0;clear hXX0;have BW:=Lib.hid hA;clear hA;have MB:=Lib.hid q0;clear q0;refine (f1.out _ BW.out).mono ?_;rintro e w1 ⟨rfl,b1⟩;replace BW:=zAi BW b1;have B_X0:=Lib.hid b1;clear b1;go_wp2;go_ret3;exact⟨_,rfl,Z9.nil _ _,BW.out⟩
 ·have n2:=((Zn m).1 hV).n2
  have bt:=Z2U m;have f2:=fun w1 (B:Below w.heap.size w w1)=>Z3R m vw vh vr w1 ((hm.below B).mono B.size) hV h13
  obtain⟨⟨-,a1,c1,rfl,-⟩,⟨-,a2,c2,rfl,-⟩,⟨-,a3,c3,rfl,-⟩⟩:=hm;simp only [bsB,bsL,rfB,rfL,rfG,plE,hV,Bool.true_and,if_true] at f1 ⊢;unfold Zc at *;have jw:IntKind.i64.wrap ((m.ways.length:Int)-1)=((m.ways.length-1:Nat):Int):=by rw [show ((m.ways.length:Int)-1)=((m.ways.length-1:Nat):Int) by omega];exact zW2
  obtain⟨n1,hn1⟩:∃ n1,m.ways.length-1=n1:=⟨_,rfl⟩;simp only [hn1] at jw bt ⊢;obtain⟨b1,b2,hbp⟩:∃ b1 b2,bestP m=(b1,b2):=⟨_,_,rfl⟩;simp only [hbp] at f2 bt ⊢;clear hbp;replace f1:=Lib.hid f1;replace f2:=Lib.hid f2;clear hn1 hV;have BW:=Lib.hid (Below.refl w.heap.size w);by_cases heq:b1=n1
  all_goals simp only [heq,decide_true,decide_false,Bool.not_true,Bool.not_false,if_true,Bool.false_eq_true,if_false]
  ·subst heq
   have e1:((n1:Int) == (n1:Int))=true:=by simp
   have e2:decide ((n1:Int)<(n1:Int))=false:=by simp
   go_enter Tryz.func9,Tryz.ntmps9;go_wp2_with fail;generalize hXX0:World.alloc w _=X0;obtain⟨q0,hA,hzX0⟩:=box1 hXX0;clear hXX0;have BW:=Lib.hid hA;clear hA;have MB:=Lib.hid q0;clear q0 hzX0;obtain⟨c0,c1,c2,c3,c4,c5,c6,c7,c8,c9,c10⟩:=Zh (m:=m) MB.out;refine (f1.out _ BW.out).mono ?_;rintro e w1 ⟨rfl,b1⟩;replace BW:=zAi BW b1;have B_X0:=Lib.hid b1;clear b1 c0 c1 c2 c3 c4 c5 c6 c7 c8 c9 c10;obtain⟨c0,c1,c2,c3,c4,c5,c6,c7,c8,c9,c10⟩:=Zh (m:=m) (zCq MB B_X0);go_wp2_with fail;refine (f2.out _ BW.out).mono ?_;rintro e w2 ⟨v1,rfl,p1,b2⟩;replace BW:=zAi BW b2;replace B_X0:=zAi B_X0 b2;clear b2;have PI:=Lib.hid p1;clear p1;obtain⟨-,g1,k1,hv1,-⟩:=PI.out;subst hv1;clear c0 c1 c2 c3 c4 c5 c6 c7 c8 c9 c10;have c0:=(zCq MB B_X0).cell (i:=0) rfl;go_wp2;go_ret3;exact⟨_,rfl,PI.out,BW.out⟩
  ·have e1:((b1:Int) == (n1:Int))=false:=by rw [beq_eq_false_iff_ne];exact heq
   have e2:decide ((b1:Int)<(n1:Int))=true:=by rw [decide_eq_true_eq];omega
   clear bt;go_enter Tryz.func9,Tryz.ntmps9;go_wp2_with fail;generalize hXX0:World.alloc w _=X0;obtain⟨q0,hA,hzX0⟩:=box1 hXX0;clear hXX0;have BW:=Lib.hid hA;clear hA;have MB:=Lib.hid q0;clear q0 hzX0;obtain⟨c0,c1,c2,c3,c4,c5,c6,c7,c8,c9,c10⟩:=Zh (m:=m) MB.out;refine (f1.out _ BW.out).mono ?_;rintro e w1 ⟨rfl,b1⟩;replace BW:=zAi BW b1;have B_X0:=Lib.hid b1;clear b1 c0 c1 c2 c3 c4 c5 c6 c7 c8 c9 c10;obtain⟨c0,c1,c2,c3,c4,c5,c6,c7,c8,c9,c10⟩:=Zh (m:=m) (zCq MB B_X0);go_wp2_with fail;refine (f2.out _ BW.out).mono ?_;rintro e w2 ⟨v1,rfl,p1,b2⟩;replace BW:=zAi BW b2;replace B_X0:=zAi B_X0 b2;clear b2;have PI:=Lib.hid p1;clear p1;obtain⟨-,g1,k1,hv1,-⟩:=PI.out;subst hv1;clear c0 c1 c2 c3 c4 c5 c6 c7 c8 c9 c10;have c0:=(zCq MB B_X0).cell (i:=0) rfl;go_wp2;go_ret3;exact⟨_,rfl,Z9.nil _ _,BW.out⟩
theorem Z3y (m:Msn) (vw vh vr:Value) (w:World) (hm:MsnAt w.heap.size w m vw vh vr) (h13:m.ways.length≤13) :
  Calls Tryz.prog 12 #[.agg (Zc m vw vh vr)] w fun e w'=>∃ v,e=.returned (.tuple #[.int .i64 (rfG m),v,.bool (rfB m),.int .i64 (plE m)])∧Z9 w'.heap.size w' v (rfL m)∧Below w.heap.size w w':=by
 have f1:=fun w1 (B:Below w.heap.size w w1)=>Z1x m vw vh vr w1 ((hm.below B).mono B.size) h13
 cases hV:validB m
 ·simp only [bsB,bsL,rfB,rfL,rfG,plE,hV,Bool.false_and,Bool.false_eq_true,if_false] at f1 ⊢
  obtain⟨⟨-,a1,c1,rfl,-⟩,⟨-,a2,c2,rfl,-⟩,⟨-,a3,c3,rfl,-⟩⟩:=hm;unfold Zc at *;replace f1:=Lib.hid f1;have BW:=Lib.hid (Below.refl w.heap.size w);go_enter Tryz.func12,Tryz.ntmps12;go_wp2_with fail;generalize hXX0:World.alloc w _=X0;obtain⟨q0,hA,hzX0⟩:=box1 hXX0;clear hXX0;have BW:=Lib.hid hA;clear hA;have MB:=Lib.hid q0;clear q0;refine (f1.out _ BW.out).mono ?_;rintro e w1 ⟨rfl,b1⟩;replace BW:=zAi BW b1;have B_X0:=Lib.hid b1;clear b1;go_wp2;refine bodyPost_ret (v:=.tuple #[.int .i64 0,.slice none 0 0,.bool false,.int .i64 1]) (by simp [results,Tryz.f12,go_sem]) rfl ⟨_,rfl,Z9.nil _ _,BW.out⟩
 ·have n2:=((Zn m).1 hV).n2
  have bt:=Z2U m;have f2:=fun w1 (B:Below w.heap.size w w1)=>Z3R m vw vh vr w1 ((hm.below B).mono B.size) hV h13
  obtain⟨⟨-,a1,c1,rfl,-⟩,⟨-,a2,c2,rfl,-⟩,⟨-,a3,c3,rfl,-⟩⟩:=hm;simp only [bsB,bsL,rfB,rfL,rfG,plE,hV,Bool.true_and,if_true] at f1 ⊢;unfold Zc at *;have jw:IntKind.i64.wrap ((m.ways.length:Int)-1)=((m.ways.length-1:Nat):Int):=by rw [show ((m.ways.length:Int)-1)=((m.ways.length-1:Nat):Int) by omega];exact zW2
  obtain⟨n1,hn1⟩:∃ n1,m.ways.length-1=n1:=⟨_,rfl⟩;simp only [hn1] at jw bt ⊢;obtain⟨b1,b2,hbp⟩:∃ b1 b2,bestP m=(b1,b2):=⟨_,_,rfl⟩;simp only [hbp] at f2 bt ⊢;clear hbp;replace f1:=Lib.hid f1;replace f2:=Lib.hid f2;clear hn1 hV;have BW:=Lib.hid (Below.refl w.heap.size w);by_cases heq:b1=n1
  all_goals simp only [heq,decide_true,decide_false,Bool.not_true,Bool.not_false,if_true,Bool.false_eq_true,if_false]
  ·subst heq
   have e1:((n1:Int) == (n1:Int))=true:=by simp
   have e2:decide ((n1:Int)<(n1:Int))=false:=by simp
   go_enter Tryz.func12,Tryz.ntmps12;go_wp2_with fail;generalize hXX0:World.alloc w _=X0;obtain⟨q0,hA,hzX0⟩:=box1 hXX0;clear hXX0;have BW:=Lib.hid hA;clear hA;have MB:=Lib.hid q0;clear q0 hzX0;obtain⟨c0,c1,c2,c3,c4,c5,c6,c7,c8,c9,c10⟩:=Zh (m:=m) MB.out;refine (f1.out _ BW.out).mono ?_;rintro e w1 ⟨rfl,b1⟩;replace BW:=zAi BW b1;have B_X0:=Lib.hid b1;clear b1 c0 c1 c2 c3 c4 c5 c6 c7 c8 c9 c10;obtain⟨c0,c1,c2,c3,c4,c5,c6,c7,c8,c9,c10⟩:=Zh (m:=m) (zCq MB B_X0);go_wp2_with fail;refine (f2.out _ BW.out).mono ?_;rintro e w2 ⟨v1,rfl,p1,b2⟩;replace BW:=zAi BW b2;replace B_X0:=zAi B_X0 b2;clear b2;have PI:=Lib.hid p1;clear p1;obtain⟨-,g1,k1,hv1,-⟩:=PI.out;subst hv1;clear c0 c1 c2 c3 c4 c5 c6 c7 c8 c9 c10;have c0:=(zCq MB B_X0).cell (i:=0) rfl;go_wp2;refine bodyPost_ret (v:=.tuple #[.int .i64 0,.slice none 0 0,.bool false,.int .i64 0]) (by simp [results,Tryz.f12,go_sem]) rfl ⟨_,rfl,Z9.nil _ _,BW.out⟩
  ·have e1:((b1:Int) == (n1:Int))=false:=by rw [beq_eq_false_iff_ne];exact heq
   have e2:decide ((b1:Int)<(n1:Int))=true:=by rw [decide_eq_true_eq];omega
   clear bt;go_enter Tryz.func12,Tryz.ntmps12;go_wp2_with fail;generalize hXX0:World.alloc w _=X0;obtain⟨q0,hA,hzX0⟩:=box1 hXX0;clear hXX0;have BW:=Lib.hid hA;clear hA;have MB:=Lib.hid q0;clear q0 hzX0;obtain⟨c0,c1,c2,c3,c4,c5,c6,c7,c8,c9,c10⟩:=Zh (m:=m) MB.out;refine (f1.out _ BW.out).mono ?_;rintro e w1 ⟨rfl,b1⟩;replace BW:=zAi BW b1;have B_X0:=Lib.hid b1;clear b1 c0 c1 c2 c3 c4 c5 c6 c7 c8 c9 c10;obtain⟨c0,c1,c2,c3,c4,c5,c6,c7,c8,c9,c10⟩:=Zh (m:=m) (zCq MB B_X0);go_wp2_with fail;refine (f2.out _ BW.out).mono ?_;rintro e w2 ⟨v1,rfl,p1,b2⟩;replace BW:=zAi BW b2;replace B_X0:=zAi B_X0 b2;clear b2;have PI:=Lib.hid p1;clear p1;obtain⟨-,g1,k1,hv1,-⟩:=PI.out;subst hv1;clear c0 c1 c2 c3 c4 c5 c6 c7 c8 c9 c10;have c0:=(zCq MB B_X0).cell (i:=0) rfl;go_wp2;refine bodyPost_ret (v:=.tuple #[.int .i64 b1,.slice g1 b2.length (b2.length+k1),.bool true,.int .i64 0]) (by simp [results,Tryz.f12,go_sem]) rfl ⟨_,rfl,PI.out,BW.out⟩
end Go.Proofs.YtcfkhkgldboddaaGreat
