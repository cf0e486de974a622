/- landfallref03's between and Inside. | landfallref03's least and next; landfallref04's least. (Printed by tools/mknext.py.) -/
import Derived.Test.YtpimbaaahcemhaaGreatBin21
set_option linter.unusedSimpArgs false
set_option linter.unusedVariables false
set_option maxRecDepth 8000
set_option maxHeartbeats 4000000
namespace Go.Proofs.YtpimbaaahcemhaaGreat
section
attribute [local irreducible] wpQuiet
open Go.RowKit
def minI (a b:Int):Int:=if b<a then b else a
def maxI (a b:Int):Int:=if a<b then b else a
def btwB (ax ay bx by' px py:Int):Bool:=decide (minI ax bx≤px) && decide (px≤maxI ax bx) && decide (minI ay by'≤py) && decide (py≤maxI ay by')
theorem Z2U (ax ay bx by' px py:Int) (w:World) :
  Calls Tryz.prog 184 #[.agg #[.int .i64 ax,.int .i64 ay],.agg #[.int .i64 bx,.int .i64 by'],.agg #[.int .i64 px,.int .i64 py]] w fun e w'=>e=.returned (.bool (btwB ax ay bx by' px py))∧Below w.heap.size w w':=by
 unfold btwB minI maxI;cases d1:decide ((if bx<ax then bx else ax)≤px)
 ·go_enter Tryz.func184,Tryz.ntmps184
  go_wp2
  all_goals (go_ret;exact⟨rfl,zB2⟩)
 cases d2:decide (px≤(if ax<bx then bx else ax))
 ·go_enter Tryz.func184,Tryz.ntmps184
  go_wp2
  all_goals (go_ret;exact⟨rfl,zB2⟩)
 cases d3:decide ((if by'<ay then by' else ay)≤py)
 ·go_enter Tryz.func184,Tryz.ntmps184
  go_wp2
  all_goals (go_ret;exact⟨rfl,zB2⟩)
 cases d4:decide (py≤(if ay<by' then by' else ay))
 ·go_enter Tryz.func184,Tryz.ntmps184
  go_wp2
  all_goals (go_ret;exact⟨rfl,zB2⟩)
 ·go_enter Tryz.func184,Tryz.ntmps184
  go_wp2
  all_goals (go_ret;exact⟨rfl,zB2⟩)
theorem Z5E (f:Pt→Int) {l:List Pt} (h:l.length=2):loTo f l l.length=minI (f (nth l 0)) (f (nth l 1)):=by
 rw [h];simp only [loTo,minI,Int.lt_irrefl,if_false]
theorem Z5N (f:Pt→Int) {l:List Pt} (h:l.length=2):hiTo f l l.length=maxI (f (nth l 0)) (f (nth l 1)):=by
 rw [h];simp only [hiTo,maxI,Int.lt_irrefl,if_false]
theorem Z86 {l:List Pt} (h:l.length=2) (x:Pt):inside l x=(decide (turnV (nth l 0).x (nth l 0).y (nth l 1).x (nth l 1).y x.x x.y=0) && btwB (nth l 0).x (nth l 0).y (nth l 1).x (nth l 1).y x.x x.y):=by
 have e1:(boxL l).x=minI (nth l 0).x (nth l 1).x:=Z5E bxF1 h;have e2:(boxL l).y=minI (nth l 0).y (nth l 1).y:=Z5E bxF2 h;have e3:(boxH l).x=maxI (nth l 0).x (nth l 1).x:=Z5N bxF1 h;have e4:(boxH l).y=maxI (nth l 0).y (nth l 1).y:=Z5N bxF2 h;unfold inside btwB;rw [if_pos (by omega),h,e1,e2,e3,e4,Bool.eq_iff_iff]
 simp only [Bool.and_eq_true,decide_eq_true_eq];exact⟨fun ⟨a,b,c,d,e⟩=>⟨a,⟨⟨b,c⟩,d⟩,e⟩,fun ⟨a,⟨⟨b,c⟩,d⟩,e⟩=>⟨a,b,c,d,e⟩⟩
theorem Z87 {l:List Pt} (h:l.length=1) (x:Pt):inside l x=true↔(nth l 0).x=x.x∧(nth l 0).y=x.y:=by
 have e1:(boxL l).x=(nth l 0).x:=by show loTo bxF1 l l.length=_;rw [h];simp [loTo,bxF1]
 have e2:(boxL l).y=(nth l 0).y:=by show loTo bxF2 l l.length=_;rw [h];simp [loTo,bxF2]
 have e3:(boxH l).x=(nth l 0).x:=by show hiTo bxF1 l l.length=_;rw [h];simp [hiTo,bxF1]
 have e4:(boxH l).y=(nth l 0).y:=by show hiTo bxF2 l l.length=_;rw [h];simp [hiTo,bxF2]
 unfold inside;rw [if_pos (by omega),h,e1,e2,e3,e4,decide_eq_true_eq]
 constructor
 ·rintro ⟨_,a,b,c,d⟩;omega
 ·rintro ⟨a,b⟩;exact⟨Z2m _ _,by omega,by omega,by omega,by omega⟩
theorem Z6k (v : Value) (l : List Pt) (x : Pt) (w : World) (hp : Z8 w.heap.size w v l) (hl : GoValid l) (hx : Z4 x = true) :
  Calls Tryz.prog 192 #[v,.agg #[.int .i64 x.x,.int .i64 x.y]] w fun e w'=>e=.returned (.bool (inside l x))∧Below w.heap.size w w':=by
 have hin:=hl.1;have h64:=hl.2.1;have hpl:∀ k,k<l.length→Z4 (nth l k)=true:=fun k hk=>(hl.2.2.1 k hk).1
 obtain⟨hll,a,cap,rfl,hc⟩:=hp;obtain⟨b,o,rfl,hb,hc⟩:∃ b o,a=some ⟨b,o,none⟩∧b<w.heap.size∧∀ j,j<l.length→w.cell? ⟨b,o+j*2,none⟩=some (.int .i64 (nth l j).x)∧w.cell? ⟨b,o+j*2+1,none⟩=some (.int .i64 (nth l j).y):=by
  rcases hc with rfl | h
  ·simp at hin
  ·exact h
 have HL:=Lib.hid hl;have HPL:=Lib.hid hpl;have px:=Zl hx;obtain⟨x,y⟩:=x;simp only at px;have hA:=(Below.refl w.heap.size w).alloc (Nat.le_refl _) (.cells #[.int .i64 x,.int .i64 y] 58);have hN:=Has.new w #[.int .i64 x,.int .i64 y] 58;have n0:=Low.fact (hN.cell (i:=0) rfl);have n1:=Low.fact (hN.cell (i:=1) rfl);have cc:=fun j hj=>And.intro ((hA.cell (p:=⟨b,o+j*2,none⟩) hb).trans (hc j hj).1) ((hA.cell (p:=⟨b,o+j*2+1,none⟩) hb).trans (hc j hj).2)
 have g1:=Low.fact (cc 0 (by omega)).1
 have g2:=Low.fact (cc 0 (by omega)).2
 simp only [Nat.zero_mul,Nat.add_zero] at g1 g2;have p0:=Zl (HPL.out 0 (by omega))
 have CC:=Lib.hid cc;have HA:=Lib.hid hA;have HN:=Lib.hid hN;have hne:¬ l=[]:=by intro h;rw [h] at hin;simp at hin
 by_cases e1:l.length=1
 ·have d1:((l.length:Int) == 1)=true:=by simp [e1]
  have hi:=Z87 e1 ⟨x,y⟩;have k1:(0:Int)<(l.length:Int):=by omega
  have HI:=Lib.hid hi;clear hc hA hN cc hl hpl hx hi;generalize (nth l 0).x=ax at *;generalize (nth l 0).y=ay at *;have hcase:(ax=x∧ay=y)∨(ax=x∧¬ ay=y)∨¬ ax=x:=by omega
  have HI2:Hid (inside l ⟨x,y⟩=true↔ax=x∧ay=y):=HI.out;clear HI;rcases hcase with⟨rfl,rfl⟩ | ⟨rfl,h⟩ | h
  ·go_enter Tryz.func192,Tryz.ntmps192
   go_wp2
   (refine Zg (by kernel_rfl) (by kernel_rfl) ?_;(iterate 6 (apply Zf;(case hw=>rfl);(case hval=>(intro w1 hw1;have hcx:=Low.cells hw1;simp only [Oper.quietAt];go_simp;first | done | rfl | exact⟨rfl,rfl⟩));simp only [Act.put,zq5,zr5,zs5]));refine wpQuiet_nil ?_;intro w2 hw2)
   go_wp2;go_ret;exact⟨by rw [HI2.out.2 (by simp)];rfl,HA.out.trans (hw2.out.mono (by simp))⟩
  ·have hf:inside l ⟨ax,y⟩=false:=by
    cases h':inside l ⟨ax,y⟩
    ·rfl
    ·exact absurd (HI2.out.1 h').2 h
   go_enter Tryz.func192,Tryz.ntmps192;go_wp2
   (refine Zg (by kernel_rfl) (by kernel_rfl) ?_;(iterate 6 (apply Zf;(case hw=>rfl);(case hval=>(intro w1 hw1;have hcx:=Low.cells hw1;simp only [Oper.quietAt];go_simp;first | done | rfl | exact⟨rfl,rfl⟩));simp only [Act.put,zq5,zr5,zs5]));refine wpQuiet_nil ?_;intro w2 hw2)
   go_wp2;go_ret;exact⟨by rw [hf];rfl,HA.out.trans (hw2.out.mono (by simp))⟩
  ·have hf:inside l ⟨x,y⟩=false:=by
    cases h':inside l ⟨x,y⟩
    ·rfl
    ·exact absurd (HI2.out.1 h').1 h
   go_enter Tryz.func192,Tryz.ntmps192;go_wp2
   (refine Zg (by kernel_rfl) (by kernel_rfl) ?_;(iterate 6 (apply Zf;(case hw=>rfl);(case hval=>(intro w1 hw1;have hcx:=Low.cells hw1;simp only [Oper.quietAt];go_simp;first | done | rfl | exact⟨rfl,rfl⟩));simp only [Act.put,zq5,zr5,zs5]));refine wpQuiet_nil ?_;intro w2 hw2)
   go_wp2;go_ret;exact⟨by rw [hf];rfl,HA.out.trans (hw2.out.mono (by simp))⟩
 have d1:((l.length:Int) == 1)=false:=by rw [beq_eq_false_iff_ne];omega
 by_cases e2:l.length=2
 ·have d2:((l.length:Int) == 2)=true:=by simp [e2]
  have g3:=Low.fact (cc 1 (by omega)).1
  have g4:=Low.fact (cc 1 (by omega)).2
  simp only [Nat.one_mul] at g3 g4;have p1:=Zl (HPL.out 1 (by omega))
  have hi:=Z86 e2 ⟨x,y⟩;have k1:(0:Int)<(l.length:Int):=by omega
  have k2:(1:Int)<(l.length:Int):=by omega
  rw [hi];clear hc hA hN cc hl hpl hx hi;generalize (nth l 0).x=ax at *;generalize (nth l 0).y=ay at *;generalize (nth l 1).x=bx at *;generalize (nth l 1).y=by' at *
  have hcr:=fun w1=>Z0s ax ay bx by' x y w1 (by omega) (by omega) (by omega) (by omega) (by omega) (by omega) (by omega) (by omega) (by omega) (by omega) (by omega) (by omega)
  by_cases ht:turnV ax ay bx by' x y=0
  ·rw [ht] at hcr ⊢
   have dt:((0:Int) == 0)=true:=rfl;clear ht;go_enter Tryz.func192,Tryz.ntmps192;go_wp2
   (refine Zg (by kernel_rfl) (by kernel_rfl) ?_;(iterate 20 (apply Zf;(case hw=>rfl);(case hval=>(intro w1 hw1;have hcx:=Low.cells hw1;simp only [Oper.quietAt];go_simp;first | done | (first | (go_at_call 59;exact Low.calls hw1 (hcr _)) | (go_at_call 184;exact Low.calls hw1 (Z2U _ _ _ _ _ _ _))) | rfl | exact⟨rfl,rfl⟩));simp only [Act.put,zq5,zr5,zs5]));refine wpQuiet_nil ?_;intro w2 hw2)
   go_wp2;go_ret;exact⟨by simp,HA.out.trans (hw2.out.mono (by simp))⟩
  ·have dt:(turnV ax ay bx by' x y == 0)=false:=by rw [beq_eq_false_iff_ne];exact ht
   rw [decide_eq_false ht];clear ht;generalize turnV ax ay bx by' x y=t at *
   go_enter Tryz.func192,Tryz.ntmps192;go_wp2
   (refine Zg (by kernel_rfl) (by kernel_rfl) ?_;(iterate 10 (apply Zf;(case hw=>rfl);(case hval=>(intro w1 hw1;have hcx:=Low.cells hw1;simp only [Oper.quietAt];go_simp;first | done | (first | (go_at_call 59;exact Low.calls hw1 (hcr _)) | (go_at_call 184;exact Low.calls hw1 (Z2U _ _ _ _ _ _ _))) | rfl | exact⟨rfl,rfl⟩));simp only [Act.put,zq5,zr5,zs5]));(iterate 8 (apply Zr;(case hw=>rfl);simp only [Act.put,zq5,zr5,zs5]));(iterate 2 (apply Zf;(case hw=>rfl);(case hval=>(intro w1 hw1;have hcx:=Low.cells hw1;simp only [Oper.quietAt];go_simp;first | done | (first | (go_at_call 59;exact Low.calls hw1 (hcr _)) | (go_at_call 184;exact Low.calls hw1 (Z2U _ _ _ _ _ _ _))) | rfl | exact⟨rfl,rfl⟩));simp only [Act.put,zq5,zr5,zs5]));refine wpQuiet_nil ?_;intro w2 hw2)
   go_wp2;go_ret;exact⟨rfl,HA.out.trans (hw2.out.mono (by simp))⟩
 have d2:((l.length:Int) == 2)=false:=by rw [beq_eq_false_iff_ne];omega
 have h3:3≤l.length:=by omega
 have hiff:inside l ⟨x,y⟩=true↔∀ i,i<l.length→0≤Z6 (sideP l i).1 (sideP l i).2 ⟨x,y⟩:=by unfold inside;rw [if_neg (by omega),decide_eq_true_eq]
 have HIFF:=Lib.hid hiff;clear hc hA hN cc hl hpl hx hiff n0 n1 g1 g2 p0;go_enter Tryz.func192,Tryz.ntmps192;go_wp2
 go_loopw [6] (fun i wr=>∃ k:Nat,k≤l.length∧i=.int .i64 (k:Int)∧(∀ j,j<k→0≤Z6 (sideP l j).1 (sideP l j).2 ⟨x,y⟩)∧Below (w.heap.size+1) (w.alloc (.cells #[.int .i64 x,.int .i64 y] 58)) wr) (fun i _=>l.length-(intOf i).toNat)
 case atStart=>exact⟨0,by omega,rfl,fun j h=>by omega,Below.refl _ _⟩
 case round =>
  obtain⟨k,hk,rfl,hall,hB⟩:=hrel;have HALL:=Lib.hid hall;clear hall;have hzr:=hB.size;simp only [World.size_alloc] at hzr;have hBw:=HA.out.trans (hB.mono (by omega))
  by_cases hlt:k<l.length
  ·obtain⟨m,hm⟩:∃ m,(k+1) % l.length=m:=⟨_,rfl⟩
   have hmlt:m<l.length:=by rw [← hm];exact Nat.mod_lt _ (by omega)
   have m1:IntKind.i64.wrap ((k:Int)+1)=(k:Int)+1:=zW2;have m2:((k:Int)+1).tmod (l.length:Int)=(m:Int):=by
    have:((k:Int)+1).tmod (l.length:Int)=(((k+1) % l.length:Nat):Int):=by
     rw [Int.tmod_eq_emod_of_nonneg (by omega)];rfl
    rw [this,hm]
   have HM:=Lib.hid hm;have dk:decide ((k:Int)<(l.length:Int))=true:=by simp;omega
   have pk:=Zl (HPL.out k hlt);have pm:=Zl (HPL.out m hmlt);have c1:=Low.fact ((hB.cell (p:=⟨b,o+k*2,none⟩) (Nat.lt_succ_of_lt hb)).trans (CC.out k hlt).1);have c2:=Low.fact ((hB.cell (p:=⟨b,o+k*2+1,none⟩) (Nat.lt_succ_of_lt hb)).trans (CC.out k hlt).2);have c3:=Low.fact ((hB.cell (p:=⟨b,o+m*2,none⟩) (Nat.lt_succ_of_lt hb)).trans (CC.out m hmlt).1);have c4:=Low.fact ((hB.cell (p:=⟨b,o+m*2+1,none⟩) (Nat.lt_succ_of_lt hb)).trans (CC.out m hmlt).2);have N:=HN.out.below hB (by omega)
   have n0:=Low.fact (N.cell (i:=0) rfl);have n1:=Low.fact (N.cell (i:=1) rfl);have kl:(k:Int)<l.length:=by omega
   have k0:(0:Int)≤k:=by omega
   have ml:(m:Int)<l.length:=by omega
   have m0:(0:Int)≤m:=by omega
   have hs:Hid ((sideP l k).1=nth l k∧(sideP l k).2=nth l m):=⟨rfl,by show nth l ((k+1) % l.length)=_;rw [HM.out]⟩
   have HB:=Lib.hid hB;clear hm hB N;have hcr:=fun w1=>Z0s (nth l k).x (nth l k).y (nth l m).x (nth l m).y x y w1 (by omega) (by omega) (by omega) (by omega) (by omega) (by omega) (by omega) (by omega) (by omega) (by omega) (by omega) (by omega)
   have htv:Hid (Z6 (sideP l k).1 (sideP l k).2 ⟨x,y⟩=turnV (nth l k).x (nth l k).y (nth l m).x (nth l m).y x y):=by show _=_;rw [hs.out.1,hs.out.2];rfl
   clear pk pm;generalize (nth l k).x=ax at *;generalize (nth l k).y=ay at *;generalize (nth l m).x=bx at *;generalize (nth l m).y=by' at *
   by_cases ht:turnV ax ay bx by' x y<0
   ·have dt:decide (turnV ax ay bx by' x y<0)=true:=by simpa using ht
    have hf:inside l ⟨x,y⟩=false:=by
     cases h':inside l ⟨x,y⟩
     ·rfl
     ·have:=HIFF.out.1 h' k hlt
      rw [htv.out] at this;omega
    have HF:=Lib.hid hf;clear ht hf htv;generalize turnV ax ay bx by' x y=t at *
    go_wp2
    (refine Zg (by kernel_rfl) (by kernel_rfl) ?_;(iterate 14 (apply Zf;(case hw=>rfl);(case hval=>(intro w1 hw1;have hcx:=Low.cells hw1;simp only [Oper.quietAt];go_simp;first | done | (first | (go_at_call 59;exact Low.calls hw1 (hcr _))) | rfl | exact⟨rfl,rfl⟩));simp only [Act.put,zq5,zr5,zs5]));refine wpQuiet_nil ?_;intro w2 hw2)
    go_wp2;go_ret;exact⟨by rw [HF.out];rfl,hBw.trans (hw2.out.mono (by omega))⟩
   ·have dt:decide (turnV ax ay bx by' x y<0)=false:=by simpa using ht
    have HALL2:Hid (∀ j,j<k+1→0≤Z6 (sideP l j).1 (sideP l j).2 ⟨x,y⟩):=fun j hj=>by
     by_cases e:j=k
     ·rw [e,htv.out];omega
     ·exact HALL.out j (by omega)
    clear ht htv;generalize turnV ax ay bx by' x y=t at *
    go_wp2
    (refine Zg (by kernel_rfl) (by kernel_rfl) ?_;(iterate 14 (apply Zf;(case hw=>rfl);(case hval=>(intro w1 hw1;have hcx:=Low.cells hw1;simp only [Oper.quietAt];go_simp;first | done | (first | (go_at_call 59;exact Low.calls hw1 (hcr _))) | rfl | exact⟨rfl,rfl⟩));simp only [Act.put,zq5,zr5,zs5]));refine wpQuiet_nil ?_;intro w2 hw2)
    go_wp2;go_roundw
    case rel=>exact⟨k+1,by omega,by go_num,HALL2.out,HB.out.trans (hw2.out.mono (by omega))⟩
    case measure=>simp [intOf];omega
  ·obtain rfl:k=l.length:=by omega
   have dk:decide ((l.length:Int)<(l.length:Int))=false:=by simp
   have HF:=Lib.hid (HIFF.out.2 HALL.out);clear hB;go_wp2;go_ret;exact⟨by rw [HF.out];rfl,hBw⟩
theorem ZaW {ax ay bx by' px py:Int}:btwB ax ay bx by' px py=true↔Btw ⟨ax,ay⟩ ⟨bx,by'⟩ ⟨px,py⟩:=by
 unfold btwB minI maxI Btw;simp only [Bool.and_eq_true,decide_eq_true_eq];constructor
 ·rintro ⟨⟨⟨a,b⟩,c⟩,d⟩
  split at a <;> split at b <;> split at c <;> split at d <;> omega
 ·intro h
  refine⟨⟨⟨?_,?_⟩,?_⟩,?_⟩ <;> split <;> omega
theorem ZaN (ax ay bx by' cx cy:Int) (w:World) (a1:-2000000≤ax) (a2:ax≤2000000) (a3:-2000000≤ay) (a4:ay≤2000000)
  (b1:-2000000≤bx) (b2:bx≤2000000) (b3:-2000000≤by') (b4:by'≤2000000) (c1:-2000000≤cx) (c2:cx≤2000000) (c3:-2000000≤cy) (c4:cy≤2000000) :
  Calls Tryz.prog 59 #[.agg #[.int .i64 ax,.int .i64 ay],.agg #[.int .i64 bx,.int .i64 by'],.agg #[.int .i64 cx,.int .i64 cy]] w fun e w'=>e=.returned (.int .i64 (turnV ax ay bx by' cx cy))∧Below w.heap.size w w':=by
 have p:=ZF (a:=bx-ax) (b:=cy-ay) (m:=4000000) (n:=4000000) (by omega) (by omega) (by omega) (by omega)
 have q:=ZF (a:=by'-ay) (b:=cx-ax) (m:=4000000) (n:=4000000) (by omega) (by omega) (by omega) (by omega)
 have p':IntKind.i64.wrap ((bx-ax)*(cy-ay))=(bx-ax)*(cy-ay):=zW2;have q':IntKind.i64.wrap ((by'-ay)*(cx-ax))=(by'-ay)*(cx-ax):=zW2
 have r':IntKind.i64.wrap ((bx-ax)*(cy-ay)-(by'-ay)*(cx-ax))=(bx-ax)*(cy-ay)-(by'-ay)*(cx-ax):=zW2
 clear p q;unfold turnV;go_enter Tryz.func59,Tryz.ntmps59;go_wp2;go_ret;exact⟨rfl,zB2⟩
def far6 (p:Pt):Prop:=-2000000≤p.x∧p.x≤2000000∧-2000000≤p.y∧p.y≤2000000
theorem Z8i {p:Pt} (h:Z4 p=true):far6 p:=by have:=Zl h;unfold far6;omega
theorem Z4f {l:List Pt} {s:Pt} (hl:∀ k,k<l.length→far6 (nth l k)) (hs:far6 s):∀ k,k≤l.length→far6 (nextTo l s k)
 | 0,_=>hs
 | k + 1, h => by
  simp only [nextTo,wrapStep]
  split
  ·exact hl k (by omega)
  ·exact Z4f hl hs k (by omega)
theorem Z9f {ax ay bx by':Int}:lessB ax ay bx by'=true↔LexLt ⟨ax,ay⟩ ⟨bx,by'⟩:=by
 unfold lessB LexLt;rw [decide_eq_true_eq,Z0j]
def NS (n b o:Nat) (sx sy tx ty px py:Int) (w W:World):Prop:=b<n∧w.heap.size=n∧Has W n #[.int .i64 sx,.int .i64 sy] 58∧Has W (n+1) #[.int .i64 0,.int .i64 0] 58∧Has W (n+2) #[.int .i64 tx,.int .i64 ty] 58∧Below n w W∧W.cell? ⟨b,o,none⟩=some (.int .i64 px)∧W.cell? ⟨b,o+1,none⟩=some (.int .i64 py)
theorem NS.below {n b o:Nat} {sx sy tx ty px py:Int} {w W W':World} (h:NS n b o sx sy tx ty px py w W) (hb:Below W.heap.size W W'):NS n b o sx sy tx ty px py w W':=by
 obtain⟨h0,hn,h1,h2,h3,h4,h5,h6⟩:=h;have l3:=h3.lt;exact⟨h0,hn,h1.below hb (by omega),h2.below hb (by omega),h3.below hb (by omega),h4.trans (hb.mono (by omega)),(hb.cell (p:=⟨b,o,none⟩) (by show b<_;omega)).trans h5,(hb.cell (p:=⟨b,o+1,none⟩) (by show b<_;omega)).trans h6⟩
theorem Zau (v : Value) (l : List Pt) (s : Pt) (w : World) (hp : Z8 w.heap.size w v l) (hl : ∀ k, k < l.length → far6 (nth l k)) (hs : far6 s) :
  Calls Tryz.prog 155 #[v,.agg #[.int .i64 s.x,.int .i64 s.y]] w fun e w'=>e=.returned (.agg #[.int .i64 (nextP l s).x,.int .i64 (nextP l s).y])∧Below w.heap.size w w':=by
 obtain⟨hll,a,cap,rfl,hc⟩:=hp;have HC:=Lib.hid hc;have HF:=Lib.hid (fun k hk=>Z4f hl hs k hk)
 have HL:=Lib.hid hl;obtain⟨sx,sy⟩:=s;have bs:far6 ⟨sx,sy⟩:=hs;have a1:=Has.new w #[.int .i64 sx,.int .i64 sy] 58;have a2:=a1.below ((Below.refl (w.heap.size+1) _).alloc (by simp) (.cells #[.int .i64 0,.int .i64 0] 58)) (by omega)
 have a3:=a2.below ((Below.refl (w.heap.size+1) _).alloc (by simp) (.cells #[.int .i64 sx,.int .i64 sy] 58)) (by omega)
 have b2:=Has.new (w.alloc (.cells #[.int .i64 sx,.int .i64 sy] 58)) #[.int .i64 0,.int .i64 0] 58;rw [World.size_alloc] at b2;have b3:=b2.below ((Below.refl (w.heap.size+2) _).alloc (by simp) (.cells #[.int .i64 sx,.int .i64 sy] 58)) (by omega)
 have c3:=Has.new ((w.alloc (.cells #[.int .i64 sx,.int .i64 sy] 58)).alloc (.cells #[.int .i64 0,.int .i64 0] 58)) #[.int .i64 sx,.int .i64 sy] 58;rw [World.size_alloc,World.size_alloc] at c3;have d3:Below w.heap.size w (((w.alloc (.cells #[.int .i64 sx,.int .i64 sy] 58)).alloc (.cells #[.int .i64 0,.int .i64 0] 58)).alloc (.cells #[.int .i64 sx,.int .i64 sy] 58)):=(((Below.refl w.heap.size w).alloc (Nat.le_refl _) _).alloc (by simp) _).alloc (by simp;omega) _
 have HS:=Lib.hid (And.intro a3 (And.intro b3 (And.intro c3 d3)));clear hc hl hs a1 a2 a3 b2 b3 c3 d3;go_enter Tryz.func155,Tryz.ntmps155;go_wp2
 go_loopw [6] (fun i wr=>∃ k:Nat,k≤l.length∧i=.int .i64 (k:Int)∧Has wr w.heap.size #[.int .i64 sx,.int .i64 sy] 58∧Has wr (w.heap.size+1) #[.int .i64 0,.int .i64 0] 58∧Has wr (w.heap.size+2) #[.int .i64 (nextTo l ⟨sx,sy⟩ k).x,.int .i64 (nextTo l ⟨sx,sy⟩ k).y] 58∧Below w.heap.size w wr) (fun i _=>l.length-(intOf i).toNat)
 case atStart=>exact⟨0,by omega,rfl,HS.out.1,HS.out.2.1,HS.out.2.2.1,HS.out.2.2.2⟩
 case round =>
  obtain⟨k,hk,rfl,g3,g4,g5,hB⟩:=hrel;have hzB:=hB.size;have l5:=g5.lt;by_cases hlt:k<l.length
  ·obtain ⟨b, o, rfl, hb, hcc⟩ := HC.out.resolve_left (by intro h; rw [h] at hlt; simp at hlt)
   obtain⟨q0,q1⟩:=hcc k hlt;have f0:=(hB.cell (p:=⟨b,o+k*2,none⟩) hb).trans q0;have f1:=(hB.cell (p:=⟨b,o+k*2+1,none⟩) hb).trans q1;have bt:=HF.out k hk;have bp:=HL.out k hlt;have hst:Hid (nextTo l ⟨sx,sy⟩ (k+1)=wrapStep ⟨sx,sy⟩ (nextTo l ⟨sx,sy⟩ k) (nth l k)):=rfl;obtain⟨⟨tx,ty⟩,ht⟩:∃ t,nextTo l ⟨sx,sy⟩ k=t:=⟨_,rfl⟩;obtain⟨⟨px,py⟩,hpx⟩:∃ t,nth l k=t:=⟨_,rfl⟩;rw [ht] at g5 hst bt;rw [hpx] at f0 f1 hst bp;have HN:Hid (NS w.heap.size b (o+k*2) sx sy tx ty px py w wr):=⟨hb,rfl,g3,g4,g5,hB,f0,f1⟩;clear ht hpx hcc q0 q1 g3 g4 g5 hB f0 f1;unfold far6 at bt bp bs;simp only at bt bp bs;have hcr:=Lib.hid (fun w1=>ZaN sx sy tx ty px py w1 bs.1 bs.2.1 bs.2.2.1 bs.2.2.2 bt.1 bt.2.1 bt.2.2.1 bt.2.2.2 bp.1 bp.2.1 bp.2.2.1 bp.2.2.2)
   have hst2:Hid (wrapStep ⟨sx,sy⟩ ⟨tx,ty⟩ ⟨px,py⟩=if ((⟨tx,ty⟩:Pt)=⟨sx,sy⟩∨turnV sx sy tx ty px py<0∨turnV sx sy tx ty px py=0∧btwB sx sy px py tx ty=true) then ⟨px,py⟩ else ⟨tx,ty⟩):=by
    show _=_
    unfold wrapStep;simp only [ZaW]
    rfl
   rw [hst2.out] at hst;clear hst2 bs bt bp;obtain⟨c,hcv⟩:∃ c,turnV sx sy tx ty px py=c:=⟨_,rfl⟩;rw [hcv] at hcr hst;have hbw:=Lib.hid (fun w1=>Z2U sx sy px py tx ty w1)
   obtain⟨bb,hbb⟩:∃ bb,btwB sx sy px py tx ty=bb:=⟨_,rfl⟩;rw [hbb] at hbw hst;clear hbb;have dk:decide ((k:Int)<(l.length:Int))=true:=by simp;omega
   have kl:(k:Int)<l.length:=by omega
   have k0:(0:Int)≤k:=by omega
   obtain⟨_,_,g3,g4,g5,hB,f0,f1⟩:=HN.out;have l5:=g5.lt;have s0:=Low.fact (g3.cell (i:=0) rfl:wr.cell? ⟨w.heap.size,0,none⟩=some (.int .i64 sx));have s1:=Low.fact (g3.cell (i:=1) rfl:wr.cell? ⟨w.heap.size,1,none⟩=some (.int .i64 sy));have t0:=Low.fact (g5.cell (i:=0) rfl:wr.cell? ⟨w.heap.size+2,0,none⟩=some (.int .i64 tx));have t1:=Low.fact (g5.cell (i:=1) rfl:wr.cell? ⟨w.heap.size+2,1,none⟩=some (.int .i64 ty));have p0:=Low.fact f0;have p1:=Low.fact f1;clear g3 g4 g5 hB f0 f1;rcases (show (tx=sx∧ty=sy)∨(tx=sx∧¬ ty=sy)∨¬ tx=sx by omega) with⟨e1,e2⟩ | hne
   ·obtain rfl:=e1.symm
    obtain rfl:=e2.symm;rw [if_pos (.inl rfl)] at hst;clear hcv;go_wp2
    (refine Zg (by kernel_rfl) (by kernel_rfl) ?_;(iterate 8 (apply Zf;(case hw=>rfl);(case hval=>(intro w1 hw1;have hcx:=Low.cells hw1;simp only [Oper.quietAt];go_simp;first | done | (first | (go_at_call 59;exact Low.calls hw1 (hcr.out _))) | rfl | exact⟨rfl,rfl⟩));simp only [Act.put,zq5,zr5,zs5]));refine wpQuiet_nil ?_;intro w2 hw2)
    have HN2:=Lib.hid (HN.out.below hw2.out);clear s0 s1 t0 t1 p0 p1 hw2 HN l5;have HN:=HN2;clear HN2;generalize w2=X2 at HN ⊢;obtain⟨_,_,g3,g4,g5,hB,f0,f1⟩:=HN.out;have l5:=g5.lt;have s0:=Low.fact (g3.cell (i:=0) rfl:X2.cell? ⟨w.heap.size,0,none⟩=some (.int .i64 sx));have s1:=Low.fact (g3.cell (i:=1) rfl:X2.cell? ⟨w.heap.size,1,none⟩=some (.int .i64 sy));have t0:=Low.fact (g5.cell (i:=0) rfl:X2.cell? ⟨w.heap.size+2,0,none⟩=some (.int .i64 sx));have t1:=Low.fact (g5.cell (i:=1) rfl:X2.cell? ⟨w.heap.size+2,1,none⟩=some (.int .i64 sy));have p0:=Low.fact f0;have p1:=Low.fact f1;clear g3 g4 g5 hB f0 f1;go_wp2
    (refine Zg (by kernel_rfl) (by kernel_rfl) ?_;(iterate 4 (apply Zf;(case hw=>rfl);(case hval=>(intro w1 hw1;have hcx:=Low.cells hw1;simp only [Oper.quietAt];go_simp;first | done | (first | (go_at_call 184;exact Low.calls hw1 (hbw.out _))) | rfl | exact⟨rfl,rfl⟩));simp only [Act.put,zq5,zr5,zs5]));(iterate 2 (apply Zr;(case hw=>rfl);simp only [Act.put,zq5,zr5,zs5]));(iterate 2 (apply Zf;(case hw=>rfl);(case hval=>(intro w1 hw1;have hcx:=Low.cells hw1;simp only [Oper.quietAt];go_simp;first | done | (first | (go_at_call 184;exact Low.calls hw1 (hbw.out _))) | rfl | exact⟨rfl,rfl⟩));simp only [Act.put,zq5,zr5,zs5]));(iterate 11 (apply Zr;(case hw=>rfl);simp only [Act.put,zq5,zr5,zs5]));(iterate 1 (apply Zf;(case hw=>rfl);(case hval=>(intro w1 hw1;have hcx:=Low.cells hw1;simp only [Oper.quietAt];go_simp;first | done | (first | (go_at_call 184;exact Low.calls hw1 (hbw.out _))) | rfl | exact⟨rfl,rfl⟩));simp only [Act.put,zq5,zr5,zs5]));refine wpQuiet_nil ?_;intro w2 hw2)
    have HN3:=Lib.hid (HN.out.below hw2.out);clear s0 s1 t0 t1 p0 p1 hw2 HN l5;obtain⟨h0,hn,g3,g4,g5,hB,f0,f1⟩:=HN3.out;have l5:=g5.lt;have x0:w2.cell? ⟨w.heap.size+2,0,none⟩=some (.int .i64 sx):=g5.cell (i:=0) rfl;have x1:w2.cell? ⟨w.heap.size+2,1,none⟩=some (.int .i64 sy):=g5.cell (i:=1) rfl;have y0:=Zh g5 0;have y1:=Zh g5 1;have HZ:=Lib.hid (And.intro ((g3.other ⟨w.heap.size+2,0,none⟩ (.int .i64 px) (by simp)).other ⟨w.heap.size+2,1,none⟩ (.int .i64 py) (by simp)) (And.intro ((g4.other ⟨w.heap.size+2,0,none⟩ (.int .i64 px) (by simp)).other ⟨w.heap.size+2,1,none⟩ (.int .i64 py) (by simp)) (And.intro ((g5.set 0 (.int .i64 px)).set 1 (.int .i64 py)) ((hB.setCell (p:=⟨w.heap.size+2,0,none⟩) (by simp) (.int .i64 px)).setCell (p:=⟨w.heap.size+2,1,none⟩) (by simp) (.int .i64 py)))))
    clear g3 g4 g5 hB;go_wp2;go_roundw
    case rel=>exact⟨k+1,by omega,by go_num,HZ.out.1,HZ.out.2.1,by rw [hst.out];exact HZ.out.2.2.1,HZ.out.2.2.2⟩
    case measure=>simp [intOf];omega
   ·have hnp:¬ (⟨tx,ty⟩:Pt)=⟨sx,sy⟩:=fun h=>by simp only [Pt.mk.injEq] at h;omega
    rcases (show c<0∨c=0∨0<c by omega) with hc | rfl | hc
    ·rw [if_pos (.inr (.inl hc))] at hst
     have d1:decide (c<0)=true:=by simpa using hc
     clear hnp hc;rcases hne with⟨e1,hne⟩ | hne
     ·obtain rfl:=e1.symm
      clear hcv;go_wp2
      (refine Zg (by kernel_rfl) (by kernel_rfl) ?_;(iterate 8 (apply Zf;(case hw=>rfl);(case hval=>(intro w1 hw1;have hcx:=Low.cells hw1;simp only [Oper.quietAt];go_simp;first | done | (first | (go_at_call 59;exact Low.calls hw1 (hcr.out _))) | rfl | exact⟨rfl,rfl⟩));simp only [Act.put,zq5,zr5,zs5]));refine wpQuiet_nil ?_;intro w2 hw2)
      have HN2:=Lib.hid (HN.out.below hw2.out);clear s0 s1 t0 t1 p0 p1 hw2 HN l5;have HN:=HN2;clear HN2;generalize w2=X2 at HN ⊢;obtain⟨_,_,g3,g4,g5,hB,f0,f1⟩:=HN.out;have l5:=g5.lt;have s0:=Low.fact (g3.cell (i:=0) rfl:X2.cell? ⟨w.heap.size,0,none⟩=some (.int .i64 sx));have s1:=Low.fact (g3.cell (i:=1) rfl:X2.cell? ⟨w.heap.size,1,none⟩=some (.int .i64 sy));have t0:=Low.fact (g5.cell (i:=0) rfl:X2.cell? ⟨w.heap.size+2,0,none⟩=some (.int .i64 sx));have t1:=Low.fact (g5.cell (i:=1) rfl:X2.cell? ⟨w.heap.size+2,1,none⟩=some (.int .i64 ty));have p0:=Low.fact f0;have p1:=Low.fact f1;clear g3 g4 g5 hB f0 f1;go_wp2
      (refine Zg (by kernel_rfl) (by kernel_rfl) ?_;(iterate 8 (apply Zf;(case hw=>rfl);(case hval=>(intro w1 hw1;have hcx:=Low.cells hw1;simp only [Oper.quietAt];go_simp;first | done | (first | (go_at_call 184;exact Low.calls hw1 (hbw.out _))) | rfl | exact⟨rfl,rfl⟩));simp only [Act.put,zq5,zr5,zs5]));(iterate 11 (apply Zr;(case hw=>rfl);simp only [Act.put,zq5,zr5,zs5]));(iterate 1 (apply Zf;(case hw=>rfl);(case hval=>(intro w1 hw1;have hcx:=Low.cells hw1;simp only [Oper.quietAt];go_simp;first | done | (first | (go_at_call 184;exact Low.calls hw1 (hbw.out _))) | rfl | exact⟨rfl,rfl⟩));simp only [Act.put,zq5,zr5,zs5]));refine wpQuiet_nil ?_;intro w2 hw2)
      have HN3:=Lib.hid (HN.out.below hw2.out);clear s0 s1 t0 t1 p0 p1 hw2 HN l5;obtain⟨h0,hn,g3,g4,g5,hB,f0,f1⟩:=HN3.out;have l5:=g5.lt;have x0:w2.cell? ⟨w.heap.size+2,0,none⟩=some (.int .i64 sx):=g5.cell (i:=0) rfl;have x1:w2.cell? ⟨w.heap.size+2,1,none⟩=some (.int .i64 ty):=g5.cell (i:=1) rfl;have y0:=Zh g5 0;have y1:=Zh g5 1;have HZ:=Lib.hid (And.intro ((g3.other ⟨w.heap.size+2,0,none⟩ (.int .i64 px) (by simp)).other ⟨w.heap.size+2,1,none⟩ (.int .i64 py) (by simp)) (And.intro ((g4.other ⟨w.heap.size+2,0,none⟩ (.int .i64 px) (by simp)).other ⟨w.heap.size+2,1,none⟩ (.int .i64 py) (by simp)) (And.intro ((g5.set 0 (.int .i64 px)).set 1 (.int .i64 py)) ((hB.setCell (p:=⟨w.heap.size+2,0,none⟩) (by simp) (.int .i64 px)).setCell (p:=⟨w.heap.size+2,1,none⟩) (by simp) (.int .i64 py)))))
      clear g3 g4 g5 hB;go_wp2;go_roundw
      case rel=>exact⟨k+1,by omega,by go_num,HZ.out.1,HZ.out.2.1,by rw [hst.out];exact HZ.out.2.2.1,HZ.out.2.2.2⟩
      case measure=>simp [intOf];omega
     ·clear hcv
      go_wp2
      (refine Zg (by kernel_rfl) (by kernel_rfl) ?_;(iterate 8 (apply Zf;(case hw=>rfl);(case hval=>(intro w1 hw1;have hcx:=Low.cells hw1;simp only [Oper.quietAt];go_simp;first | done | (first | (go_at_call 59;exact Low.calls hw1 (hcr.out _))) | rfl | exact⟨rfl,rfl⟩));simp only [Act.put,zq5,zr5,zs5]));refine wpQuiet_nil ?_;intro w2 hw2)
      have HN2:=Lib.hid (HN.out.below hw2.out);clear s0 s1 t0 t1 p0 p1 hw2 HN l5;have HN:=HN2;clear HN2;generalize w2=X2 at HN ⊢;obtain⟨_,_,g3,g4,g5,hB,f0,f1⟩:=HN.out;have l5:=g5.lt;have s0:=Low.fact (g3.cell (i:=0) rfl:X2.cell? ⟨w.heap.size,0,none⟩=some (.int .i64 sx));have s1:=Low.fact (g3.cell (i:=1) rfl:X2.cell? ⟨w.heap.size,1,none⟩=some (.int .i64 sy));have t0:=Low.fact (g5.cell (i:=0) rfl:X2.cell? ⟨w.heap.size+2,0,none⟩=some (.int .i64 tx));have t1:=Low.fact (g5.cell (i:=1) rfl:X2.cell? ⟨w.heap.size+2,1,none⟩=some (.int .i64 ty));have p0:=Low.fact f0;have p1:=Low.fact f1;clear g3 g4 g5 hB f0 f1;go_wp2
      (refine Zg (by kernel_rfl) (by kernel_rfl) ?_;(iterate 8 (apply Zf;(case hw=>rfl);(case hval=>(intro w1 hw1;have hcx:=Low.cells hw1;simp only [Oper.quietAt];go_simp;first | done | (first | (go_at_call 184;exact Low.calls hw1 (hbw.out _))) | rfl | exact⟨rfl,rfl⟩));simp only [Act.put,zq5,zr5,zs5]));(iterate 11 (apply Zr;(case hw=>rfl);simp only [Act.put,zq5,zr5,zs5]));(iterate 1 (apply Zf;(case hw=>rfl);(case hval=>(intro w1 hw1;have hcx:=Low.cells hw1;simp only [Oper.quietAt];go_simp;first | done | (first | (go_at_call 184;exact Low.calls hw1 (hbw.out _))) | rfl | exact⟨rfl,rfl⟩));simp only [Act.put,zq5,zr5,zs5]));refine wpQuiet_nil ?_;intro w2 hw2)
      have HN3:=Lib.hid (HN.out.below hw2.out);clear s0 s1 t0 t1 p0 p1 hw2 HN l5;obtain⟨h0,hn,g3,g4,g5,hB,f0,f1⟩:=HN3.out;have l5:=g5.lt;have x0:w2.cell? ⟨w.heap.size+2,0,none⟩=some (.int .i64 tx):=g5.cell (i:=0) rfl;have x1:w2.cell? ⟨w.heap.size+2,1,none⟩=some (.int .i64 ty):=g5.cell (i:=1) rfl;have y0:=Zh g5 0;have y1:=Zh g5 1;have HZ:=Lib.hid (And.intro ((g3.other ⟨w.heap.size+2,0,none⟩ (.int .i64 px) (by simp)).other ⟨w.heap.size+2,1,none⟩ (.int .i64 py) (by simp)) (And.intro ((g4.other ⟨w.heap.size+2,0,none⟩ (.int .i64 px) (by simp)).other ⟨w.heap.size+2,1,none⟩ (.int .i64 py) (by simp)) (And.intro ((g5.set 0 (.int .i64 px)).set 1 (.int .i64 py)) ((hB.setCell (p:=⟨w.heap.size+2,0,none⟩) (by simp) (.int .i64 px)).setCell (p:=⟨w.heap.size+2,1,none⟩) (by simp) (.int .i64 py)))))
      clear g3 g4 g5 hB;go_wp2;go_roundw
      case rel=>exact⟨k+1,by omega,by go_num,HZ.out.1,HZ.out.2.1,by rw [hst.out];exact HZ.out.2.2.1,HZ.out.2.2.2⟩
      case measure=>simp [intOf];omega
    ·have d1:decide ((0:Int)<0)=false:=rfl
     cases bb
     ·rw [if_neg (by rintro (h | h | ⟨_,h⟩);exact hnp h;omega;cases h)] at hst
      clear hnp;rcases hne with⟨e1,hne⟩ | hne
      ·obtain rfl:=e1.symm
       clear hcv;go_wp2
       (refine Zg (by kernel_rfl) (by kernel_rfl) ?_;(iterate 8 (apply Zf;(case hw=>rfl);(case hval=>(intro w1 hw1;have hcx:=Low.cells hw1;simp only [Oper.quietAt];go_simp;first | done | (first | (go_at_call 59;exact Low.calls hw1 (hcr.out _))) | rfl | exact⟨rfl,rfl⟩));simp only [Act.put,zq5,zr5,zs5]));refine wpQuiet_nil ?_;intro w2 hw2)
       have HN2:=Lib.hid (HN.out.below hw2.out);clear s0 s1 t0 t1 p0 p1 hw2 HN l5;have HN:=HN2;clear HN2;generalize w2=X2 at HN ⊢;obtain⟨_,_,g3,g4,g5,hB,f0,f1⟩:=HN.out;have l5:=g5.lt;have s0:=Low.fact (g3.cell (i:=0) rfl:X2.cell? ⟨w.heap.size,0,none⟩=some (.int .i64 sx));have s1:=Low.fact (g3.cell (i:=1) rfl:X2.cell? ⟨w.heap.size,1,none⟩=some (.int .i64 sy));have t0:=Low.fact (g5.cell (i:=0) rfl:X2.cell? ⟨w.heap.size+2,0,none⟩=some (.int .i64 sx));have t1:=Low.fact (g5.cell (i:=1) rfl:X2.cell? ⟨w.heap.size+2,1,none⟩=some (.int .i64 ty));have p0:=Low.fact f0;have p1:=Low.fact f1;clear g3 g4 g5 hB f0 f1;go_wp2
       (refine Zg (by kernel_rfl) (by kernel_rfl) ?_;(iterate 20 (apply Zf;(case hw=>rfl);(case hval=>(intro w1 hw1;have hcx:=Low.cells hw1;simp only [Oper.quietAt];go_simp;first | done | (first | (go_at_call 184;exact Low.calls hw1 (hbw.out _))) | rfl | exact⟨rfl,rfl⟩));simp only [Act.put,zq5,zr5,zs5]));refine wpQuiet_nil ?_;intro w2 hw2)
       have HN3:=Lib.hid (HN.out.below hw2.out);clear s0 s1 t0 t1 p0 p1 hw2 HN l5;obtain⟨h0,hn,g3,g4,g5,hB,f0,f1⟩:=HN3.out;have HZ:=Lib.hid (And.intro g3 (And.intro g4 (And.intro g5 hB)));clear g3 g4 g5 hB f0 f1;go_wp2;go_roundw
       case rel=>exact⟨k+1,by omega,by go_num,HZ.out.1,HZ.out.2.1,by rw [hst.out];exact HZ.out.2.2.1,HZ.out.2.2.2⟩
       case measure=>simp [intOf];omega
      ·clear hcv
       go_wp2
       (refine Zg (by kernel_rfl) (by kernel_rfl) ?_;(iterate 8 (apply Zf;(case hw=>rfl);(case hval=>(intro w1 hw1;have hcx:=Low.cells hw1;simp only [Oper.quietAt];go_simp;first | done | (first | (go_at_call 59;exact Low.calls hw1 (hcr.out _))) | rfl | exact⟨rfl,rfl⟩));simp only [Act.put,zq5,zr5,zs5]));refine wpQuiet_nil ?_;intro w2 hw2)
       have HN2:=Lib.hid (HN.out.below hw2.out);clear s0 s1 t0 t1 p0 p1 hw2 HN l5;have HN:=HN2;clear HN2;generalize w2=X2 at HN ⊢;obtain⟨_,_,g3,g4,g5,hB,f0,f1⟩:=HN.out;have l5:=g5.lt;have s0:=Low.fact (g3.cell (i:=0) rfl:X2.cell? ⟨w.heap.size,0,none⟩=some (.int .i64 sx));have s1:=Low.fact (g3.cell (i:=1) rfl:X2.cell? ⟨w.heap.size,1,none⟩=some (.int .i64 sy));have t0:=Low.fact (g5.cell (i:=0) rfl:X2.cell? ⟨w.heap.size+2,0,none⟩=some (.int .i64 tx));have t1:=Low.fact (g5.cell (i:=1) rfl:X2.cell? ⟨w.heap.size+2,1,none⟩=some (.int .i64 ty));have p0:=Low.fact f0;have p1:=Low.fact f1;clear g3 g4 g5 hB f0 f1;go_wp2
       (refine Zg (by kernel_rfl) (by kernel_rfl) ?_;(iterate 20 (apply Zf;(case hw=>rfl);(case hval=>(intro w1 hw1;have hcx:=Low.cells hw1;simp only [Oper.quietAt];go_simp;first | done | (first | (go_at_call 184;exact Low.calls hw1 (hbw.out _))) | rfl | exact⟨rfl,rfl⟩));simp only [Act.put,zq5,zr5,zs5]));refine wpQuiet_nil ?_;intro w2 hw2)
       have HN3:=Lib.hid (HN.out.below hw2.out);clear s0 s1 t0 t1 p0 p1 hw2 HN l5;obtain⟨h0,hn,g3,g4,g5,hB,f0,f1⟩:=HN3.out;have HZ:=Lib.hid (And.intro g3 (And.intro g4 (And.intro g5 hB)));clear g3 g4 g5 hB f0 f1;go_wp2;go_roundw
       case rel=>exact⟨k+1,by omega,by go_num,HZ.out.1,HZ.out.2.1,by rw [hst.out];exact HZ.out.2.2.1,HZ.out.2.2.2⟩
       case measure=>simp [intOf];omega
     ·rw [if_pos (.inr (.inr ⟨rfl,rfl⟩))] at hst
      clear hnp;rcases hne with⟨e1,hne⟩ | hne
      ·obtain rfl:=e1.symm
       clear hcv;go_wp2
       (refine Zg (by kernel_rfl) (by kernel_rfl) ?_;(iterate 8 (apply Zf;(case hw=>rfl);(case hval=>(intro w1 hw1;have hcx:=Low.cells hw1;simp only [Oper.quietAt];go_simp;first | done | (first | (go_at_call 59;exact Low.calls hw1 (hcr.out _))) | rfl | exact⟨rfl,rfl⟩));simp only [Act.put,zq5,zr5,zs5]));refine wpQuiet_nil ?_;intro w2 hw2)
       have HN2:=Lib.hid (HN.out.below hw2.out);clear s0 s1 t0 t1 p0 p1 hw2 HN l5;have HN:=HN2;clear HN2;generalize w2=X2 at HN ⊢;obtain⟨_,_,g3,g4,g5,hB,f0,f1⟩:=HN.out;have l5:=g5.lt;have s0:=Low.fact (g3.cell (i:=0) rfl:X2.cell? ⟨w.heap.size,0,none⟩=some (.int .i64 sx));have s1:=Low.fact (g3.cell (i:=1) rfl:X2.cell? ⟨w.heap.size,1,none⟩=some (.int .i64 sy));have t0:=Low.fact (g5.cell (i:=0) rfl:X2.cell? ⟨w.heap.size+2,0,none⟩=some (.int .i64 sx));have t1:=Low.fact (g5.cell (i:=1) rfl:X2.cell? ⟨w.heap.size+2,1,none⟩=some (.int .i64 ty));have p0:=Low.fact f0;have p1:=Low.fact f1;clear g3 g4 g5 hB f0 f1;go_wp2
       (refine Zg (by kernel_rfl) (by kernel_rfl) ?_;(iterate 20 (apply Zf;(case hw=>rfl);(case hval=>(intro w1 hw1;have hcx:=Low.cells hw1;simp only [Oper.quietAt];go_simp;first | done | (first | (go_at_call 184;exact Low.calls hw1 (hbw.out _))) | rfl | exact⟨rfl,rfl⟩));simp only [Act.put,zq5,zr5,zs5]));refine wpQuiet_nil ?_;intro w2 hw2)
       have HN3:=Lib.hid (HN.out.below hw2.out);clear s0 s1 t0 t1 p0 p1 hw2 HN l5;obtain⟨h0,hn,g3,g4,g5,hB,f0,f1⟩:=HN3.out;have l5:=g5.lt;have x0:w2.cell? ⟨w.heap.size+2,0,none⟩=some (.int .i64 sx):=g5.cell (i:=0) rfl;have x1:w2.cell? ⟨w.heap.size+2,1,none⟩=some (.int .i64 ty):=g5.cell (i:=1) rfl;have y0:=Zh g5 0;have y1:=Zh g5 1;have HZ:=Lib.hid (And.intro ((g3.other ⟨w.heap.size+2,0,none⟩ (.int .i64 px) (by simp)).other ⟨w.heap.size+2,1,none⟩ (.int .i64 py) (by simp)) (And.intro ((g4.other ⟨w.heap.size+2,0,none⟩ (.int .i64 px) (by simp)).other ⟨w.heap.size+2,1,none⟩ (.int .i64 py) (by simp)) (And.intro ((g5.set 0 (.int .i64 px)).set 1 (.int .i64 py)) ((hB.setCell (p:=⟨w.heap.size+2,0,none⟩) (by simp) (.int .i64 px)).setCell (p:=⟨w.heap.size+2,1,none⟩) (by simp) (.int .i64 py)))))
       clear g3 g4 g5 hB;go_wp2;go_roundw
       case rel=>exact⟨k+1,by omega,by go_num,HZ.out.1,HZ.out.2.1,by rw [hst.out];exact HZ.out.2.2.1,HZ.out.2.2.2⟩
       case measure=>simp [intOf];omega
      ·clear hcv
       go_wp2
       (refine Zg (by kernel_rfl) (by kernel_rfl) ?_;(iterate 8 (apply Zf;(case hw=>rfl);(case hval=>(intro w1 hw1;have hcx:=Low.cells hw1;simp only [Oper.quietAt];go_simp;first | done | (first | (go_at_call 59;exact Low.calls hw1 (hcr.out _))) | rfl | exact⟨rfl,rfl⟩));simp only [Act.put,zq5,zr5,zs5]));refine wpQuiet_nil ?_;intro w2 hw2)
       have HN2:=Lib.hid (HN.out.below hw2.out);clear s0 s1 t0 t1 p0 p1 hw2 HN l5;have HN:=HN2;clear HN2;generalize w2=X2 at HN ⊢;obtain⟨_,_,g3,g4,g5,hB,f0,f1⟩:=HN.out;have l5:=g5.lt;have s0:=Low.fact (g3.cell (i:=0) rfl:X2.cell? ⟨w.heap.size,0,none⟩=some (.int .i64 sx));have s1:=Low.fact (g3.cell (i:=1) rfl:X2.cell? ⟨w.heap.size,1,none⟩=some (.int .i64 sy));have t0:=Low.fact (g5.cell (i:=0) rfl:X2.cell? ⟨w.heap.size+2,0,none⟩=some (.int .i64 tx));have t1:=Low.fact (g5.cell (i:=1) rfl:X2.cell? ⟨w.heap.size+2,1,none⟩=some (.int .i64 ty));have p0:=Low.fact f0;have p1:=Low.fact f1;clear g3 g4 g5 hB f0 f1;go_wp2
       (refine Zg (by kernel_rfl) (by kernel_rfl) ?_;(iterate 20 (apply Zf;(case hw=>rfl);(case hval=>(intro w1 hw1;have hcx:=Low.cells hw1;simp only [Oper.quietAt];go_simp;first | done | (first | (go_at_call 184;exact Low.calls hw1 (hbw.out _))) | rfl | exact⟨rfl,rfl⟩));simp only [Act.put,zq5,zr5,zs5]));refine wpQuiet_nil ?_;intro w2 hw2)
       have HN3:=Lib.hid (HN.out.below hw2.out);clear s0 s1 t0 t1 p0 p1 hw2 HN l5;obtain⟨h0,hn,g3,g4,g5,hB,f0,f1⟩:=HN3.out;have l5:=g5.lt;have x0:w2.cell? ⟨w.heap.size+2,0,none⟩=some (.int .i64 tx):=g5.cell (i:=0) rfl;have x1:w2.cell? ⟨w.heap.size+2,1,none⟩=some (.int .i64 ty):=g5.cell (i:=1) rfl;have y0:=Zh g5 0;have y1:=Zh g5 1;have HZ:=Lib.hid (And.intro ((g3.other ⟨w.heap.size+2,0,none⟩ (.int .i64 px) (by simp)).other ⟨w.heap.size+2,1,none⟩ (.int .i64 py) (by simp)) (And.intro ((g4.other ⟨w.heap.size+2,0,none⟩ (.int .i64 px) (by simp)).other ⟨w.heap.size+2,1,none⟩ (.int .i64 py) (by simp)) (And.intro ((g5.set 0 (.int .i64 px)).set 1 (.int .i64 py)) ((hB.setCell (p:=⟨w.heap.size+2,0,none⟩) (by simp) (.int .i64 px)).setCell (p:=⟨w.heap.size+2,1,none⟩) (by simp) (.int .i64 py)))))
       clear g3 g4 g5 hB;go_wp2;go_roundw
       case rel=>exact⟨k+1,by omega,by go_num,HZ.out.1,HZ.out.2.1,by rw [hst.out];exact HZ.out.2.2.1,HZ.out.2.2.2⟩
       case measure=>simp [intOf];omega
    ·rw [if_neg (by rintro (h | h | ⟨h,_⟩);exact hnp h;omega;omega)] at hst
     have d1:decide (c<0)=false:=by simp;omega
     have d2:(c == 0)=false:=by rw [beq_eq_false_iff_ne];omega
     have d3:¬ c=0:=by omega
     clear hnp hc;rcases hne with⟨e1,hne⟩ | hne
     ·obtain rfl:=e1.symm
      clear hcv;go_wp2
      (refine Zg (by kernel_rfl) (by kernel_rfl) ?_;(iterate 8 (apply Zf;(case hw=>rfl);(case hval=>(intro w1 hw1;have hcx:=Low.cells hw1;simp only [Oper.quietAt];go_simp;first | done | (first | (go_at_call 59;exact Low.calls hw1 (hcr.out _))) | rfl | exact⟨rfl,rfl⟩));simp only [Act.put,zq5,zr5,zs5]));refine wpQuiet_nil ?_;intro w2 hw2)
      have HN2:=Lib.hid (HN.out.below hw2.out);clear s0 s1 t0 t1 p0 p1 hw2 HN l5;have HN:=HN2;clear HN2;generalize w2=X2 at HN ⊢;obtain⟨_,_,g3,g4,g5,hB,f0,f1⟩:=HN.out;have l5:=g5.lt;have s0:=Low.fact (g3.cell (i:=0) rfl:X2.cell? ⟨w.heap.size,0,none⟩=some (.int .i64 sx));have s1:=Low.fact (g3.cell (i:=1) rfl:X2.cell? ⟨w.heap.size,1,none⟩=some (.int .i64 sy));have t0:=Low.fact (g5.cell (i:=0) rfl:X2.cell? ⟨w.heap.size+2,0,none⟩=some (.int .i64 sx));have t1:=Low.fact (g5.cell (i:=1) rfl:X2.cell? ⟨w.heap.size+2,1,none⟩=some (.int .i64 ty));have p0:=Low.fact f0;have p1:=Low.fact f1;clear g3 g4 g5 hB f0 f1;go_wp2
      (refine Zg (by kernel_rfl) (by kernel_rfl) ?_;(iterate 11 (apply Zf;(case hw=>rfl);(case hval=>(intro w1 hw1;have hcx:=Low.cells hw1;simp only [Oper.quietAt];go_simp;first | done | (first | (go_at_call 184;exact Low.calls hw1 (hbw.out _))) | rfl | exact⟨rfl,rfl⟩));simp only [Act.put,zq5,zr5,zs5]));(iterate 7 (apply Zr;(case hw=>rfl);simp only [Act.put,zq5,zr5,zs5]));(iterate 2 (apply Zf;(case hw=>rfl);(case hval=>(intro w1 hw1;have hcx:=Low.cells hw1;simp only [Oper.quietAt];go_simp;first | done | (first | (go_at_call 184;exact Low.calls hw1 (hbw.out _))) | rfl | exact⟨rfl,rfl⟩));simp only [Act.put,zq5,zr5,zs5]));refine wpQuiet_nil ?_;intro w2 hw2)
      have HN3:=Lib.hid (HN.out.below hw2.out);clear s0 s1 t0 t1 p0 p1 hw2 HN l5;obtain⟨h0,hn,g3,g4,g5,hB,f0,f1⟩:=HN3.out;have HZ:=Lib.hid (And.intro g3 (And.intro g4 (And.intro g5 hB)));clear g3 g4 g5 hB f0 f1;go_wp2;go_roundw
      case rel=>exact⟨k+1,by omega,by go_num,HZ.out.1,HZ.out.2.1,by rw [hst.out];exact HZ.out.2.2.1,HZ.out.2.2.2⟩
      case measure=>simp [intOf];omega
     ·clear hcv
      go_wp2
      (refine Zg (by kernel_rfl) (by kernel_rfl) ?_;(iterate 8 (apply Zf;(case hw=>rfl);(case hval=>(intro w1 hw1;have hcx:=Low.cells hw1;simp only [Oper.quietAt];go_simp;first | done | (first | (go_at_call 59;exact Low.calls hw1 (hcr.out _))) | rfl | exact⟨rfl,rfl⟩));simp only [Act.put,zq5,zr5,zs5]));refine wpQuiet_nil ?_;intro w2 hw2)
      have HN2:=Lib.hid (HN.out.below hw2.out);clear s0 s1 t0 t1 p0 p1 hw2 HN l5;have HN:=HN2;clear HN2;generalize w2=X2 at HN ⊢;obtain⟨_,_,g3,g4,g5,hB,f0,f1⟩:=HN.out;have l5:=g5.lt;have s0:=Low.fact (g3.cell (i:=0) rfl:X2.cell? ⟨w.heap.size,0,none⟩=some (.int .i64 sx));have s1:=Low.fact (g3.cell (i:=1) rfl:X2.cell? ⟨w.heap.size,1,none⟩=some (.int .i64 sy));have t0:=Low.fact (g5.cell (i:=0) rfl:X2.cell? ⟨w.heap.size+2,0,none⟩=some (.int .i64 tx));have t1:=Low.fact (g5.cell (i:=1) rfl:X2.cell? ⟨w.heap.size+2,1,none⟩=some (.int .i64 ty));have p0:=Low.fact f0;have p1:=Low.fact f1;clear g3 g4 g5 hB f0 f1;go_wp2
      (refine Zg (by kernel_rfl) (by kernel_rfl) ?_;(iterate 11 (apply Zf;(case hw=>rfl);(case hval=>(intro w1 hw1;have hcx:=Low.cells hw1;simp only [Oper.quietAt];go_simp;first | done | (first | (go_at_call 184;exact Low.calls hw1 (hbw.out _))) | rfl | exact⟨rfl,rfl⟩));simp only [Act.put,zq5,zr5,zs5]));(iterate 7 (apply Zr;(case hw=>rfl);simp only [Act.put,zq5,zr5,zs5]));(iterate 2 (apply Zf;(case hw=>rfl);(case hval=>(intro w1 hw1;have hcx:=Low.cells hw1;simp only [Oper.quietAt];go_simp;first | done | (first | (go_at_call 184;exact Low.calls hw1 (hbw.out _))) | rfl | exact⟨rfl,rfl⟩));simp only [Act.put,zq5,zr5,zs5]));refine wpQuiet_nil ?_;intro w2 hw2)
      have HN3:=Lib.hid (HN.out.below hw2.out);clear s0 s1 t0 t1 p0 p1 hw2 HN l5;obtain⟨h0,hn,g3,g4,g5,hB,f0,f1⟩:=HN3.out;have HZ:=Lib.hid (And.intro g3 (And.intro g4 (And.intro g5 hB)));clear g3 g4 g5 hB f0 f1;go_wp2;go_roundw
      case rel=>exact⟨k+1,by omega,by go_num,HZ.out.1,HZ.out.2.1,by rw [hst.out];exact HZ.out.2.2.1,HZ.out.2.2.2⟩
      case measure=>simp [intOf];omega
  ·obtain rfl:k=l.length:=by omega
   have dk:decide ((l.length:Int)<(l.length:Int))=false:=by simp
   obtain⟨mx,hmx⟩:∃ mx,(nextTo l ⟨sx,sy⟩ l.length).x=mx:=⟨_,rfl⟩;obtain⟨my,hmy⟩:∃ my,(nextTo l ⟨sx,sy⟩ l.length).y=my:=⟨_,rfl⟩;rw [hmx,hmy] at g5;have HM:=Lib.hid (And.intro hmx hmy);clear hmx hmy;have m0:wr.cell? ⟨w.heap.size+2,0,none⟩=some (.int .i64 mx):=g5.cell (i:=0) rfl;have m1:wr.cell? ⟨w.heap.size+2,1,none⟩=some (.int .i64 my):=g5.cell (i:=1) rfl;have x0:wr.cell? ⟨w.heap.size+1,0,none⟩=some (.int .i64 0):=g4.cell (i:=0) rfl;have x1:wr.cell? ⟨w.heap.size+1,1,none⟩=some (.int .i64 0):=g4.cell (i:=1) rfl;have y0:=Zh g4 0;have y1:=Zh g4 1;have HZ:=(g4.set 0 (.int .i64 mx)).set 1 (.int .i64 my);have z0:((wr.setCell ⟨w.heap.size+1,0,none⟩ (.int .i64 mx)).setCell ⟨w.heap.size+1,1,none⟩ (.int .i64 my)).cell? ⟨w.heap.size+1,0,none⟩=some (.int .i64 mx):=HZ.cell (i:=0) rfl;have z1:((wr.setCell ⟨w.heap.size+1,0,none⟩ (.int .i64 mx)).setCell ⟨w.heap.size+1,1,none⟩ (.int .i64 my)).cell? ⟨w.heap.size+1,1,none⟩=some (.int .i64 my):=HZ.cell (i:=1) rfl;have BB:=Lib.hid ((hB.setCell (p:=⟨w.heap.size+1,0,none⟩) (by simp) (.int .i64 mx)).setCell (p:=⟨w.heap.size+1,1,none⟩) (by simp) (.int .i64 my))
   clear HZ g3 g4 g5 hB;go_wp2;exact bodyPost_ret (v:=.agg #[.int .i64 mx,.int .i64 my]) (by simp [results,Tryz.f155,go_sem,z0,z1]) rfl ⟨by unfold nextP;rw [HM.out.1,HM.out.2],BB.out⟩
theorem Z81 (v : Value) (l : List Pt) (w : World) (hp : Z8 w.heap.size w v l) (h1 : 0 < l.length) :
  Calls Tryz.prog 154 #[v] w fun e w'=>e=.returned (.agg #[.int .i64 (leastP l).x,.int .i64 (leastP l).y])∧Below w.heap.size w w':=by
 obtain⟨hll,a,cap,rfl,hc⟩:=hp;obtain⟨b,o,rfl,hb,hc⟩:=hc.resolve_left (by intro h;rw [h] at h1;simp at h1)
 obtain⟨q0,q1⟩:=hc 0 h1;rw [Nat.zero_mul,Nat.add_zero] at q0 q1;have hA:=(Below.refl w.heap.size w).alloc (Nat.le_refl _) (.cells #[.int .i64 0,.int .i64 0] 58);have e0:=(hA.cell (p:=⟨b,o,none⟩) hb).trans q0;have e1:=(hA.cell (p:=⟨b,o+1,none⟩) hb).trans q1;have HC:=Lib.hid hc;have i0:(0:Int)<l.length:=by omega
 have h4:=(Has.new w #[.int .i64 0,.int .i64 0] 58).below ((Below.refl (w.heap.size+1) _).alloc (by simp) (.cells #[.int .i64 (nth l 0).x,.int .i64 (nth l 0).y] 58)) (by omega)
 have h5:=Has.new (w.alloc (.cells #[.int .i64 0,.int .i64 0] 58)) #[.int .i64 (nth l 0).x,.int .i64 (nth l 0).y] 58;rw [World.size_alloc] at h5;have hB:=hA.alloc hA.size (.cells #[.int .i64 (nth l 0).x,.int .i64 (nth l 0).y] 58);have HS:=Lib.hid (And.intro h4 (And.intro h5 hB));clear hc q0 q1 h4 h5 hB hA;go_enter Tryz.func154,Tryz.ntmps154;go_wp2
 go_loopw [4] (fun i wr=>∃ k:Nat,k<l.length∧i=.int .i64 ((k:Int)+1)∧Has wr w.heap.size #[.int .i64 0,.int .i64 0] 58∧Has wr (w.heap.size+1) #[.int .i64 (leastTo l (k+1)).x,.int .i64 (leastTo l (k+1)).y] 58∧Below w.heap.size w wr) (fun i _=>l.length+1-(intOf i).toNat)
 case atStart=>exact⟨0,h1,rfl,HS.out.1,by rw [show leastTo l (0+1)=nth l 0 from ite_self _];exact HS.out.2.1,HS.out.2.2⟩
 case round =>
  obtain⟨k,hk,rfl,g4,g5,hB⟩:=hrel;have hzB:=hB.size;have l5:=g5.lt;by_cases hlt:k+1<l.length
  ·obtain⟨q0,q1⟩:=HC.out (k+1) hlt
   have f0:=(hB.cell (p:=⟨b,o+(k+1)*2,none⟩) hb).trans q0;have f1:=(hB.cell (p:=⟨b,o+(k+1)*2+1,none⟩) hb).trans q1;have hst:Hid (leastTo l (k+1+1)=if LexLt (nth l (k+1)) (leastTo l (k+1)) then nth l (k+1) else leastTo l (k+1)):=rfl
   obtain⟨⟨mx,my⟩,hm⟩:∃ t,leastTo l (k+1)=t:=⟨_,rfl⟩;obtain⟨⟨px,py⟩,hpx⟩:∃ t,nth l (k+1)=t:=⟨_,rfl⟩;rw [hm] at g5 hst;rw [hpx] at f0 f1 hst;simp only at g5 f0 f1;clear hm hpx q0 q1;have dk:decide ((k:Int)+1<(l.length:Int))=true:=by simp;omega
   have kl:(k:Int)+1<l.length:=by omega
   have k0:(0:Int)≤(k:Int)+1:=by omega
   have kn:((k:Int)+1).toNat=k+1:=by omega
   have HG:=Lib.hid (And.intro g4 (And.intro g5 hB));have m0:=Low.fact (g5.cell (i:=0) rfl:wr.cell? ⟨w.heap.size+1,0,none⟩=some (.int .i64 mx));have m1:=Low.fact (g5.cell (i:=1) rfl:wr.cell? ⟨w.heap.size+1,1,none⟩=some (.int .i64 my));have p0:=Low.fact f0;have p1:=Low.fact f1;clear g4 g5 hB;have hcm:=Lib.hid (fun w1=>Z3c px py mx my w1)
   obtain⟨bb,hbb⟩:∃ bb,lessB px py mx my=bb:=⟨_,rfl⟩;have hbi:=Z9f (ax:=px) (ay:=py) (bx:=mx) (by':=my)
   rw [hbb] at hcm hbi;clear hbb;cases bb
   ·rw [if_neg (fun h=>by have:=hbi.2 h;cases this)] at hst
    clear hbi;go_wp2
    (refine Zg (by kernel_rfl) (by kernel_rfl) ?_;(iterate 6 (apply Zf;(case hw=>rfl);(case hval=>(intro w1 hw1;have hcx:=Low.cells hw1;simp only [Oper.quietAt];go_simp;first | done | (first | (go_at_call 58;exact Low.calls hw1 (hcm.out _))) | rfl | exact⟨rfl,rfl⟩));simp only [Act.put,zq5,zr5,zs5]));refine wpQuiet_nil ?_;intro w2 hw2)
    obtain⟨g4,g5,hB⟩:=HG.out;have HZ:=Lib.hid (And.intro (g4.below hw2.out (by omega)) (And.intro (g5.below hw2.out (by omega)) (hB.trans (hw2.out.mono (by omega)))))
    clear g4 g5 hB hw2 m0 m1 p0 p1 f0 f1;go_wp2;go_roundw
    case rel=>exact⟨k+1,hlt,by go_num,HZ.out.1,by rw [hst.out];exact HZ.out.2.1,HZ.out.2.2⟩
    case measure=>simp [intOf];omega
   ·rw [if_pos (hbi.1 rfl)] at hst
    clear hbi;go_wp2
    (refine Zg (by kernel_rfl) (by kernel_rfl) ?_;(iterate 6 (apply Zf;(case hw=>rfl);(case hval=>(intro w1 hw1;have hcx:=Low.cells hw1;simp only [Oper.quietAt];go_simp;first | done | (first | (go_at_call 58;exact Low.calls hw1 (hcm.out _))) | rfl | exact⟨rfl,rfl⟩));simp only [Act.put,zq5,zr5,zs5]));refine wpQuiet_nil ?_;intro w2 hw2)
    obtain⟨g4,g5,hB⟩:=HG.out;have G4:=g4.below hw2.out (by omega)
    have G5:=g5.below hw2.out (by omega)
    have B2:=hB.trans (hw2.out.mono (by omega))
    have x0:w2.cell? ⟨w.heap.size+1,0,none⟩=some (.int .i64 mx):=G5.cell (i:=0) rfl;have x1:w2.cell? ⟨w.heap.size+1,1,none⟩=some (.int .i64 my):=G5.cell (i:=1) rfl;have y0:=Zh G5 0;have y1:=Zh G5 1;have r0:=(hw2.out.cell (p:=⟨b,o+(k+1)*2,none⟩) (by show b<wr.heap.size;omega)).trans f0
    have r1:=(hw2.out.cell (p:=⟨b,o+(k+1)*2+1,none⟩) (by show b<wr.heap.size;omega)).trans f1
    have HZ:=Lib.hid (And.intro (((G4.other ⟨w.heap.size+1,0,none⟩ (.int .i64 px) (by simp)).other ⟨w.heap.size+1,1,none⟩ (.int .i64 py) (by simp))) (And.intro ((G5.set 0 (.int .i64 px)).set 1 (.int .i64 py)) ((B2.setCell (p:=⟨w.heap.size+1,0,none⟩) (by simp) (.int .i64 px)).setCell (p:=⟨w.heap.size+1,1,none⟩) (by simp) (.int .i64 py))))
    clear G4 G5 B2 g4 g5 hB hw2 m0 m1 p0 p1 f0 f1;go_wp2;go_roundw
    case rel=>exact⟨k+1,hlt,by go_num,HZ.out.1,by rw [hst.out];exact HZ.out.2.1,HZ.out.2.2⟩
    case measure=>simp [intOf];omega
  ·obtain rfl:k=l.length-1:=by omega
   have dk:decide (((l.length-1:Nat):Int)+1<(l.length:Int))=false:=by simp;omega
   have hle:leastTo l (l.length-1+1)=leastP l:=by unfold leastP;congr 1;omega
   rw [hle] at g5;obtain⟨mx,hmx⟩:∃ mx,(leastP l).x=mx:=⟨_,rfl⟩;obtain⟨my,hmy⟩:∃ my,(leastP l).y=my:=⟨_,rfl⟩;rw [hmx,hmy] at g5;have HM:=Lib.hid (And.intro hmx hmy);clear hmx hmy hle;have m0:wr.cell? ⟨w.heap.size+1,0,none⟩=some (.int .i64 mx):=g5.cell (i:=0) rfl;have m1:wr.cell? ⟨w.heap.size+1,1,none⟩=some (.int .i64 my):=g5.cell (i:=1) rfl;have x0:wr.cell? ⟨w.heap.size,0,none⟩=some (.int .i64 0):=g4.cell (i:=0) rfl;have x1:wr.cell? ⟨w.heap.size,1,none⟩=some (.int .i64 0):=g4.cell (i:=1) rfl;have y0:=Zh g4 0;have y1:=Zh g4 1;have HZ:=(g4.set 0 (.int .i64 mx)).set 1 (.int .i64 my);have z0:((wr.setCell ⟨w.heap.size,0,none⟩ (.int .i64 mx)).setCell ⟨w.heap.size,1,none⟩ (.int .i64 my)).cell? ⟨w.heap.size,0,none⟩=some (.int .i64 mx):=HZ.cell (i:=0) rfl;have z1:((wr.setCell ⟨w.heap.size,0,none⟩ (.int .i64 mx)).setCell ⟨w.heap.size,1,none⟩ (.int .i64 my)).cell? ⟨w.heap.size,1,none⟩=some (.int .i64 my):=HZ.cell (i:=1) rfl;have BB:=Lib.hid ((hB.setCell (p:=⟨w.heap.size,0,none⟩) (by simp) (.int .i64 mx)).setCell (p:=⟨w.heap.size,1,none⟩) (by simp) (.int .i64 my))
   clear HZ g4 g5 hB;go_wp2;exact bodyPost_ret (v:=.agg #[.int .i64 mx,.int .i64 my]) (by simp [results,Tryz.f154,go_sem,z0,z1]) rfl ⟨by rw [HM.out.1,HM.out.2],BB.out⟩
end
end Go.Proofs.YtpimbaaahcemhaaGreat
