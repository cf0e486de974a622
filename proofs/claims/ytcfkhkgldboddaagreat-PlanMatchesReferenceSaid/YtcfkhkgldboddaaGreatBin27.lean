/- landfallref04's frame. (Printed by tools/mkrframe.py.) -/
import Derived.Test.YtcfkhkgldboddaaGreatBin19
namespace Go.Proofs.YtcfkhkgldboddaaGreat
open Go.RowKit
attribute [local irreducible] wpQuiet
def frameR (a b:Pt) (s t:Int):List Pt:=[⟨frLo a.x b.x s t,frLo a.y b.y s t⟩,⟨frHi a.x b.x s t,frLo a.y b.y s t⟩,⟨frLo a.x b.x s t,frHi a.y b.y s t⟩,⟨frHi a.x b.x s t,frHi a.y b.y s t⟩]
theorem Z7B {a b x:Pt} {s t:Int}:x ∈ frameR a b s t↔x ∈ frameP a b s t:=by
 simp only [frameR,frameP,List.mem_cons,List.not_mem_nil,or_false];constructor <;> rintro (h | h | h | h) <;> simp [h]
theorem Z6Q (W:World) (a b c d e f g h:Int):∀ j u,([.int .i64 a,.int .i64 b,.int .i64 c,.int .i64 d,.int .i64 e,.int .i64 f,.int .i64 g,.int .i64 h]:List Value)[j]?=some u→(W.alloc (.cells #[.int .i64 a,.int .i64 b,.int .i64 c,.int .i64 d,.int .i64 e,.int .i64 f,.int .i64 g,.int .i64 h] 41)).cell? ⟨W.heap.size,j,none⟩=some u:=by
 intro j u hu;exact (Has.new W #[.int .i64 a,.int .i64 b,.int .i64 c,.int .i64 d,.int .i64 e,.int .i64 f,.int .i64 g,.int .i64 h] 41).cell (i:=j) (by simpa using hu)
theorem Zby (v u s t:Int):((v-u)*-s).fdiv (-(s-t))=((v-u)*s).fdiv (s-t):=by rw [Int.mul_neg,Int.neg_fdiv_neg]
theorem ZaA (v u s t:Int) (hne:¬ s-t=0):cdiv ((v-u)*-s) (-(s-t))=-((-((v-u)*s)).fdiv (s-t)):=by
 rw [← Z2T _ _ (by omega),Int.mul_neg,Int.neg_fdiv_neg]
set_option linter.unusedSimpArgs false in
set_option maxRecDepth 8000 in
set_option maxHeartbeats 4000000 in
theorem Z7q (a b:Pt) (s t:Int) (w:World) (pa:Z4 a=true) (pb:Z4 b=true) (s1:-2000000000000≤s) (s2:s≤2000000000000) (t1:-2000000000000≤t) (t2:t≤2000000000000) (hne:¬ s-t=0) :
  Calls Tryz.prog 207 #[.agg #[.int .i64 a.x,.int .i64 a.y],.agg #[.int .i64 b.x,.int .i64 b.y],.int .i64 s,.int .i64 t] w (PtsQ (frameR a b s t) w):=by
 obtain⟨ax,ay⟩:=a;obtain⟨bx,by'⟩:=b
 obtain⟨a1,a2,a3,a4⟩:=Zi pa;obtain⟨b1,b2,b3,b4⟩:=Zi pb;simp only at a1 a2 a3 a4 b1 b2 b3 b4;have n0:=(Has.new w #[.int .i64 ax,.int .i64 ay] 41).below ((Below.refl (w.heap.size+1) _).alloc (by simp) (.cells #[.int .i64 bx,.int .i64 by'] 41)) (by omega)
 have n1:=Has.new (w.alloc (.cells #[.int .i64 ax,.int .i64 ay] 41)) #[.int .i64 bx,.int .i64 by'] 41
 rw [World.size_alloc] at n1;have hA:=((Below.refl w.heap.size w).alloc (Nat.le_refl _) (.cells #[.int .i64 ax,.int .i64 ay] 41)).alloc (by simp) (.cells #[.int .i64 bx,.int .i64 by'] 41)
 have px:=ZC (a:=bx-ax) (b:=s) (m:=1000000) (n:=2000000000000) (by omega) (by omega) (by omega) (by omega)
 have py:=ZC (a:=by'-ay) (b:=s) (m:=1000000) (n:=2000000000000) (by omega) (by omega) (by omega) (by omega)
 have nx:(bx-ax)*-s=-((bx-ax)*s):=Int.mul_neg _ _;have ny:(by'-ay)*-s=-((by'-ay)*s):=Int.mul_neg _ _
 have qx1:=Z1F ((bx-ax)*s) (s-t) (by omega) (by omega) hne
 have qx2:=Z1F (-((bx-ax)*s)) (s-t) (by omega) (by omega) hne
 have qy1:=Z1F ((by'-ay)*s) (s-t) (by omega) (by omega) hne
 have qy2:=Z1F (-((by'-ay)*s)) (s-t) (by omega) (by omega) hne
 have m0:IntKind.i64.wrap (s-t)=s-t:=zW2;have m3:IntKind.i64.wrap (ax+((bx-ax)*s).fdiv (s-t))=frLo ax bx s t:=zW2;have m4:IntKind.i64.wrap (ax+-((-((bx-ax)*s)).fdiv (s-t)))=frHi ax bx s t:=zW2;have m5:IntKind.i64.wrap (ay+((by'-ay)*s).fdiv (s-t))=frLo ay by' s t:=zW2
 have m6:IntKind.i64.wrap (ay+-((-((by'-ay)*s)).fdiv (s-t)))=frHi ay by' s t:=zW2
 have m7:IntKind.i64.wrap (bx-ax)=bx-ax:=zW2;have m8:IntKind.i64.wrap (by'-ay)=by'-ay:=zW2
 unfold frameR;simp only;rcases (show s-t<0∨0<s-t by omega) with hd | hd
 ·have d1:decide (s-t<0)=true:=by simp;omega
  have w1:IntKind.i64.wrap (-s)=-s:=zW2;have w2:IntKind.i64.wrap (-(s-t))=-(s-t):=zW2;have m1:IntKind.i64.wrap ((bx-ax)*-s)=(bx-ax)*-s:=zW2;have m2:IntKind.i64.wrap ((by'-ay)*-s)=(by'-ay)*-s:=zW2
  have f0:=fun w1=>Z3m ((bx-ax)*-s) (-(s-t)) w1 (by omega) (by omega) (by omega) (by omega) (by omega)
  have f1:=fun w1=>Z6y ((bx-ax)*-s) (-(s-t)) w1 (by omega) (by omega) (by omega) (by omega) (by omega)
  have f2:=fun w1=>Z3m ((by'-ay)*-s) (-(s-t)) w1 (by omega) (by omega) (by omega) (by omega) (by omega)
  have f3:=fun w1=>Z6y ((by'-ay)*-s) (-(s-t)) w1 (by omega) (by omega) (by omega) (by omega) (by omega)
  rw [Zby] at f0 f2;rw [ZaA _ _ _ _ hne] at f1 f3;have HF:=Lib.hid (And.intro f0 (And.intro f1 (And.intro f2 f3)));clear f0 f1 f2 f3 px py nx ny qx1 qx2 qy1 qy2 a1 a2 a3 a4 b1 b2 b3 b4 pa pb s1 s2 t1 t2 hd;generalize ((bx-ax)*s).fdiv (s-t)=q0 at *;generalize -((-((bx-ax)*s)).fdiv (s-t))=q1 at *;generalize ((by'-ay)*s).fdiv (s-t)=q2 at *
  generalize -((-((by'-ay)*s)).fdiv (s-t))=q3 at *
  generalize frLo ax bx s t=xl at *;generalize frHi ax bx s t=xh at *;generalize frLo ay by' s t=yl at *
  generalize frHi ay by' s t=yh at *
  go_enter Tryz.func207,Tryz.ntmps207;obtain⟨W1,hW1⟩:∃ W1,((w.alloc (.cells #[.int .i64 ax,.int .i64 ay] 41)).alloc (.cells #[.int .i64 bx,.int .i64 by'] 41))=W1:=⟨_,rfl⟩
  rw [hW1] at n0 n1 hA;have HW:=Lib.hid hW1;have HA:=Lib.hid hA;have HN:=Lib.hid (And.intro n0 n1);clear hW1 hA n0 n1;go_upto_region 6 with fail
  rw [HW.out];have c0:=Low.fact (HN.out.1.cell (i:=0) rfl:W1.cell? ⟨w.heap.size,0,none⟩=some (.int .i64 ax));have c1:=Low.fact (HN.out.2.cell (i:=0) rfl:W1.cell? ⟨w.heap.size+1,0,none⟩=some (.int .i64 bx))
  (refine Ze (by kernel_rfl) (by kernel_rfl) ?_;(iterate 13 (apply Zd;(case hw=>rfl);(case hval=>(intro w1 hw1;have hcx:=Low.cells hw1;simp only [Oper.quietAt];go_simp;first | done | (first | (go_at_call 147;with_reducible exact Low.calls_same hw1 (HF.out.1 _))) | rfl | exact⟨rfl,rfl⟩));simp only [Act.put,zq4,zr4,zs4]));refine wpQuiet_nil ?_;intro w2 hw2)
  have HN':=Lib.hid (And.intro (HN.out.1.below hw2.out (by have:=HN.out.2.lt;omega)) (HN.out.2.below hw2.out HN.out.2.lt))
  have HA':=Lib.hid (HA.out.trans (hw2.out.mono HA.out.size));clear HN HA hw2 c0 c1;have HN:=HN';have HA:=HA';clear HN' HA';generalize w2=X1 at HN HA ⊢;have c0:=Low.fact (HN.out.1.cell (i:=0) rfl:X1.cell? ⟨w.heap.size,0,none⟩=some (.int .i64 ax));have c1:=Low.fact (HN.out.2.cell (i:=0) rfl:X1.cell? ⟨w.heap.size+1,0,none⟩=some (.int .i64 bx));go_wp2
  (refine Ze (by kernel_rfl) (by kernel_rfl) ?_;(iterate 13 (apply Zd;(case hw=>rfl);(case hval=>(intro w1 hw1;have hcx:=Low.cells hw1;simp only [Oper.quietAt];go_simp;first | done | (first | (go_at_call 117;with_reducible exact Low.calls_same hw1 (HF.out.2.1 _))) | rfl | exact⟨rfl,rfl⟩));simp only [Act.put,zq4,zr4,zs4]));refine wpQuiet_nil ?_;intro w2 hw2)
  have HN':=Lib.hid (And.intro (HN.out.1.below hw2.out (by have:=HN.out.2.lt;omega)) (HN.out.2.below hw2.out HN.out.2.lt))
  have HA':=Lib.hid (HA.out.trans (hw2.out.mono HA.out.size));clear HN HA hw2 c0 c1;have HN:=HN';have HA:=HA';clear HN' HA';generalize w2=X2 at HN HA ⊢;have c0:=Low.fact (HN.out.1.cell (i:=1) rfl:X2.cell? ⟨w.heap.size,1,none⟩=some (.int .i64 ay));have c1:=Low.fact (HN.out.2.cell (i:=1) rfl:X2.cell? ⟨w.heap.size+1,1,none⟩=some (.int .i64 by'))
  go_wp2
  (refine Ze (by kernel_rfl) (by kernel_rfl) ?_;(iterate 13 (apply Zd;(case hw=>rfl);(case hval=>(intro w1 hw1;have hcx:=Low.cells hw1;simp only [Oper.quietAt];go_simp;first | done | (first | (go_at_call 147;with_reducible exact Low.calls_same hw1 (HF.out.2.2.1 _))) | rfl | exact⟨rfl,rfl⟩));simp only [Act.put,zq4,zr4,zs4]));refine wpQuiet_nil ?_;intro w2 hw2)
  have HN':=Lib.hid (And.intro (HN.out.1.below hw2.out (by have:=HN.out.2.lt;omega)) (HN.out.2.below hw2.out HN.out.2.lt))
  have HA':=Lib.hid (HA.out.trans (hw2.out.mono HA.out.size));clear HN HA hw2 c0 c1;have HN:=HN';have HA:=HA';clear HN' HA';generalize w2=X3 at HN HA ⊢;have c0:=Low.fact (HN.out.1.cell (i:=1) rfl:X3.cell? ⟨w.heap.size,1,none⟩=some (.int .i64 ay));have c1:=Low.fact (HN.out.2.cell (i:=1) rfl:X3.cell? ⟨w.heap.size+1,1,none⟩=some (.int .i64 by'))
  go_wp2
  (refine Ze (by kernel_rfl) (by kernel_rfl) ?_;(iterate 13 (apply Zd;(case hw=>rfl);(case hval=>(intro w1 hw1;have hcx:=Low.cells hw1;simp only [Oper.quietAt];go_simp;first | done | (first | (go_at_call 117;with_reducible exact Low.calls_same hw1 (HF.out.2.2.2 _))) | rfl | exact⟨rfl,rfl⟩));simp only [Act.put,zq4,zr4,zs4]));refine wpQuiet_nil ?_;intro w2 hw2)
  have HN':=Lib.hid (And.intro (HN.out.1.below hw2.out (by have:=HN.out.2.lt;omega)) (HN.out.2.below hw2.out HN.out.2.lt))
  have HA':=Lib.hid (HA.out.trans (hw2.out.mono HA.out.size));clear HN HA hw2 c0 c1;have HN:=HN';have HA:=HA';clear HN' HA';generalize w2=X4 at HN HA ⊢;go_wp2;go_ret;refine⟨_,rfl,⟨by simp,some ⟨X4.heap.size,0,none⟩,0,rfl,.inr ⟨_,0,rfl,by simp,fun j hj=>?_⟩⟩,HA.out.alloc HA.out.size _⟩
  have h8:=Z6Q X4 xl yl xh yl xl yh xh yh;simp only [List.length_cons,List.length_nil] at hj;rcases (show j=0∨j=1∨j=2∨j=3 by omega) with rfl | rfl | rfl | rfl
  ·exact⟨h8 0 _ rfl,h8 1 _ rfl⟩
  ·exact⟨h8 2 _ rfl,h8 3 _ rfl⟩
  ·exact⟨h8 4 _ rfl,h8 5 _ rfl⟩
  ·exact⟨h8 6 _ rfl,h8 7 _ rfl⟩
 ·have d1:decide (s-t<0)=false:=by simp;omega
  have m1:IntKind.i64.wrap ((bx-ax)*s)=(bx-ax)*s:=zW2;have m2:IntKind.i64.wrap ((by'-ay)*s)=(by'-ay)*s:=zW2
  have f0:=fun w1=>Z3m ((bx-ax)*s) ((s-t)) w1 (by omega) (by omega) (by omega) (by omega) (by omega)
  have f1:=fun w1=>Z6y ((bx-ax)*s) ((s-t)) w1 (by omega) (by omega) (by omega) (by omega) (by omega)
  have f2:=fun w1=>Z3m ((by'-ay)*s) ((s-t)) w1 (by omega) (by omega) (by omega) (by omega) (by omega)
  have f3:=fun w1=>Z6y ((by'-ay)*s) ((s-t)) w1 (by omega) (by omega) (by omega) (by omega) (by omega)
  rw [← Z2T _ _ hne] at f1 f3;have HF:=Lib.hid (And.intro f0 (And.intro f1 (And.intro f2 f3)));clear f0 f1 f2 f3 px py nx ny qx1 qx2 qy1 qy2 a1 a2 a3 a4 b1 b2 b3 b4 pa pb s1 s2 t1 t2 hd;generalize ((bx-ax)*s).fdiv (s-t)=q0 at *;generalize -((-((bx-ax)*s)).fdiv (s-t))=q1 at *;generalize ((by'-ay)*s).fdiv (s-t)=q2 at *
  generalize -((-((by'-ay)*s)).fdiv (s-t))=q3 at *
  generalize frLo ax bx s t=xl at *;generalize frHi ax bx s t=xh at *;generalize frLo ay by' s t=yl at *
  generalize frHi ay by' s t=yh at *
  go_enter Tryz.func207,Tryz.ntmps207;obtain⟨W1,hW1⟩:∃ W1,((w.alloc (.cells #[.int .i64 ax,.int .i64 ay] 41)).alloc (.cells #[.int .i64 bx,.int .i64 by'] 41))=W1:=⟨_,rfl⟩
  rw [hW1] at n0 n1 hA;have HW:=Lib.hid hW1;have HA:=Lib.hid hA;have HN:=Lib.hid (And.intro n0 n1);clear hW1 hA n0 n1;go_upto_region 6 with fail
  rw [HW.out];have c0:=Low.fact (HN.out.1.cell (i:=0) rfl:W1.cell? ⟨w.heap.size,0,none⟩=some (.int .i64 ax));have c1:=Low.fact (HN.out.2.cell (i:=0) rfl:W1.cell? ⟨w.heap.size+1,0,none⟩=some (.int .i64 bx))
  (refine Ze (by kernel_rfl) (by kernel_rfl) ?_;(iterate 13 (apply Zd;(case hw=>rfl);(case hval=>(intro w1 hw1;have hcx:=Low.cells hw1;simp only [Oper.quietAt];go_simp;first | done | (first | (go_at_call 147;with_reducible exact Low.calls_same hw1 (HF.out.1 _))) | rfl | exact⟨rfl,rfl⟩));simp only [Act.put,zq4,zr4,zs4]));refine wpQuiet_nil ?_;intro w2 hw2)
  have HN':=Lib.hid (And.intro (HN.out.1.below hw2.out (by have:=HN.out.2.lt;omega)) (HN.out.2.below hw2.out HN.out.2.lt))
  have HA':=Lib.hid (HA.out.trans (hw2.out.mono HA.out.size));clear HN HA hw2 c0 c1;have HN:=HN';have HA:=HA';clear HN' HA';generalize w2=X1 at HN HA ⊢;have c0:=Low.fact (HN.out.1.cell (i:=0) rfl:X1.cell? ⟨w.heap.size,0,none⟩=some (.int .i64 ax));have c1:=Low.fact (HN.out.2.cell (i:=0) rfl:X1.cell? ⟨w.heap.size+1,0,none⟩=some (.int .i64 bx));go_wp2
  (refine Ze (by kernel_rfl) (by kernel_rfl) ?_;(iterate 13 (apply Zd;(case hw=>rfl);(case hval=>(intro w1 hw1;have hcx:=Low.cells hw1;simp only [Oper.quietAt];go_simp;first | done | (first | (go_at_call 117;with_reducible exact Low.calls_same hw1 (HF.out.2.1 _))) | rfl | exact⟨rfl,rfl⟩));simp only [Act.put,zq4,zr4,zs4]));refine wpQuiet_nil ?_;intro w2 hw2)
  have HN':=Lib.hid (And.intro (HN.out.1.below hw2.out (by have:=HN.out.2.lt;omega)) (HN.out.2.below hw2.out HN.out.2.lt))
  have HA':=Lib.hid (HA.out.trans (hw2.out.mono HA.out.size));clear HN HA hw2 c0 c1;have HN:=HN';have HA:=HA';clear HN' HA';generalize w2=X2 at HN HA ⊢;have c0:=Low.fact (HN.out.1.cell (i:=1) rfl:X2.cell? ⟨w.heap.size,1,none⟩=some (.int .i64 ay));have c1:=Low.fact (HN.out.2.cell (i:=1) rfl:X2.cell? ⟨w.heap.size+1,1,none⟩=some (.int .i64 by'))
  go_wp2
  (refine Ze (by kernel_rfl) (by kernel_rfl) ?_;(iterate 13 (apply Zd;(case hw=>rfl);(case hval=>(intro w1 hw1;have hcx:=Low.cells hw1;simp only [Oper.quietAt];go_simp;first | done | (first | (go_at_call 147;with_reducible exact Low.calls_same hw1 (HF.out.2.2.1 _))) | rfl | exact⟨rfl,rfl⟩));simp only [Act.put,zq4,zr4,zs4]));refine wpQuiet_nil ?_;intro w2 hw2)
  have HN':=Lib.hid (And.intro (HN.out.1.below hw2.out (by have:=HN.out.2.lt;omega)) (HN.out.2.below hw2.out HN.out.2.lt))
  have HA':=Lib.hid (HA.out.trans (hw2.out.mono HA.out.size));clear HN HA hw2 c0 c1;have HN:=HN';have HA:=HA';clear HN' HA';generalize w2=X3 at HN HA ⊢;have c0:=Low.fact (HN.out.1.cell (i:=1) rfl:X3.cell? ⟨w.heap.size,1,none⟩=some (.int .i64 ay));have c1:=Low.fact (HN.out.2.cell (i:=1) rfl:X3.cell? ⟨w.heap.size+1,1,none⟩=some (.int .i64 by'))
  go_wp2
  (refine Ze (by kernel_rfl) (by kernel_rfl) ?_;(iterate 13 (apply Zd;(case hw=>rfl);(case hval=>(intro w1 hw1;have hcx:=Low.cells hw1;simp only [Oper.quietAt];go_simp;first | done | (first | (go_at_call 117;with_reducible exact Low.calls_same hw1 (HF.out.2.2.2 _))) | rfl | exact⟨rfl,rfl⟩));simp only [Act.put,zq4,zr4,zs4]));refine wpQuiet_nil ?_;intro w2 hw2)
  have HN':=Lib.hid (And.intro (HN.out.1.below hw2.out (by have:=HN.out.2.lt;omega)) (HN.out.2.below hw2.out HN.out.2.lt))
  have HA':=Lib.hid (HA.out.trans (hw2.out.mono HA.out.size));clear HN HA hw2 c0 c1;have HN:=HN';have HA:=HA';clear HN' HA';generalize w2=X4 at HN HA ⊢;go_wp2;go_ret;refine⟨_,rfl,⟨by simp,some ⟨X4.heap.size,0,none⟩,0,rfl,.inr ⟨_,0,rfl,by simp,fun j hj=>?_⟩⟩,HA.out.alloc HA.out.size _⟩
  have h8:=Z6Q X4 xl yl xh yl xl yh xh yh;simp only [List.length_cons,List.length_nil] at hj;rcases (show j=0∨j=1∨j=2∨j=3 by omega) with rfl | rfl | rfl | rfl
  ·exact⟨h8 0 _ rfl,h8 1 _ rfl⟩
  ·exact⟨h8 2 _ rfl,h8 3 _ rfl⟩
  ·exact⟨h8 4 _ rfl,h8 5 _ rfl⟩
  ·exact⟨h8 6 _ rfl,h8 7 _ rfl⟩
end Go.Proofs.YtcfkhkgldboddaaGreat
