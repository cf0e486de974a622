/- package cut: frame. | package cut: crossings. | A drawn region: an operation that its guard passes over, taken first. | A drawn region: an operatio .. -/
import Derived.Deep.CutRange
import Derived.Test.YtdolkgihppgpcaaGreatBin14
import Derived.Test.YtdolkgihppgpcaaGreatBin16
set_option linter.unusedSimpArgs false
set_option maxRecDepth 8000
set_option maxHeartbeats 4000000
namespace Go.Proofs.YtdolkgihppgpcaaGreat
section
attribute [local irreducible] wpQuiet
open Go.RowKit
def frLo (u v s t:Int):Int:=u+((v-u)*s).fdiv (s-t)
def frHi (u v s t:Int):Int:=u-(-((v-u)*s)).fdiv (s-t)
theorem Z3k (Bs Bt:Nat) (u v s t:Int) (w:World) (hs:w.cell? ⟨Bs,0,none⟩=some (.int .i64 s)) (ht:w.cell? ⟨Bt,0,none⟩=some (.int .i64 t))
  (u1:-500000≤u) (u2:u≤500000) (v1:-500000≤v) (v2:v≤500000) (s1:-2000000000000≤s) (s2:s≤2000000000000) (t1:-2000000000000≤t) (t2:t≤2000000000000) (hne:¬ s-t=0) :
  Calls Tryz.prog 170 #[.int .i64 u,.int .i64 v,.pointer (some ⟨Bs,0,none⟩),.pointer (some ⟨Bt,0,none⟩)] w fun e w'=>e=.returned (.agg #[.int .i64 (frLo u v s t),.int .i64 (frHi u v s t)])∧Below w.heap.size w w':=by
 have pb:=Z00 (a:=v-u) (b:=s) (m:=1000000) (n:=2000000000000) (by omega) (by omega) (by omega) (by omega)
 have f1:=fun w1=>Z3p ((v-u)*s) (s-t) w1 (by omega) (by omega) (by omega) (by omega) hne
 have f2:=fun w1=>Z3p (-((v-u)*s)) (s-t) w1 (by omega) (by omega) (by omega) (by omega) hne
 have b1:=Z83 ((v-u)*s) (s-t) (by omega) (by omega) hne
 have b2:=Z83 (-((v-u)*s)) (s-t) (by omega) (by omega) hne
 have m1:IntKind.i64.wrap ((v-u)*s)=(v-u)*s:=zW2;have m2:IntKind.i64.wrap (-((v-u)*s))=-((v-u)*s):=zW2;have m3:IntKind.i64.wrap (v-u)=v-u:=zW2;have m4:IntKind.i64.wrap (s-t)=s-t:=zW2;have m5:IntKind.i64.wrap (u+((v-u)*s).fdiv (s-t))=frLo u v s t:=zW2;have m6:IntKind.i64.wrap (u-(-((v-u)*s)).fdiv (s-t))=frHi u v s t:=zW2;have hbs:=World.block_lt_of_cell? w _ hs;have hbt:=World.block_lt_of_cell? w _ ht;have hN:=Has.new w #[.int .i64 0,.int .i64 0] 214;have hA:=(Below.refl w.heap.size w).alloc (Nat.le_refl _) (.cells #[.int .i64 0,.int .i64 0] 214);have c0:=(hA.cell (p:=⟨Bs,0,none⟩) hbs).trans hs;have c1:=(hA.cell (p:=⟨Bt,0,none⟩) hbt).trans ht;have l0:=Low.fact c0;have l1:=Low.fact c1;have hF:=Lib.hid (And.intro f1 f2);have HN:=Lib.hid hN;have HA:=Lib.hid hA;clear f1 f2 pb b1 b2 hN hs ht;generalize frLo u v s t=lo at *;generalize frHi u v s t=hi at *;generalize ((v-u)*s).fdiv (s-t)=q1 at *;generalize (-((v-u)*s)).fdiv (s-t)=q2 at *;go_enter Tryz.func170,Tryz.ntmps170;go_wp2;obtain⟨W1,hW1⟩:∃ W1,w.alloc (.cells #[.int .i64 0,.int .i64 0] 214)=W1:=⟨_,rfl⟩;rw [hW1] at l0 l1 c0 c1 HN HA ⊢;have hlt:=HN.out.lt;clear hW1 hA
 (refine (wpIn_wide (n:=9)).1 ?_;refine Zl (Zj _) 16 (by kernel_rfl) (by kernel_rfl) (by kernel_rfl) ?_;simp only [List.take_succ_cons,List.take_zero,List.drop_succ_cons,List.drop_zero];(iterate 16 (apply Zf;(case hw=>rfl);(case hval=>(intro w1 hw1;have hcx:=Low.cells hw1;simp only [Oper.quietAt];go_simp;first | done | (first | (go_at_call 171;with_reducible exact Low.calls_same hw1 (hF.out.1 _)) | (go_at_call 171;with_reducible exact Low.calls_same hw1 (hF.out.2 _))) | rfl | exact⟨rfl,rfl⟩));simp only [Act.put,zq4,zr4,zs4]));refine wpQuiet_nil ?_;intro w2 hw2)
 have h2:=HN.out.below hw2.out hlt;have B2:=HA.out.trans (hw2.out.mono HA.out.size);refine Z1U rfl rfl (g:=w.heap.size) (cells:=#[.int .i64 lo,.int .i64 hi]) rfl rfl h2 (by kernel_rfl) rfl (by kernel_rfl) ?_
 have h3:=Has.put (cells:=#[.int .i64 lo,.int .i64 hi]) h2;have B3:=Below.setRow B2 (C:=w.heap.size) (Nat.le_refl _) #[.int .i64 lo,.int .i64 hi];have z0:(w2.setRow w.heap.size #[.int .i64 lo,.int .i64 hi]).cell? ⟨w.heap.size,0,none⟩=some (.int .i64 lo):=h3.cell (i:=0) rfl;have z1:(w2.setRow w.heap.size #[.int .i64 lo,.int .i64 hi]).cell? ⟨w.heap.size,1,none⟩=some (.int .i64 hi):=h3.cell (i:=1) rfl;clear hw2 h2 h3 B2 l0 l1 c0 c1;gi_wp2;go_wp2;exact bodyPost_ret (v:=.agg #[.int .i64 lo,.int .i64 hi]) (by simp [results,Tryz.f170,go_sem,z0,z1]) rfl ⟨rfl,B3⟩
def frameP (a b:Pt) (s t:Int):List Pt:=[⟨frLo a.x b.x s t,frLo a.y b.y s t⟩,⟨frLo a.x b.x s t,frHi a.y b.y s t⟩,⟨frHi a.x b.x s t,frLo a.y b.y s t⟩,⟨frHi a.x b.x s t,frHi a.y b.y s t⟩]
theorem Z4s (x y:Int) (W:World):Sem.run Tryz.prog (Instr.index 214 (.agg #[.int .i64 x,.int .i64 y]) (.int .i64 0)) W=.ok (.int .i64 x) W∧Sem.run Tryz.prog (Instr.index 214 (.agg #[.int .i64 x,.int .i64 y]) (.int .i64 1)) W=.ok (.int .i64 y) W:=by
 constructor <;> kernel_rfl
theorem Z1Z (W:World) (x y:Int):∀ j u,([.int .i64 x,.int .i64 y]:List Value)[j]?=some u→(W.alloc (.cells #[.int .i64 x,.int .i64 y] 31)).cell? ((⟨W.heap.size,0,none⟩:Addr).add j)=some u:=by
 have h:=Has.new W #[.int .i64 x,.int .i64 y] 31;exact Z5P (l:=[⟨x,y⟩]) (fun j hj=>by
  obtain rfl:j=0:=by simpa using hj
  exact⟨h.cell (i:=0) rfl,h.cell (i:=1) rfl⟩)
theorem Z7Z (a b : Pt) (s t : Int) (w : World) (pa : Z4 a = true) (pb : Z4 b = true) (s1 : -2000000000000 ≤ s) (s2 : s ≤ 2000000000000) (t1 : -2000000000000 ≤ t) (t2 : t ≤ 2000000000000) (hne : ¬ s-t = 0) :
  Calls Tryz.prog 163 #[.agg #[.int .i64 a.x,.int .i64 a.y],.agg #[.int .i64 b.x,.int .i64 b.y],.int .i64 s,.int .i64 t] w (PtsQ (frameP a b s t) w):=by
 obtain⟨a1,a2,a3,a4⟩:=Zu pa;obtain⟨b1,b2,b3,b4⟩:=Zu pb;have hA:=((((Below.refl w.heap.size w).alloc (Nat.le_refl _) (.cells #[.int .i64 a.x,.int .i64 a.y] 31)).alloc (by simp) (.cells #[.int .i64 b.x,.int .i64 b.y] 31)).alloc (by simp;omega) (.cells #[.int .i64 s] 3)).alloc (by simp;omega) (.cells #[.int .i64 t] 3)
 have f1:=fun w1 c0 c1=>Z3k (w.heap.size+1+1) (w.heap.size+1+1+1) a.x b.x s t w1 c0 c1 a1 a2 b1 b2 s1 s2 t1 t2 hne
 have f2:=fun w1 c0 c1=>Z3k (w.heap.size+1+1) (w.heap.size+1+1+1) a.y b.y s t w1 c0 c1 a3 a4 b3 b4 s1 s2 t1 t2 hne
 have HF:=Lib.hid (And.intro f1 f2);have h0:=((Has.new w #[.int .i64 a.x,.int .i64 a.y] 31).below ((((Below.refl (w.heap.size+1) _).alloc (by simp) (.cells #[.int .i64 b.x,.int .i64 b.y] 31)).alloc (by simp) (.cells #[.int .i64 s] 3)).alloc (by simp) (.cells #[.int .i64 t] 3)) (by omega))
 have h1:=((Has.new (w.alloc (.cells #[.int .i64 a.x,.int .i64 a.y] 31)) #[.int .i64 b.x,.int .i64 b.y] 31).below (((Below.refl (w.heap.size+2) _).alloc (by simp) (.cells #[.int .i64 s] 3)).alloc (by simp) (.cells #[.int .i64 t] 3)) (by simp))
 have h2:=((Has.new ((w.alloc (.cells #[.int .i64 a.x,.int .i64 a.y] 31)).alloc (.cells #[.int .i64 b.x,.int .i64 b.y] 31)) #[.int .i64 s] 3).below ((Below.refl (w.heap.size+3) _).alloc (by simp) (.cells #[.int .i64 t] 3)) (by simp))
 have h3:=(Has.new (((w.alloc (.cells #[.int .i64 a.x,.int .i64 a.y] 31)).alloc (.cells #[.int .i64 b.x,.int .i64 b.y] 31)).alloc (.cells #[.int .i64 s] 3)) #[.int .i64 t] 3);simp only [World.size_alloc] at h1 h2 h3;have hsz:((((w.alloc (.cells #[.int .i64 a.x,.int .i64 a.y] 31)).alloc (.cells #[.int .i64 b.x,.int .i64 b.y] 31)).alloc (.cells #[.int .i64 s] 3)).alloc (.cells #[.int .i64 t] 3)).heap.size=w.heap.size+4:=by simp
 obtain⟨i0,hi,hz0',hz1',hz2'⟩:=info_parts ptInfo;unfold frameP;generalize frLo a.x b.x s t=xl at *;generalize frHi a.x b.x s t=xh at *;generalize frLo a.y b.y s t=yl at *;generalize frHi a.y b.y s t=yh at *;clear a1 a2 a3 a4 b1 b2 b3 b4 pa pb f1 f2 s1 s2 t1 t2 hne;generalize a.x=ax at *;generalize a.y=ay at *;generalize b.x=bx at *;generalize b.y=by' at *
 obtain⟨W1,hW1⟩:∃ W1,((((w.alloc (.cells #[.int .i64 ax,.int .i64 ay] 31)).alloc (.cells #[.int .i64 bx,.int .i64 by'] 31)).alloc (.cells #[.int .i64 s] 3)).alloc (.cells #[.int .i64 t] 3))=W1:=⟨_,rfl⟩
 rw [hW1] at hA h0 h1 h2 h3 hsz;have HW:=Lib.hid hW1;have HA:=Lib.hid h0;have HB:=Lib.hid h1;have Hs:=Lib.hid h2;have Ht:=Lib.hid h3;have HAA:=Lib.hid hA;have ix0:=fun x y W=>(Z4s x y W).1
 have ix1:=fun x y W=>(Z4s x y W).2
 clear h0 h1 h2 h3 hW1 hA;go_enter Tryz.func163,Tryz.ntmps163;go_upto_region 3 with fail
 rw [HW.out];have c0:W1.cell? ⟨w.heap.size,0,none⟩=some (.int .i64 ax):=HA.out.cell (i:=0) rfl;have c1:W1.cell? ⟨w.heap.size+1,0,none⟩=some (.int .i64 bx):=HB.out.cell (i:=0) rfl;go_wp2_with fail;refine (HF.out.1 _ (Hs.out.cell (i:=0) rfl) (Ht.out.cell (i:=0) rfl)).mono ?_;rintro e w2 ⟨rfl,hb2⟩;have HB2:=Lib.hid hb2;clear c0 c1 hb2;go_wp2
 go_loopw [10,22] (fun v i wr=>∃ n:Nat,n≤2∧i=.int .i64 (n:Int)∧wr.ownsRow W1.heap.size 31 2 v (2*n) (Za ([⟨xl,yl⟩,⟨xl,yh⟩,⟨xh,yl⟩,⟨xh,yh⟩].take (2*n)))∧Below W1.heap.size W1 wr) (fun _ i _=>2-(intOf i).toNat)
 case atStart=>exact⟨0,by omega,rfl,World.ownsRow_nil _ _ _ _,HB2.out⟩
 case round =>
  obtain⟨n,hn,rfl,hrow,hB⟩:=hrel;rcases (show n=0∨n=1∨n=2 by omega) with rfl | rfl | rfl
  ·have hB':=Lib.hid hB
   have hrow':=Lib.hid hrow;have hzB:=hB.size;have c0:wr.cell? ⟨w.heap.size,1,none⟩=some (.int .i64 ay):=(HA.out.below hB (by omega)).cell (i:=1) rfl
   have c1:wr.cell? ⟨w.heap.size+1,1,none⟩=some (.int .i64 by'):=(HB.out.below hB (by omega)).cell (i:=1) rfl
   have c2:wr.cell? ⟨w.heap.size+1+1,0,none⟩=some (.int .i64 s):=(Hs.out.below hB (by omega)).cell (i:=0) rfl
   have c3:wr.cell? ⟨w.heap.size+1+1+1,0,none⟩=some (.int .i64 t):=(Ht.out.below hB (by omega)).cell (i:=0) rfl
   have hf:=Lib.hid (HF.out.2 wr c2 c3);clear hB hrow c2 c3;go_wp2_with fail;refine hf.out.mono ?_;rintro e w3 ⟨rfl,hb3⟩;have hr3:=Lib.hid (Zr hrow'.out hb3);have hB3:=Lib.hid (hB'.out.trans (hb3.mono hB'.out.size));clear hb3 c0 c1;go_wp2
   go_loopw [10,31] (fun v j wr=>∃ n:Nat,n≤2∧j=.int .i64 (n:Int)∧wr.ownsRow W1.heap.size 31 2 v (0+n) (Za ([⟨xl,yl⟩,⟨xl,yh⟩,⟨xh,yl⟩,⟨xh,yh⟩].take (0+n)))∧Below W1.heap.size W1 wr) (fun _ j _=>2-(intOf j).toNat)
   case atStart=>exact⟨0,by omega,rfl,hr3.out,hB3.out⟩
   case round =>
    obtain⟨n,hn,rfl,hrow,hZ⟩:=hrel;rcases (show n=0∨n=1∨n=2 by omega) with rfl | rfl | rfl
    ·have hrow':=Lib.hid hrow
     have BZ:=Lib.hid hZ;have hzz:=hZ.size;clear hrow hZ;go_wp2_with (at_builtin;refine wpList_append_own _ rfl _ _ 23 rfl W1.heap.size 31 i0 (.agg #[.int .i64 0,.int .i64 0]) 2 16 Tryz.underlying23 hi hz0' hz1' hz2' rfl (by decide) _ _ _ rfl (hrow'.out.alloc _) ⟨wr.heap.size,0,none⟩ 1 1 [.int .i64 xl,.int .i64 yl] rfl rfl (Z1Z _ _ _) (by simp [Value.oneCell']) (by unfold maxLen;omega) (by omega) (by simp;omega) ?_;intro v' w4 hown' hgrow _)
     go_roundw
     case rel =>
      have hb0:Below W1.heap.size wr w4:=((Below.refl W1.heap.size wr).alloc (by omega) _).grown hgrow (by simp;omega) (fun j ej=>(hrow'.out.lt j ej).1)
      exact⟨1,by omega,rfl,hown',BZ.out.trans hb0⟩
     case measure=>simp [intOf]
    ·have hrow':=Lib.hid hrow
     have BZ:=Lib.hid hZ;have hzz:=hZ.size;clear hrow hZ;go_wp2_with (at_builtin;refine wpList_append_own _ rfl _ _ 23 rfl W1.heap.size 31 i0 (.agg #[.int .i64 0,.int .i64 0]) 2 16 Tryz.underlying23 hi hz0' hz1' hz2' rfl (by decide) _ _ _ rfl (hrow'.out.alloc _) ⟨wr.heap.size,0,none⟩ 1 1 [.int .i64 xl,.int .i64 yh] rfl rfl (Z1Z _ _ _) (by simp [Value.oneCell']) (by unfold maxLen;omega) (by omega) (by simp;omega) ?_;intro v' w4 hown' hgrow _)
     go_roundw
     case rel =>
      have hb0:Below W1.heap.size wr w4:=((Below.refl W1.heap.size wr).alloc (by omega) _).grown hgrow (by simp;omega) (fun j ej=>(hrow'.out.lt j ej).1)
      exact⟨2,by omega,rfl,hown',BZ.out.trans hb0⟩
     case measure=>simp [intOf]
    ·have hrow':=Lib.hid hrow
     have BZ:=Lib.hid hZ;clear hrow hZ;go_wp2;go_roundw
     case rel=>exact⟨1,by omega,rfl,hrow'.out,BZ.out⟩
     case measure=>simp [intOf]
  ·have hB':=Lib.hid hB
   have hrow':=Lib.hid hrow;have hzB:=hB.size;have c0:wr.cell? ⟨w.heap.size,1,none⟩=some (.int .i64 ay):=(HA.out.below hB (by omega)).cell (i:=1) rfl
   have c1:wr.cell? ⟨w.heap.size+1,1,none⟩=some (.int .i64 by'):=(HB.out.below hB (by omega)).cell (i:=1) rfl
   have c2:wr.cell? ⟨w.heap.size+1+1,0,none⟩=some (.int .i64 s):=(Hs.out.below hB (by omega)).cell (i:=0) rfl
   have c3:wr.cell? ⟨w.heap.size+1+1+1,0,none⟩=some (.int .i64 t):=(Ht.out.below hB (by omega)).cell (i:=0) rfl
   have hf:=Lib.hid (HF.out.2 wr c2 c3);clear hB hrow c2 c3;go_wp2_with fail;refine hf.out.mono ?_;rintro e w3 ⟨rfl,hb3⟩;have hr3:=Lib.hid (Zr hrow'.out hb3);have hB3:=Lib.hid (hB'.out.trans (hb3.mono hB'.out.size));clear hb3 c0 c1;go_wp2
   go_loopw [10,31] (fun v j wr=>∃ n:Nat,n≤2∧j=.int .i64 (n:Int)∧wr.ownsRow W1.heap.size 31 2 v (2+n) (Za ([⟨xl,yl⟩,⟨xl,yh⟩,⟨xh,yl⟩,⟨xh,yh⟩].take (2+n)))∧Below W1.heap.size W1 wr) (fun _ j _=>2-(intOf j).toNat)
   case atStart=>exact⟨0,by omega,rfl,hr3.out,hB3.out⟩
   case round =>
    obtain⟨n,hn,rfl,hrow,hZ⟩:=hrel;rcases (show n=0∨n=1∨n=2 by omega) with rfl | rfl | rfl
    ·have hrow':=Lib.hid hrow
     have BZ:=Lib.hid hZ;have hzz:=hZ.size;clear hrow hZ;go_wp2_with (at_builtin;refine wpList_append_own _ rfl _ _ 23 rfl W1.heap.size 31 i0 (.agg #[.int .i64 0,.int .i64 0]) 2 16 Tryz.underlying23 hi hz0' hz1' hz2' rfl (by decide) _ _ _ rfl (hrow'.out.alloc _) ⟨wr.heap.size,0,none⟩ 1 1 [.int .i64 xh,.int .i64 yl] rfl rfl (Z1Z _ _ _) (by simp [Value.oneCell']) (by unfold maxLen;omega) (by omega) (by simp;omega) ?_;intro v' w4 hown' hgrow _)
     go_roundw
     case rel =>
      have hb0:Below W1.heap.size wr w4:=((Below.refl W1.heap.size wr).alloc (by omega) _).grown hgrow (by simp;omega) (fun j ej=>(hrow'.out.lt j ej).1)
      exact⟨1,by omega,rfl,hown',BZ.out.trans hb0⟩
     case measure=>simp [intOf]
    ·have hrow':=Lib.hid hrow
     have BZ:=Lib.hid hZ;have hzz:=hZ.size;clear hrow hZ;go_wp2_with (at_builtin;refine wpList_append_own _ rfl _ _ 23 rfl W1.heap.size 31 i0 (.agg #[.int .i64 0,.int .i64 0]) 2 16 Tryz.underlying23 hi hz0' hz1' hz2' rfl (by decide) _ _ _ rfl (hrow'.out.alloc _) ⟨wr.heap.size,0,none⟩ 1 1 [.int .i64 xh,.int .i64 yh] rfl rfl (Z1Z _ _ _) (by simp [Value.oneCell']) (by unfold maxLen;omega) (by omega) (by simp;omega) ?_;intro v' w4 hown' hgrow _)
     go_roundw
     case rel =>
      have hb0:Below W1.heap.size wr w4:=((Below.refl W1.heap.size wr).alloc (by omega) _).grown hgrow (by simp;omega) (fun j ej=>(hrow'.out.lt j ej).1)
      exact⟨2,by omega,rfl,hown',BZ.out.trans hb0⟩
     case measure=>simp [intOf]
    ·have hrow':=Lib.hid hrow
     have BZ:=Lib.hid hZ;clear hrow hZ;go_wp2;go_roundw
     case rel=>exact⟨2,by omega,rfl,hrow'.out,BZ.out⟩
     case measure=>simp [intOf]
  ·have hI:=Z8.own (l:=[⟨xl,yl⟩,⟨xl,yh⟩,⟨xh,yl⟩,⟨xh,yh⟩]) hrow (by simp)
   have HI:=Lib.hid hI;have HX:=zAg HAA hB;clear hI hrow hB;go_wp2;go_ret;exact⟨_,rfl,HI.out,HX.out⟩
end
section
attribute [local go_sem] Oper.semAt_some
attribute [local irreducible] wpQuiet
open Go.RowKit
def crossST (S T:Pt × Pt):List Pt :=
 if (crossB (Z6 S.1 S.2 T.1) (Z6 S.1 S.2 T.2) && crossB (Z6 T.1 T.2 S.1) (Z6 T.1 T.2 S.2))=true then frameP T.1 T.2 (Z6 S.1 S.2 T.1) (Z6 S.1 S.2 T.2) else []
def sidesL (l:List Pt):List (Pt × Pt):=upto (sideP l) l.length
def rowS (S:Pt × Pt) (ts:List (Pt × Pt)):List Pt:=ts.flatMap (crossST S)
def crossL (ss ts:List (Pt × Pt)):List Pt:=ss.flatMap (fun S=>rowS S ts)
def crossP (l m:List Pt):List Pt:=crossL (sidesL l) (sidesL m)
theorem Z5s (S T:Pt × Pt):(crossST S T).length≤4:=by unfold crossST;split <;> simp [frameP]
theorem Z3A (S:Pt × Pt):∀ ts,(rowS S ts).length≤4*ts.length
 | []=>by simp [rowS]
 | T :: ts => by
  have h:=Z3A S ts;have e:=Z5s S T;simp only [rowS,List.flatMap_cons,List.length_append,List.length_cons] at *;omega
theorem Z17 (ts:List (Pt × Pt)):∀ ss,(crossL ss ts).length≤4*ts.length*ss.length
 | []=>by simp [crossL]
 | S :: ss => by
  have h:=Z17 ts ss;have e:=Z3A S ts;simp only [crossL,List.flatMap_cons,List.length_append,List.length_cons] at *;rw [Nat.mul_add,Nat.mul_one];omega
theorem Z1d (S:Pt × Pt) (ts us:List (Pt × Pt)):rowS S (ts++us)=rowS S ts++rowS S us:=by simp [rowS]
theorem Z3T (ts ss rs:List (Pt × Pt)):crossL (ss++rs) ts=crossL ss ts++crossL rs ts:=by simp [crossL]
theorem Z2S {β:Type} {p:Nat→Prop} {Bb:Nat} (A:World) (hp:∀ b,p b→b<A.heap.size∧b<Bb):OwnFrom Bb (fun (_:β) W=>KeepsP p A W) :=
 fun _ X Y row hs hg hr=>⟨Nat.le_trans hs.1 hg.size,fun b hb=>(hg.block b (Nat.lt_of_lt_of_le (hp b hb).1 hs.1) (fun e=>by have:=(hr b e.symm).1;have:=(hp b hb).2;omega)).trans (hs.2 b hb)⟩
theorem Z7S {β:Type} (Bb:Nat) (cs:Array Value) (t:TypeId):Own (fun (_:β) W=>Has W Bb cs t):=fun _ _ _ _ hs hg hrow=>Z0b hs hg hrow
theorem Z5H {a b c:Pt} (pa:-500000≤a.x∧a.x≤500000∧-500000≤a.y∧a.y≤500000) (pb:-500000≤b.x∧b.x≤500000∧-500000≤b.y∧b.y≤500000) (pc:-500000≤c.x∧c.x≤500000∧-500000≤c.y∧c.y≤500000) :
  -2000000000000≤turnV a.x a.y b.x b.y c.x c.y∧turnV a.x a.y b.x b.y c.x c.y≤2000000000000:=by
 have p:=Z00 (a:=b.x-a.x) (b:=c.y-a.y) (m:=1000000) (n:=1000000) (by omega) (by omega) (by omega) (by omega)
 have q:=Z00 (a:=b.y-a.y) (b:=c.x-a.x) (m:=1000000) (n:=1000000) (by omega) (by omega) (by omega) (by omega)
 unfold turnV;omega
theorem Z4H {W:World} {Bb:Nat} {t:TypeId} {u v:Value} (h:Boxed W Bb t u) (k:Boxed W Bb t v):u=v:=by
 have e:=h.cell.symm.trans k.cell
 simpa using e
theorem Zal {W w1:World} {n₀ Bo:Nat} {t e:TypeId} {size:Nat} {v v':Value} {k m:Nat} {xs ys:List Value}
  (hv:Boxed W Bo t v) (hte:t≠e) (hrow:W.ownsRow n₀ e size v k xs) (hn₀:n₀≤W.heap.size) (hB:n₀≤Bo) (hown':w1.ownsRow n₀ e size v' m ys) (hgrow:W.grownBy w1 v.ownBlock) (ho:v'.ownBlock=v.ownBlock∨v'.ownBlock=some W.heap.size) :
  Boxed w1 Bo t v∧Boxed (w1.setCell ⟨Bo,0,none⟩ v') Bo t v'∧(w1.setCell ⟨Bo,0,none⟩ v').ownsRow n₀ e size v' m ys∧KeepsOthers W (w1.setCell ⟨Bo,0,none⟩ v')∧Below n₀ W (w1.setCell ⟨Bo,0,none⟩ v') ∧
   (∀ b,b<W.heap.size→b≠Bo→v.ownBlock≠some b→(w1.setCell ⟨Bo,0,none⟩ v').heap[b]?=W.heap[b]?)∧(∀ b,b<W.heap.size→v.ownBlock≠some b→v'.ownBlock≠some b)∧W.heap.size≤(w1.setCell ⟨Bo,0,none⟩ v').heap.size:=by
 have hv1:Boxed w1 Bo t v:=hv.kept hgrow (hv.not_row hte hrow);refine⟨hv1,hv1.set v',hown'.kept (grownBy_setCell' w1 Bo v') (.inr (hv1.not_row hte hown').symm),?_,?_,fun b hb hne hrw=>?_,fun b hb hrw=>?_,by simpa using hgrow.size⟩
 ·refine (KeepsOthers.of_grownBy hgrow fun j o ej hj=>?_).trans (KeepsOthers.setCell _ _ _)
  rcases hrow.2 with⟨rfl,_⟩ | ⟨g,cap,cur,rfl,_,hgb,_⟩
  ·simp [Value.ownBlock] at ej
  ·obtain rfl:g=j:=by simpa [Value.ownBlock] using ej
   rw [hgb] at hj;cases hj;rfl
 ·exact ((Below.refl n₀ W).grown hgrow hn₀ fun j ej=>(hrow.lt j ej).1).setCell (p:=⟨Bo,0,none⟩) hB v'
 ·exact (Below.heap_setCell w1 ⟨Bo,0,none⟩ v' b hne).trans (hgrow.block b hb (fun e'=>hrw e'.symm))
 ·rcases ho with ho | ho
  ·rw [ho];exact hrw
  ·rw [ho];intro e';cases e';omega
theorem Zp {P:Program} {ops:Array Oper} {i:Nat} {o:Oper} {a:Act} {w:World} {f:Nat} {args:Array Value} {Q:Ending→World→Prop} {K:Act→World→Prop} (hi:ops[i]?=some o) (hw:Region.wanted o (yielded ops a.tmps)=true) (hv:(execOp a.eval o).run P w=.ok (.enter f args) w)
  (hc:Calls P f args w Q) (h:∀ e w',Q e w'→∃ v,e=.returned v∧K (a.put o.dst v) w'):okOp P ops i K a w:=by
 unfold okOp;simp only [hi];rw [if_pos hw,hv];exact hc.mono h
theorem Z1D (vp vq : Value) (l m : List Pt) (w : World) (hp : Z8 w.heap.size w vp l) (hq : Z8 w.heap.size w vq m) (hl : Zb l = true) (hm : Zb m = true) :
  Calls Tryz.prog 145 #[vp,vq] w (PtsQ (crossP l m) w):=by
 have GL:GoValid l:=by simpa [Zb] using hl
 have GM:GoValid m:=by simpa [Zb] using hm
 have hpl:∀ i,Z4 (sideP l i).1=true∧Z4 (sideP l i).2=true:=fun i=>⟨Z04 (fun k hk=>(GL.2.2.1 k hk).1) _,Z04 (fun k hk=>(GL.2.2.1 k hk).1) _⟩
 have hpm:∀ i,Z4 (sideP m i).1=true∧Z4 (sideP m i).2=true:=fun i=>⟨Z04 (fun k hk=>(GM.2.2.1 k hk).1) _,Z04 (fun k hk=>(GM.2.2.1 k hk).1) _⟩
 have l64:l.length≤64:=GL.2.1;have m64:m.length≤64:=GM.2.1;have HPL:=Lib.hid (And.intro hpl hpm);have HP:=Lib.hid (And.intro hp hq);obtain⟨ap,capp,rfl⟩:=hp.len;obtain⟨aq,capq,rfl⟩:=hq.len;obtain⟨i0,hi,hz0',hz1',hz2'⟩:=info_parts ptInfo;have hQ:=(Has.new w #[.slice aq m.length (m.length+capq)] 23).below (((Below.refl (w.heap.size+1) _).alloc (by simp) (.cells #[.slice none 0 0] 23)).alloc (by simp) (.cells #[.slice ap l.length (l.length+capp)] 23)) (by omega)
 have hO:=(Boxed.new (w.alloc (.cells #[.slice aq m.length (m.length+capq)] 23)) 23 (.slice none 0 0)).alloc (.cells #[.slice ap l.length (l.length+capp)] 23);have hS:=Boxed.new ((w.alloc (.cells #[.slice aq m.length (m.length+capq)] 23)).alloc (.cells #[.slice none 0 0] 23)) 23 (.slice ap l.length (l.length+capp));simp only [World.size_alloc] at hO hS;have hBW:=(((Below.refl w.heap.size w).alloc (Nat.le_refl _) (.cells #[.slice aq m.length (m.length+capq)] 23)).alloc (by simp) (.cells #[.slice none 0 0] 23)).alloc (by simp;omega) (.cells #[.slice ap l.length (l.length+capp)] 23)
 have hsz:(((w.alloc (.cells #[.slice aq m.length (m.length+capq)] 23)).alloc (.cells #[.slice none 0 0] 23)).alloc (.cells #[.slice ap l.length (l.length+capp)] 23)).heap.size=w.heap.size+3:=by simp
 obtain⟨W0,hW0⟩:∃ W0,((w.alloc (.cells #[.slice aq m.length (m.length+capq)] 23)).alloc (.cells #[.slice none 0 0] 23)).alloc (.cells #[.slice ap l.length (l.length+capp)] 23)=W0:=⟨_,rfl⟩;rw [hW0] at hQ hO hS hBW hsz;have HW:=Lib.hid hW0;have HQ:=Lib.hid hQ;have HO:=Lib.hid hO;have HS:=Lib.hid hS;have HBW:=Lib.hid hBW;clear hp hq GL GM hpl hpm hQ hO hS hBW hW0 hl hm;refine (callsIn_wide (n:=9)).1 ?_;refine callsIn_of_wp_marks Tryz.func145 rfl trivial ?_ rfl;simp only [Tryz.ntmps145,List.size_toArray,List.length_cons,List.length_nil,Nat.reduceAdd,Nat.reduceSub,Array.replicate_succ,Array.replicate_zero,List.push_toArray,List.append_toArray,List.nil_append,List.cons_append];refine wpIn_wide.2 ?_;go_wp2_with (go_at_call 160;refine (Z3l _ _ _ _).mono ?_;rintro e w' ⟨rfl,rfl⟩);rw [HW.out];refine (wpIn_wide (n:=9)).1 ?_;refine wpIn_rangeFunc_ownH rfl (by omega) (gf:=169) (lb:=#[.pointer (some ⟨w.heap.size+1+1,0,none⟩)]) rfl trivial (enters_of Tryz.func169 (by kernel_rfl) rfl)
  (Z22 (fun s:PlS=>encS s.1) (fun i=>⟨sideP l i,HPL.out.1 i⟩) 8 (by omega) (fun b=>b<w.heap.size+1∨b=w.heap.size+1+1) (w.heap.size+1+1) (w.heap.size+1) _ l _ (.inr rfl) (fun b h=>.inl h) (fun b h=>by omega) HS.out.cell ((HP.out.1.below HBW.out).mono (by omega)) (fun _ _=>rfl))
  (fun h k=>h.trans k) (fun W l' o o' hl' _ _ _=>KeepsP.putObj o' (fun b hb=>by omega)) (Below.refl _ _) (fun _=>rfl)
  (fun pre W=>(∃ v,Boxed W (w.heap.size+1) 23 v∧W.ownsRow (w.heap.size+1) 31 2 v (crossL (pre.map (·.1)) (sidesL m)).length (Za (crossL (pre.map (·.1)) (sidesL m)))∧v.ownBlock≠some (w.heap.size+1+1))∧Below (w.heap.size+1) W0 W)
  (fun _ _ _=>False)
  (OwnFrom.and (Own.from (holdsRow_own _ _ _ _ _ _ _ (fun _ v=>v.ownBlock≠some (w.heap.size+1+1))) _) (ownFrom_below (by omega) (by omega)))
  (fun c=>ownFrom_pure _ (fun _=>False))
  ⟨⟨_,HO.out,World.ownsRow_nil _ _ _ _,by simp [Value.ownBlock]⟩,Below.refl _ _⟩
  (fun x a' W=>∃ B1 B2,(Has W B1 #[.int .i64 x.1.1.x,.int .i64 x.1.1.y] 31∧Has W B2 #[.int .i64 x.1.2.x,.int .i64 x.1.2.y] 31)∧(W0.heap.size≤B1∧W0.heap.size≤B2)∧(∃ u,Boxed W (w.heap.size+1) 23 u∧u.ownBlock≠some B1∧u.ownBlock≠some B2)∧a'={ tmps:=#[.slice ap l.length (l.length+capp),.slice aq m.length (m.length+capq),undef,.pointer (some ⟨w.heap.size,0,none⟩),.slice none 0 0,.pointer (some ⟨w.heap.size+1,0,none⟩),.pointer (some ⟨B1,0,none⟩),.pointer (some ⟨B2,0,none⟩),undef,undef,undef,undef,.slice ap l.length (l.length+capp),.func (.func 169) #[] #[.pointer (some ⟨w.heap.size+1+1,0,none⟩)],.agg #[.int .i64 x.1.1.x,.int .i64 x.1.1.y],.agg #[.int .i64 x.1.2.x,.int .i64 x.1.2.y],undef,undef,undef,undef,undef,undef,undef,undef,undef,undef,undef,undef,undef,undef,undef,undef,undef,undef,undef,undef,undef,undef,undef,undef,undef,undef,undef,undef,undef,undef,undef,undef,undef,undef],defers:=[] })
  (fun x a' _ X Y row hs hg hr=>by obtain⟨B1,B2,⟨g1,g2⟩,g3,⟨u,g4,g5⟩,g6⟩:=hs;exact⟨B1,B2,⟨Z0b g1 hg (fun r e=>(hr r e).2),Z0b g2 hg (fun r e=>(hr r e).2)⟩,g3,⟨u,boxed_own (β:=Unit) _ _ (fun _=>_) () X Y row g4 hg (fun r e=>(hr r e).2),g5⟩,g6⟩)
  ?assign ?body ?done ?stop
 case assign =>
  rintro ll pre x W K ⟨⟨v,hv1,hv2,hvw⟩,hB1⟩ hK;unfold encS;gi_wp2;have hzW:=hB1.size;exact hK _ _ (((KeepsOthers.alloc _ _).trans (KeepsOthers.alloc _ _)).from _) (KeepsP.of_below (((Below.refl (w.heap.size+3) W).alloc (by omega) _).alloc (by simp;omega) _) (fun b hb=>by omega))
   ⟨⟨v,(hv1.alloc _).alloc _,(hv2.alloc _).alloc _,hvw⟩,(hB1.alloc (by omega) _).alloc (by simp;omega) _⟩
   ⟨W.heap.size,W.heap.size+1,⟨Has.below (Has.new W _ _) ((Below.refl (W.heap.size+1) _).alloc (by simp) _) (by omega),by have:=Has.new (W.alloc (.cells #[.int .i64 x.1.1.x,.int .i64 x.1.1.y] 31)) #[.int .i64 x.1.2.x,.int .i64 x.1.2.y] 31;rwa [World.size_alloc] at this⟩,⟨by omega,by omega⟩,⟨v,(hv1.alloc _).alloc _,fun e=>(by have:=(hv2.lt _ e).2;omega),fun e=>(by have:=(hv2.lt _ e).2;omega)⟩,rfl⟩
 case body =>
  rintro ll pre ⟨⟨⟨ax,ay⟩,⟨bx,by'⟩⟩,hxx⟩ a' W hll ⟨r,hr⟩ ⟨⟨v,hv1,hv2,hvw⟩,hB1⟩ ⟨B1,B2,⟨g1,g2⟩,⟨hb1,hb2⟩,⟨u,hu1,hu2⟩,rfl⟩ hlt
  obtain rfl:=Z4H hu1 hv1;dsimp only at g1 g2 ⊢;have pa:=Zu hxx.1;have pb:=Zu hxx.2;dsimp only at pa pb;obtain⟨S,hS⟩:∃ S:PlS,S=⟨(⟨ax,ay⟩,⟨bx,by'⟩),hxx⟩:=⟨_,rfl⟩
  rw [← hS];have HSS:=Lib.hid (show S.1=(⟨ax,ay⟩,⟨bx,by'⟩) by rw [hS])
  clear hS;have hzW:=hB1.size;have hBWW:=HBW.out.trans (hB1.mono (by omega))
  have hq0:=HQ.out.below hB1 (by omega)
  have cq:W.cell? ⟨w.heap.size,0,none⟩=some (.slice aq m.length (m.length+capq)):=hq0.cell (i:=0) rfl;have hll':=Lib.hid hll;have hr':=Lib.hid hr;have hV1:=Lib.hid hv1;have hV2:=Lib.hid hv2;have hG:=Lib.hid (And.intro g1 g2);have hU:=Lib.hid (And.intro hu2 (And.intro hvw (show u.ownBlock≠some W.heap.size from fun e=>by have:=(hv2.lt _ e).2;omega)))
  have hBB1:=Lib.hid hB1;have hBBW:=Lib.hid hBWW;have hlt':=Lib.hid hlt;have lB1:=g1.lt;have lB2:=g2.lt;clear hll hr hv1 hv2 hvw g1 g2 hu1 hu2 hB1 hBWW hq0 hlt hxx
  gi_wp2_with (refine⟨trivial,?_⟩;gi_at_call 160;refine (CallsIn.inRound ll (callsIn_wide.2 (Z3l _ _ _ _))).mono ?_;rintro e w' ⟨rfl,rfl⟩)
  have hA:=(Below.refl W.heap.size W).alloc (Nat.le_refl _) (.cells #[.slice aq m.length (m.length+capq)] 23);have bN:=Boxed.new W 23 (.slice aq m.length (m.length+capq));have hV1':=hV1.out.alloc (.cells #[.slice aq m.length (m.length+capq)] 23);have hV2':=hV2.out.alloc (.cells #[.slice aq m.length (m.length+capq)] 23);have hzz:(W.alloc (.cells #[.slice aq m.length (m.length+capq)] 23)).heap.size=W.heap.size+1:=by simp
  have hKO:=KeepsOthers.alloc W (.cells #[.slice aq m.length (m.length+capq)] 23);obtain⟨W2,hW2⟩:∃ W2,W.alloc (.cells #[.slice aq m.length (m.length+capq)] 23)=W2:=⟨_,rfl⟩;rw [hW2] at hA bN hV1' hV2' hzz hKO ⊢;clear hW2;have hL2:=(hA.block ll (Array.getElem?_eq_some_iff.1 hr'.out).1).trans hr'.out;have hB2:=hBBW.out.trans (hA.mono hBBW.out.size);refine wpIn_rangeFunc_ownN (l₀:=ll) rfl hL2 (by omega) (gf:=169) (lb:=#[.pointer (some ⟨W.heap.size,0,none⟩)]) rfl trivial (enters_of Tryz.func169 (by kernel_rfl) rfl)
   ((Z22 (fun s:PlS=>encS s.1) (fun i=>⟨sideP m i,HPL.out.2 i⟩) 6 (by omega) (fun b=>b<w.heap.size+1∨b=W.heap.size) W.heap.size (w.heap.size+1) _ m _ (.inr rfl) (fun b h=>.inl h) (fun b h=>by omega) bN.cell ((HP.out.2.below hB2).mono (by omega)) (fun _ _=>rfl)).inRound ll)
   (fun h k=>h.trans k) (fun W' l' o o' hl' _ _ _=>KeepsP.putObj o' (fun b hb=>by omega)) (Below.refl _ _) (fun _=>rfl)
   (fun pre2 X=>(∃ v,Boxed X (w.heap.size+1) 23 v∧X.ownsRow (w.heap.size+1) 31 2 v (crossL (pre.map (·.1)) (sidesL m)++rowS S.1 (pre2.map (·.1))).length (Za (crossL (pre.map (·.1)) (sidesL m)++rowS S.1 (pre2.map (·.1))))∧((v.ownBlock≠some B1∧v.ownBlock≠some B2)∧(v.ownBlock≠some (w.heap.size+1+1)∧v.ownBlock≠some W.heap.size))) ∧
    ((Has X B1 #[.int .i64 ax,.int .i64 ay] 31∧Has X B2 #[.int .i64 bx,.int .i64 by'] 31)∧(Below (w.heap.size+1) W0 X∧(KeepsFrom W0.heap.size W2 X∧KeepsP (fun b=>b<w.heap.size+1∨b=w.heap.size+1+1) W2 X))))
   (fun _ _ _=>False)
   (OwnFrom.and (Own.from (holdsRow_own _ _ _ _ _ _ _ (fun _ v=>(v.ownBlock≠some B1∧v.ownBlock≠some B2)∧(v.ownBlock≠some (w.heap.size+1+1)∧v.ownBlock≠some W.heap.size))) _) (OwnFrom.and (OwnFrom.and (Own.from (Z7S _ _ _) _) (Own.from (Z7S _ _ _) _)) (OwnFrom.and (ownFrom_below (by omega) (by omega)) (OwnFrom.and (ownFrom_keepsFrom (Nat.le_refl _)) (Z2S _ (fun b hb=>by omega))))))
   (fun c=>ownFrom_pure _ (fun _=>False))
   ⟨⟨u,hV1',by simpa [rowS] using hV2',hU.out⟩,⟨hG.out.1.below hA lB1,hG.out.2.below hA lB2⟩,hBB1.out.trans (hA.mono (by omega)),KeepsFrom.refl _ _,KeepsP.refl _ _⟩
   (fun y a' X=>∃ B3 B4,(Has X B3 #[.int .i64 y.1.1.x,.int .i64 y.1.1.y] 31∧Has X B4 #[.int .i64 y.1.2.x,.int .i64 y.1.2.y] 31)∧(W2.heap.size≤B3∧W2.heap.size≤B4)∧(∃ u,Boxed X (w.heap.size+1) 23 u∧u.ownBlock≠some B3∧u.ownBlock≠some B4)∧a'={ tmps:=#[.slice ap l.length (l.length+capp),.slice aq m.length (m.length+capq),undef,.pointer (some ⟨w.heap.size,0,none⟩),.slice none 0 0,.pointer (some ⟨w.heap.size+1,0,none⟩),.pointer (some ⟨B1,0,none⟩),.pointer (some ⟨B2,0,none⟩),.pointer (some ⟨B3,0,none⟩),.pointer (some ⟨B4,0,none⟩),undef,undef,.slice ap l.length (l.length+capp),.func (.func 169) #[] #[.pointer (some ⟨w.heap.size+1+1,0,none⟩)],.agg #[.int .i64 ax,.int .i64 ay],.agg #[.int .i64 bx,.int .i64 by'],.slice aq m.length (m.length+capq),.func (.func 169) #[] #[.pointer (some ⟨W.heap.size,0,none⟩)],.agg #[.int .i64 y.1.1.x,.int .i64 y.1.1.y],.agg #[.int .i64 y.1.2.x,.int .i64 y.1.2.y],undef,undef,undef,undef,undef,undef,undef,undef,undef,undef,undef,undef,undef,undef,undef,undef,undef,undef,undef,undef,undef,undef,undef,undef,undef,undef,undef,undef,undef,undef],defers:=[] })
   (fun x a' _ X Y row hs hg hr=>by obtain⟨B3,B4,⟨g1,g2⟩,g3,⟨u,g4,g5⟩,g6⟩:=hs;exact⟨B3,B4,⟨Z0b g1 hg (fun r e=>(hr r e).2),Z0b g2 hg (fun r e=>(hr r e).2)⟩,g3,⟨u,boxed_own (β:=Unit) _ _ (fun _=>_) () X Y row g4 hg (fun r e=>(hr r e).2),g5⟩,g6⟩)
   ?assign2 ?body2 ?done2 ?stop2
  case assign2 =>
   rintro ll2 pre2 y X K ⟨⟨v,hv1,hv2,hv3⟩,⟨g1,g2⟩,hB3,hKF,hKP⟩ hK;unfold encS;gi_wp2;have hzX:=hKF.size;have hzX2:=hB3.size;have lX1:=g1.lt;have lX2:=g2.lt;have hal:=((Below.refl X.heap.size X).alloc (Nat.le_refl _) (.cells #[.int .i64 y.1.1.x,.int .i64 y.1.1.y] 31)).alloc (by simp) (.cells #[.int .i64 y.1.2.x,.int .i64 y.1.2.y] 31)
   have hko:=(KeepsOthers.alloc X (.cells #[.int .i64 y.1.1.x,.int .i64 y.1.1.y] 31)).trans (KeepsOthers.alloc _ (.cells #[.int .i64 y.1.2.x,.int .i64 y.1.2.y] 31));exact hK _ _ (hko.from _) (KeepsP.of_below hal (fun b hb=>by omega))
    ⟨⟨v,(hv1.alloc _).alloc _,(hv2.alloc _).alloc _,hv3⟩,⟨g1.below hal lX1,g2.below hal lX2⟩,hB3.trans (hal.mono (by omega)),hKF.trans (hko.from _),hKP.trans (KeepsP.of_below hal (fun b hb=>by omega))⟩
    ⟨X.heap.size,X.heap.size+1,⟨Has.below (Has.new X _ _) ((Below.refl (X.heap.size+1) _).alloc (by simp) _) (by omega),by have:=Has.new (X.alloc (.cells #[.int .i64 y.1.1.x,.int .i64 y.1.1.y] 31)) #[.int .i64 y.1.2.x,.int .i64 y.1.2.y] 31;rwa [World.size_alloc] at this⟩,⟨by omega,by omega⟩,⟨v,(hv1.alloc _).alloc _,fun e=>(by have:=(hv2.lt _ e).2;omega),fun e=>(by have:=(hv2.lt _ e).2;omega)⟩,rfl⟩
  case body2 =>
   rintro ll2 pre2 ⟨⟨⟨cx,cy⟩,⟨dx,dy⟩⟩,hyy⟩ a' X hll2 ⟨r2,hr2⟩ ⟨⟨v,hv1,hv2,hv3⟩,⟨g1,g2⟩,hB3,hKF,hKP⟩ ⟨B3,B4,⟨g3,g4⟩,⟨hb3,hb4⟩,⟨u',hu1,hu2⟩,rfl⟩ hlt2;obtain rfl:=Z4H hv1 hu1;dsimp only at g3 g4 ⊢;have pc:=Zu hyy.1;have pd:=Zu hyy.2;dsimp only at pc pd;obtain⟨T,hT⟩:∃ T:PlS,T=⟨(⟨cx,cy⟩,⟨dx,dy⟩),hyy⟩:=⟨_,rfl⟩;rw [← hT];have HTT:=Lib.hid (show T.1=(⟨cx,cy⟩,⟨dx,dy⟩) by rw [hT])
   have hyc:=Lib.hid hyy;clear hT hyy;have t1:=fun w1=>Z1C ax ay bx by' cx cy w1 (by omega) (by omega) (by omega) (by omega) (by omega) (by omega) (by omega) (by omega) (by omega) (by omega) (by omega) (by omega)
   have t2:=fun w1=>Z1C ax ay bx by' dx dy w1 (by omega) (by omega) (by omega) (by omega) (by omega) (by omega) (by omega) (by omega) (by omega) (by omega) (by omega) (by omega)
   have t3:=fun w1=>Z1C cx cy dx dy ax ay w1 (by omega) (by omega) (by omega) (by omega) (by omega) (by omega) (by omega) (by omega) (by omega) (by omega) (by omega) (by omega)
   have t4:=fun w1=>Z1C cx cy dx dy bx by' w1 (by omega) (by omega) (by omega) (by omega) (by omega) (by omega) (by omega) (by omega) (by omega) (by omega) (by omega) (by omega)
   have bs:=Z5H (a:=⟨ax,ay⟩) (b:=⟨bx,by'⟩) (c:=⟨cx,cy⟩) pa pb pc
   have bt:=Z5H (a:=⟨ax,ay⟩) (b:=⟨bx,by'⟩) (c:=⟨dx,dy⟩) pa pb pd
   dsimp only at bs bt;have hcst:Hid (crossST S.1 T.1=if (crossB (turnV ax ay bx by' cx cy) (turnV ax ay bx by' dx dy) && crossB (turnV cx cy dx dy ax ay) (turnV cx cy dx dy bx by'))=true then frameP ⟨cx,cy⟩ ⟨dx,dy⟩ (turnV ax ay bx by' cx cy) (turnV ax ay bx by' dx dy) else []):=by
    show crossST S.1 T.1=_
    rw [HSS.out,HTT.out];rfl
   generalize turnV ax ay bx by' cx cy=s at *
   generalize turnV ax ay bx by' dx dy=t at *
   generalize turnV cx cy dx dy ax ay=p at *;generalize turnV cx cy dx dy bx by'=q at *
   have HT:=Lib.hid (And.intro t1 (And.intro t2 (And.intro t3 t4)));have hzX:=hKF.size;have hzX2:=hB3.size;have lX1:=g1.lt;have lX2:=g2.lt;have lX3:=g3.lt;have lX4:=g4.lt;have la0:=Low.fact (g1.cell (i:=0) rfl:X.cell? ⟨B1,0,none⟩=some (.int .i64 ax));have la1:=Low.fact (g1.cell (i:=1) rfl:X.cell? ⟨B1,1,none⟩=some (.int .i64 ay));have lb0:=Low.fact (g2.cell (i:=0) rfl:X.cell? ⟨B2,0,none⟩=some (.int .i64 bx));have lb1:=Low.fact (g2.cell (i:=1) rfl:X.cell? ⟨B2,1,none⟩=some (.int .i64 by'))
   have lc0:=Low.fact (g3.cell (i:=0) rfl:X.cell? ⟨B3,0,none⟩=some (.int .i64 cx));have lc1:=Low.fact (g3.cell (i:=1) rfl:X.cell? ⟨B3,1,none⟩=some (.int .i64 cy));have ld0:=Low.fact (g4.cell (i:=0) rfl:X.cell? ⟨B4,0,none⟩=some (.int .i64 dx));have ld1:=Low.fact (g4.cell (i:=1) rfl:X.cell? ⟨B4,1,none⟩=some (.int .i64 dy));have HG:=Lib.hid (And.intro g1 (And.intro g2 (And.intro g3 g4)));have HV:=Lib.hid (And.intro hv1 (And.intro hv2 (And.intro hv3 hu2)));have HB:=Lib.hid (And.intro hB3 (And.intro hKF hKP));have hll2':=Lib.hid hll2;have hlt2':=Lib.hid hlt2;have hpab:=Lib.hid (And.intro pa pb);clear t1 t2 t3 t4 g1 g2 g3 g4 hv1 hv2 hv3 hu1 hu2 hB3 hKF hKP hll2 hlt2 hr2 pa pb pc pd;gi_wp2
   (refine ZQ (ZI _ _) (by kernel_rfl) (by kernel_rfl) (by kernel_rfl) ?_;(iterate 10 (apply Zf;(case hw=>rfl);(case hval=>(intro w1 hw1;have hcx:=Low.cells hw1;simp only [Oper.quietAt];go_simp;first | done | (first | (go_at_call 161;with_reducible exact Low.calls hw1 (HT.out.1 _)) | (go_at_call 161;with_reducible exact Low.calls hw1 (HT.out.2.1 _))) | rfl | exact⟨rfl,rfl⟩));simp only [Act.put,zq4,zr4,zs4]));refine wpQuiet_nil ?_;intro w2 hw2)
   obtain⟨XX,rfl⟩:∃ XX,XX=w2:=⟨_,rfl⟩;have hX2:=Lib.hid hw2.out;clear la0 la1 lb0 lb1 lc0 lc1 ld0 ld1 hw2;have la0:=Low.fact ((HG.out.1.below hX2.out lX1).cell (i:=0) rfl:XX.cell? ⟨B1,0,none⟩=some (.int .i64 ax));have la1:=Low.fact ((HG.out.1.below hX2.out lX1).cell (i:=1) rfl:XX.cell? ⟨B1,1,none⟩=some (.int .i64 ay));have lb0:=Low.fact ((HG.out.2.1.below hX2.out lX2).cell (i:=0) rfl:XX.cell? ⟨B2,0,none⟩=some (.int .i64 bx));have lb1:=Low.fact ((HG.out.2.1.below hX2.out lX2).cell (i:=1) rfl:XX.cell? ⟨B2,1,none⟩=some (.int .i64 by'))
   have lc0:=Low.fact ((HG.out.2.2.1.below hX2.out lX3).cell (i:=0) rfl:XX.cell? ⟨B3,0,none⟩=some (.int .i64 cx));have lc1:=Low.fact ((HG.out.2.2.1.below hX2.out lX3).cell (i:=1) rfl:XX.cell? ⟨B3,1,none⟩=some (.int .i64 cy));have ld0:=Low.fact ((HG.out.2.2.2.below hX2.out lX4).cell (i:=0) rfl:XX.cell? ⟨B4,0,none⟩=some (.int .i64 dx));have ld1:=Low.fact ((HG.out.2.2.2.below hX2.out lX4).cell (i:=1) rfl:XX.cell? ⟨B4,1,none⟩=some (.int .i64 dy));gi_wp2;cases c1:crossB s t
   ·have hc1:=Lib.hid (fun w1=>(c1 ▸ Z0B s t w1:Calls Tryz.prog 162 #[.int .i64 s,.int .i64 t] w1 fun e w'=>e=.returned (.bool false)∧w1=w'))
    (refine ZQ (ZI _ _) (by kernel_rfl) (by kernel_rfl) (by kernel_rfl) ?_;(iterate 4 (apply Zf;(case hw=>rfl);(case hval=>(intro w1 hw1;have hcx:=Low.cells hw1;simp only [Oper.quietAt];go_simp;first | done | (first | (go_at_call 162;with_reducible exact Low.calls_same hw1 (hc1.out _))) | rfl | exact⟨rfl,rfl⟩));simp only [Act.put,zq4,zr4,zs4]));(iterate 9 (apply Zy;(case hw=>rfl);simp only [Act.put,zq4,zr4,zs4]));(iterate 1 (apply Zf;(case hw=>rfl);(case hval=>(intro w1 hw1;have hcx:=Low.cells hw1;simp only [Oper.quietAt];go_simp;first | done | (first | (go_at_call 162;with_reducible exact Low.calls_same hw1 (hc1.out _))) | rfl | exact⟨rfl,rfl⟩));simp only [Act.put,zq4,zr4,zs4]));refine wpQuiet_nil ?_;intro w2 hw2)
    gi_wp2;have hbb:=hX2.out.trans (hw2.out.mono hX2.out.size);refine⟨ZA hbb,KeepsP.of_below hbb (fun b hb=>by omega),⟨v,Boxed.below HV.out.1 hbb HV.out.1.lt,?_,HV.out.2.2.1⟩,⟨HG.out.1.below hbb lX1,HG.out.2.1.below hbb lX2⟩,HB.out.1.trans (hbb.mono (by omega)),HB.out.2.1.trans (ZA hbb),HB.out.2.2.trans (KeepsP.of_below hbb (fun b hb=>by omega))⟩
    rw [List.map_append,Z1d,show rowS S.1 ([T].map (·.1))=[] by simp [rowS,hcst.out,c1],List.append_nil]
    exact Zr HV.out.2.1 hbb
   ·have hc1:=Lib.hid (fun w1=>(c1 ▸ Z0B s t w1:Calls Tryz.prog 162 #[.int .i64 s,.int .i64 t] w1 fun e w'=>e=.returned (.bool true)∧w1=w'))
    cases c2:crossB p q
    ·have hc2:=Lib.hid (fun w1=>(c2 ▸ Z0B p q w1:Calls Tryz.prog 162 #[.int .i64 p,.int .i64 q] w1 fun e w'=>e=.returned (.bool false)∧w1=w'))
     (refine ZQ (ZI _ _) (by kernel_rfl) (by kernel_rfl) (by kernel_rfl) ?_;(iterate 14 (apply Zf;(case hw=>rfl);(case hval=>(intro w1 hw1;have hcx:=Low.cells hw1;simp only [Oper.quietAt];go_simp;first | done | (first | (go_at_call 162;with_reducible exact Low.calls_same hw1 (hc1.out _)) | (go_at_call 162;with_reducible exact Low.calls_same hw1 (hc2.out _)) | (go_at_call 161;with_reducible exact Low.calls hw1 (HT.out.2.2.1 _)) | (go_at_call 161;with_reducible exact Low.calls hw1 (HT.out.2.2.2 _))) | rfl | exact⟨rfl,rfl⟩));simp only [Act.put,zq4,zr4,zs4]));refine wpQuiet_nil ?_;intro w2 hw2)
     gi_wp2;have hbb:=hX2.out.trans (hw2.out.mono hX2.out.size);refine⟨ZA hbb,KeepsP.of_below hbb (fun b hb=>by omega),⟨v,Boxed.below HV.out.1 hbb HV.out.1.lt,?_,HV.out.2.2.1⟩,⟨HG.out.1.below hbb lX1,HG.out.2.1.below hbb lX2⟩,HB.out.1.trans (hbb.mono (by omega)),HB.out.2.1.trans (ZA hbb),HB.out.2.2.trans (KeepsP.of_below hbb (fun b hb=>by omega))⟩
     rw [List.map_append,Z1d,show rowS S.1 ([T].map (·.1))=[] by simp [rowS,hcst.out,c1,c2],List.append_nil]
     exact Zr HV.out.2.1 hbb
    ·have hc2:=Lib.hid (fun w1=>(c2 ▸ Z0B p q w1:Calls Tryz.prog 162 #[.int .i64 p,.int .i64 q] w1 fun e w'=>e=.returned (.bool true)∧w1=w'))
     (refine ZQ (ZI _ _) (by kernel_rfl) (by kernel_rfl) (by kernel_rfl) ?_;(iterate 14 (apply Zf;(case hw=>rfl);(case hval=>(intro w1 hw1;have hcx:=Low.cells hw1;simp only [Oper.quietAt];go_simp;first | done | (first | (go_at_call 162;with_reducible exact Low.calls_same hw1 (hc1.out _)) | (go_at_call 162;with_reducible exact Low.calls_same hw1 (hc2.out _)) | (go_at_call 161;with_reducible exact Low.calls hw1 (HT.out.2.2.1 _)) | (go_at_call 161;with_reducible exact Low.calls hw1 (HT.out.2.2.2 _))) | rfl | exact⟨rfl,rfl⟩));simp only [Act.put,zq4,zr4,zs4]));refine wpQuiet_nil ?_;intro w2 hw2)
     gi_wp2;have hY:=hX2.out.trans (hw2.out.mono hX2.out.size);have hne:¬ s-t=0:=by
      simp only [crossB,decide_eq_true_eq] at c1;omega
     have bY:=Boxed.below HV.out.1 hY HV.out.1.lt;have rY:=Zr HV.out.2.1 hY;have g3Y:=HG.out.2.2.1.below hY lX3;have g4Y:=HG.out.2.2.2.below hY lX4;have hcr:Hid (crossST S.1 T.1=frameP ⟨cx,cy⟩ ⟨dx,dy⟩ s t):=by
      show crossST S.1 T.1=_
      rw [hcst.out,c1,c2];rfl
     clear la0 la1 lb0 lb1 lc0 lc1 ld0 ld1 hw2 c1 c2;refine Zg (ZI _ _) 7 (fun Z=>Boxed Z (w.heap.size+1) 23 v∧Has Z B3 #[.int .i64 cx,.int .i64 cy] 31∧Has Z B4 #[.int .i64 dx,.int .i64 dy] 31) (by kernel_rfl) (by kernel_rfl) (by kernel_rfl) fun hH inv0=>?_
     refine sk hH (i:=0) (v:=v) (Zd rfl) inv0 (fun X hX=>?_) fun inv1=>?_
     ·have hx:=hX.1.cell;go_simp
     simp only [Act.put,zq4,zr4,zs4];refine sk hH (i:=1) (v:=.agg #[.int .i64 cx,.int .i64 cy]) (Zd rfl) inv1 (fun X hX=>?_) fun inv2=>?_
     ·have hx:=hX.2.1.cell (i:=0) rfl;have hy:=hX.2.1.cell (i:=1) rfl;go_simp
     simp only [Act.put,zq4,zr4,zs4];refine sk hH (i:=2) (v:=.agg #[.int .i64 dx,.int .i64 dy]) (Zd rfl) inv2 (fun X hX=>?_) fun inv3=>?_
     ·have hx:=hX.2.2.cell (i:=0) rfl;have hy:=hX.2.2.cell (i:=1) rfl;go_simp
     simp only [Act.put,zq4,zr4,zs4];refine sk hH (i:=3) (v:=.int .i64 s) (Zd rfl) inv3 (fun X hX=>?_) fun inv4=>?_
     ·go_simp
     simp only [Act.put,zq4,zr4,zs4];refine sk hH (i:=4) (v:=.int .i64 t) (Zd rfl) inv4 (fun X hX=>?_) fun inv5=>?_
     ·go_simp
     simp only [Act.put,zq4,zr4,zs4];clear inv0 inv1 inv2 inv3 inv4 inv5 hH;have hZ0:=hY.drew;have bZ:Boxed w2.drew (w.heap.size+1) 23 v:=bY;have rZ:=Zr rY (Below.drew (Below.refl w2.heap.size w2));have g3Z:Has w2.drew B3 #[.int .i64 cx,.int .i64 cy] 31:=g3Y;have g4Z:Has w2.drew B4 #[.int .i64 dx,.int .i64 dy] 31:=g4Y;generalize w2.drew=Z0 at hZ0 bZ rZ g3Z g4Z ⊢;refine sa1 (r:=5) ⟨bZ,g3Z,g4Z⟩ ?_;refine Zp (Zd rfl) rfl (by go_simp) (Z7Z ⟨cx,cy⟩ ⟨dx,dy⟩ s t Z0 hyc.out.1 hyc.out.2 bs.1 bs.2 bt.1 bt.2 hne) (fun e Z1 hq=>?_)
     obtain⟨vf,rfl,hI,hb⟩:=hq;refine⟨vf,rfl,?_⟩;simp only [Act.put,zq4,zr4,zs4];obtain⟨_,af,capf,rfl,hcf⟩:=hI;obtain⟨bf,of,rfl,hbf,hcf⟩:∃ b o,af=some ⟨b,o,none⟩∧b<Z1.heap.size∧∀ j,j<(frameP ⟨cx,cy⟩ ⟨dx,dy⟩ s t).length→Z1.cell? ⟨b,o+j*2,none⟩=some (.int .i64 (nth (frameP ⟨cx,cy⟩ ⟨dx,dy⟩ s t) j).x)∧Z1.cell? ⟨b,o+j*2+1,none⟩=some (.int .i64 (nth (frameP ⟨cx,cy⟩ ⟨dx,dy⟩ s t) j).y):=by
      rcases hcf with h | h
      ·simp [frameP] at h
      ·exact h
     have hZ1:=hZ0.trans (hb.mono hZ0.size);have b1:=Boxed.below bZ hb bZ.lt;have r1:=Zr rZ hb;have g31:=g3Z.below hb g3Z.lt;have g41:=g4Z.below hb g4Z.lt;have hz1:=hZ1.size;have hlen1:=Z17 (sidesL m) (pre.map (·.1));have hlen2:=Z3A S.1 (pre2.map (·.1));have hlm:(sidesL m).length=m.length:=by simp [sidesL,upto]
     have hpl1:pre.length≤64:=by have:=hlt'.out;omega
     have hpl2:pre2.length≤64:=by have:=hlt2'.out;omega
     simp only [List.length_map,hlm] at hlen1 hlen2;have hlen3:4*m.length*pre.length≤16384:=Nat.mul_le_mul (show 4*m.length≤256 by omega) hpl1
     have hlf:(frameP ⟨cx,cy⟩ ⟨dx,dy⟩ s t).length=4:=rfl;refine sa1 (r:=6) ⟨b1,g31,g41⟩ ?_;refine ZC (Zd rfl) rfl (.tmp 42) (.tmp 47) 23 rfl (w.heap.size+1) 31 i0 (.agg #[.int .i64 0,.int .i64 0]) 2 16 Tryz.underlying23 hi hz0' hz1' hz2' rfl (by decide) _ _ _ rfl r1 ⟨bf,of,none⟩ 4 (4+capf) (Za (frameP ⟨cx,cy⟩ ⟨dx,dy⟩ s t)) rfl (Zt _) (Z5P hcf) (Z0w _) (by rw [List.length_append];unfold maxLen;omega) (by rw [List.length_append];omega) (by omega) ?_
     intro v' Z2 hown' hgrow ho;obtain⟨n5,hn5⟩:∃ n5,(crossL (pre.map (·.1)) (sidesL m)++rowS S.1 (pre2.map (·.1))).length+4=n5:=⟨_,rfl⟩;rw [hn5] at hown';obtain⟨g5,cap5,rfl⟩:=Z6u hown' (by omega)
     simp only [Act.put,zq4,zr4,zs4];obtain⟨a1,a2,a3,a4,a5,a6,a7,a8⟩:=Zal b1 (by decide) r1 (by omega) (Nat.le_refl _) hown' hgrow ho
     have s3:Has Z2 B3 #[.int .i64 cx,.int .i64 cy] 31:=(hgrow.block B3 g31.lt (fun e=>HV.out.2.2.2.1 e.symm)).trans g31
     have s4:Has Z2 B4 #[.int .i64 dx,.int .i64 dy] 31:=(hgrow.block B4 g41.lt (fun e=>HV.out.2.2.2.2 e.symm)).trans g41
     refine Zm (by kernel_rfl) ⟨a1,s3,s4⟩ ?_
     simp only [List.drop_succ_cons,List.drop_zero];have x1:=a1.cell;have y1:=a1.frozen;have HA:=Lib.hid (And.intro a2 (And.intro a3 (And.intro a4 (And.intro a5 (And.intro a6 (And.intro a7 a8))))));clear a1 a2 a3 a4 a5 a6 a7 a8 s3 s4;gi_wp2;obtain⟨a2,a3,a4,a5,a6,a7,a8⟩:=HA.out;obtain⟨⟨n1,n2⟩,n3,n4⟩:=HV.out.2.2.1;have hkf:KeepsFrom (w.heap.size+3) W2 X:=hsz ▸ HB.out.2.1;have kp:∀ b,b<X.heap.size→b≠w.heap.size+1→v.ownBlock≠some b→(Z2.setCell ⟨w.heap.size+1,0,none⟩ (.slice (some ⟨g5,0,none⟩) n5 cap5)).heap[b]?=X.heap[b]?:=fun b h1 h2 h3=>(a6 b (by omega) h2 h3).trans (hZ1.block b h1)
     have kq:∀ b,b<w.heap.size+1→(Z2.setCell ⟨w.heap.size+1,0,none⟩ (.slice (some ⟨g5,0,none⟩) n5 cap5)).heap[b]?=X.heap[b]?:=fun b h1=>(a5.block b h1).trans (hZ1.block b (by omega))
     refine⟨(ZA hZ1).trans (a4.from _),⟨by omega,fun b hb=>?_⟩,⟨_,a2,?_,⟨a7 _ (by omega) n1,a7 _ (by omega) n2⟩,a7 _ (by omega) n3,a7 _ (by omega) n4⟩,⟨?_,?_⟩,(HB.out.1.trans (hZ1.mono (by omega))).trans (a5.mono (Nat.le_refl _)),hkf.trans ((ZA hZ1).trans (a4.from _)),HB.out.2.2.trans ⟨by omega,fun b hb=>?_⟩⟩
     ·rcases hb with h | rfl
      ·exact kq b h
      ·exact kp _ (by omega) (by omega) n4
     ·rw [List.map_append,Z1d,show rowS S.1 ([T].map (·.1))=frameP ⟨cx,cy⟩ ⟨dx,dy⟩ s t by simp [rowS,hcr.out],show (crossL (pre.map (·.1)) (sidesL m)).length+(rowS S.1 (pre2.map (·.1))++frameP ⟨cx,cy⟩ ⟨dx,dy⟩ s t).length=n5 by rw [← hn5];simp only [List.length_append,hlf];omega,show Za (crossL (pre.map (·.1)) (sidesL m)++(rowS S.1 (pre2.map (·.1))++frameP ⟨cx,cy⟩ ⟨dx,dy⟩ s t))=Za (crossL (pre.map (·.1)) (sidesL m)++rowS S.1 (pre2.map (·.1)))++Za (frameP ⟨cx,cy⟩ ⟨dx,dy⟩ s t) by rw [← List.append_assoc,ZL]]
      exact a3
     ·exact (kp B1 lX1 (by omega) n1).trans HG.out.1
     ·exact (kp B2 lX2 (by omega) n2).trans HG.out.2.1
     ·rcases hb with h | rfl
      ·exact kq b h
      ·exact kp _ (by omega) (by omega) n3
  case done2 =>
   rintro xs X rfl ⟨⟨v,hv1,hv2,hv3⟩,⟨g1,g2⟩,hB3,hKF,hKP⟩;have hrw:(crossL (pre.map (·.1)) (sidesL m)++rowS S.1 ((upto (fun i=>(⟨sideP m i,HPL.out.2 i⟩:PlS)) m.length).map (·.1)))=crossL ((pre++[S]).map (·.1)) (sidesL m):=by
    rw [List.map_append,Z3T];simp [crossL,sidesL,upto,Function.comp_def]
   rw [hrw] at hv2;gi_wp2;rw [hsz] at hKF;exact⟨(hKO.from _).trans hKF,(KeepsP.of_below hA (fun b hb=>by omega)).trans hKP,⟨v,hv1,hv2,hv3.2.1⟩,hB3⟩
  case stop2 =>
   rintro c pre2 X _ hF;exact hF.elim
 case done =>
  rintro D ys W hD rfl ⟨⟨v,hv1,hv2,_⟩,hB1⟩ hK;have hrw:crossL ((upto (fun i=>(⟨sideP l i,HPL.out.1 i⟩:PlS)) l.length).map (·.1)) (sidesL m)=crossP l m:=by
   simp [crossP,sidesL,upto,Function.comp_def]
  rw [hrw] at hv2;have hlen:=Z17 (sidesL m) (sidesL l);have hc:=hv1.cell;have hp:=ownsRow_putObj hv2 (.deferred none) hK rfl;have hsl:(sidesL l).length=l.length:=by simp [sidesL,upto]
  have hsm:(sidesL m).length=m.length:=by simp [sidesL,upto]
  rw [hsl,hsm] at hlen;have hlen3:4*m.length*l.length≤16384:=Nat.mul_le_mul (show 4*m.length≤256 by omega) l64
  have hI:=Z8.own hp (by unfold crossP;omega)
  have HI:=Lib.hid hI;have HK:=Lib.hid hK;have HBL:=Lib.hid ((HBW.out.trans (hB1.mono (by omega))))
  clear hv1 hv2 hB1 hp hI hK hrw;go_wp2;refine⟨by simp,.inl ⟨_,_,rfl,run_takeDeferred HK.out,?_⟩⟩
  exact⟨v,by simp [results,Tryz.f145,go_sem],v,rfl,HI.out,HBL.out.trans (belowK_b (w:=w) (Nat.le_refl _) _ D _ _ (by omega) HK.out rfl rfl)⟩
 case stop =>
  rintro D c pre W hD _ hF hK;exact hF.elim
end
section
open Go.RowKit
section
variable {F:Fence} {n:Nat} {P:Program} {md:Region.Mode} {ops:Array Oper} {S:World→Prop} {Q:Exit→Act→World→Prop} {k:Nat}
theorem Zn (hH:Headed md ops k) {tail:List Oper} {i f:Nat} {oi:Oper} {listed:Array Bool} {a:Act} {w:World} (hi:ops[i]?=some oi) (hin:i<k) (inv:HeadInv md ops k listed)
  (hr:(Region.ready md ops listed).contains i=true) (hf:Region.free md ops listed i=true) (hw:Region.wanted oi (yielded ops a.tmps)=false)
  (h:HeadInv md ops k (listed.setIfInBounds i true)→sched P md ops S (tailL F n P md ops Q k tail) k f (listed.setIfInBounds i true) (a.put oi.dst undef) w):sched P md ops S (tailL F n P md ops Q k tail) k (f+1) listed a w:=by
 have hr':i ∈ Region.ready md ops listed:=by simpa using hr
 exact Z2n hi (Region.noSelect_spec hH.sel) hH.sink hH.chain hH.lt hin (fun _ _ _ hL=>seqB_ready hL.1) f listed a w inv (Region.free_spec hi hf) hr' (.inr ⟨hw,rfl⟩) (h (inv.set hr' hin))
end
theorem HeadInv.put2 {md:Region.Mode} {ops:Array Oper} {k j:Nat} {listed:Array Bool} (inv:HeadInv md ops k listed) (hr:(Region.ready md ops listed).contains j=true) (hlt:j<k):HeadInv md ops k (listed.setIfInBounds j true):=inv.set (by simpa using hr) hlt
end
section
attribute [local irreducible] wpQuiet
open Go.RowKit
noncomputable def cornersTo (l m:List Pt):Nat→List Pt
 | 0=>[]
 | k+1=>if hasB m (nth l k)=true then cornersTo l m k++[nth l k] else cornersTo l m k
noncomputable def cornersP (l m:List Pt):List Pt:=cornersTo l m l.length
theorem Z0g (l m:List Pt):∀ k,(cornersTo l m k).length≤k
 | 0=>by simp [cornersTo]
 | k + 1 => by
  have:=Z0g l m k;simp only [cornersTo]
  split
  ·simp;omega
  ·omega
theorem Z1q {l m : List Pt} {x : Pt} : ∀ k, x ∈ cornersTo l m k ↔ ∃ j, j < k ∧ nth l j = x ∧ hasB m x = true
 | 0=>by simp [cornersTo]
 | k + 1 => by
  have ih:=Z1q (l:=l) (m:=m) (x:=x) k;simp only [cornersTo];by_cases h:hasB m (nth l k)=true
  ·rw [if_pos h]
   simp only [List.mem_append,List.mem_singleton,ih];constructor
   ·rintro (⟨j,h1,h2,h3⟩ | rfl)
    ·exact⟨j,by omega,h2,h3⟩
    ·exact⟨k,by omega,rfl,h⟩
   ·rintro ⟨j,h1,h2,h3⟩
    by_cases e:j=k
    ·exact .inr (by rw [← h2,e])
    ·exact .inl ⟨j,by omega,h2,h3⟩
  ·rw [if_neg h,ih]
   constructor
   ·rintro ⟨j,h1,h2,h3⟩;exact⟨j,by omega,h2,h3⟩
   ·rintro ⟨j,h1,h2,h3⟩
    refine⟨j,?_,h2,h3⟩;have:j≠k:=by intro e;rw [← h2,e] at h3;exact h h3
    omega
theorem Z02 (vp vq : Value) (l m : List Pt) (w : World) (hp : Z8 w.heap.size w vp l) (hq : Z8 w.heap.size w vq m) (hs : l.length ≤ 1000000) :
  Calls Tryz.prog 115 #[vp,vq] w (PtsQ (cornersP l m) w):=by
 have HQ:=Lib.hid hq;obtain⟨hll,a,cap,rfl,hc⟩:=hp;obtain⟨aq,capq,rfl⟩:=hq.len;have HC:=Lib.hid hc;obtain⟨i0,hi,hz0',hz1',hz2'⟩:=info_parts ptInfo;clear hc hq;go_enter Tryz.func115,Tryz.ntmps115;go_wp2
 go_loopw [5,12] (fun v i wr=>∃ k:Nat,k≤l.length∧i=.int .i64 (k:Int)∧wr.ownsRow w.heap.size 31 2 v (cornersTo l m k).length (Za (cornersTo l m k))∧Below w.heap.size w wr) (fun _ i _=>l.length-(intOf i).toNat)
 case atStart=>exact⟨0,by omega,rfl,World.ownsRow_nil _ _ _ _,Below.refl _ _⟩
 case round =>
  obtain⟨k,hk,rfl,hrow,hB⟩:=hrel;have hzB:=hB.size;by_cases hlt:k<l.length
  ·obtain⟨b,o,rfl,hb,hcc⟩:∃ b o,a=some ⟨b,o,none⟩∧b<w.heap.size∧∀ j,j<l.length→w.cell? ⟨b,o+j*2,none⟩=some (.int .i64 (nth l j).x)∧w.cell? ⟨b,o+j*2+1,none⟩=some (.int .i64 (nth l j).y):=by
    rcases HC.out with h | h
    ·rw [h] at hlt;simp at hlt
    ·exact h
   obtain⟨q0,q1⟩:=hcc k hlt;have e0:=(hB.cell (p:=⟨b,o+k*2,none⟩) hb).trans q0;have e1:=(hB.cell (p:=⟨b,o+k*2+1,none⟩) hb).trans q1;have hlen:=Z0g l m k;have hst:Hid (cornersTo l m (k+1)=if hasB m ⟨(nth l k).x,(nth l k).y⟩=true then cornersTo l m k++[⟨(nth l k).x,(nth l k).y⟩] else cornersTo l m k):=rfl
   obtain⟨cl,hcl⟩:∃ cl,cornersTo l m k=cl:=⟨_,rfl⟩;rw [hcl] at hrow hst hlen;have hBa:=hB.alloc hzB (.cells #[.int .i64 (nth l k).x,.int .i64 (nth l k).y] 31);have hh:=Z0z (.slice aq m.length (m.length+capq)) m ⟨(nth l k).x,(nth l k).y⟩ (wr.alloc (.cells #[.int .i64 (nth l k).x,.int .i64 (nth l k).y] 31)) ((HQ.out.below hBa).mono hBa.size);have hN:=Has.new wr #[.int .i64 (nth l k).x,.int .i64 (nth l k).y] 31;have dk:decide ((k:Int)<(l.length:Int))=true:=by simp;omega
   have kl:(k:Int)<l.length:=by omega
   have k0:(0:Int)≤k:=by omega
   generalize hasE m ⟨(nth l k).x,(nth l k).y⟩=he at *;have HH:=Lib.hid hh;have HR:=Lib.hid (hrow.alloc (.cells #[.int .i64 (nth l k).x,.int .i64 (nth l k).y] 31));have HBa:=Lib.hid hBa;have HN:=Lib.hid hN;clear hcc q0 q1 hrow hh hBa hB hN hcl;cases hin:hasB m ⟨(nth l k).x,(nth l k).y⟩
   ·rw [hin] at HH hst
    clear hin;generalize (nth l k).x=px at *;generalize (nth l k).y=py at *;go_wp2_with fail;refine HH.out.mono ?_;rintro e w2 ⟨rfl,hb2⟩;have R2:=Lib.hid (Zr HR.out hb2);have B2:=zAg HBa hb2;clear hb2;go_wp2;go_roundw
    case rel=>exact⟨k+1,by omega,by go_num,by rw [hst.out];exact R2.out,B2.out⟩
    case measure=>simp [intOf];omega
   ·rw [hin] at HH hst
    clear hin;generalize (nth l k).x=px at *;generalize (nth l k).y=py at *;go_wp2_with fail;refine HH.out.mono ?_;rintro e w2 ⟨rfl,hb2⟩;have R2:=Lib.hid (Zr HR.out hb2);have B2:=zAg HBa hb2;have N2:=HN.out.below hb2 HN.out.lt;have x0:w2.cell? ⟨wr.heap.size,0,none⟩=some (.int .i64 px):=N2.cell (i:=0) rfl;have x1:w2.cell? ⟨wr.heap.size,1,none⟩=some (.int .i64 py):=N2.cell (i:=1) rfl;have hz2:=B2.out.size;clear hb2 N2;go_wp2_with (at_builtin;refine wpList_append_own _ rfl _ _ 23 rfl w.heap.size 31 i0 (.agg #[.int .i64 0,.int .i64 0]) 2 16 Tryz.underlying23 hi hz0' hz1' hz2' rfl (by decide) _ _ _ rfl (R2.out.alloc _) ⟨w2.heap.size,0,none⟩ 1 1 [.int .i64 px,.int .i64 py] rfl rfl (Z1Z _ _ _) (by simp [Value.oneCell']) (by unfold maxLen;omega) (by omega) (by simp;omega) ?_;intro v' w4 hown' hgrow _)
    go_roundw
    case rel =>
     have hb0:Below w.heap.size w2 w4:=((Below.refl w.heap.size w2).alloc (by omega) _).grown hgrow (by simp;omega) (fun j ej=>(R2.out.lt j ej).1)
     refine⟨k+1,by omega,by go_num,?_,B2.out.trans hb0⟩
     rw [hst.out]
     simpa [Za] using hown'
    case measure=>simp [intOf];omega
  ·obtain rfl:k=l.length:=by omega
   have dk:decide ((l.length:Int)<(l.length:Int))=false:=by simp
   have HI:=Lib.hid (Z8.own hrow (by have:=Z0g l m l.length;omega))
   have HB:=Lib.hid hB;clear hrow hB;go_wp2;go_ret;exact⟨_,rfl,HI.out,HB.out⟩
end
end Go.Proofs.YtdolkgihppgpcaaGreat
