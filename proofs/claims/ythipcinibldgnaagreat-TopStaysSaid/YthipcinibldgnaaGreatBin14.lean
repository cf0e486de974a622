/- package cut: frame. | package cut: crossings. | A drawn region: an operation that its guard passes over, taken first. | A drawn region: an operatio .. -/
import Derived.Deep.CutRange
import Derived.Test.YthipcinibldgnaaGreatBin12
import Derived.Test.YthipcinibldgnaaGreatBin13
open Go.Value renaming int->O,pointer->qP,slice->qS
open Go.Obj renaming cells->qC
open Go.IntKind renaming wrap->qW,i64->qL
open Go.Lib renaming hid->qH
open Go.RowKit.Below renaming refl->qK
open Nat renaming le_refl->qN
open And renaming intro->qI
open Go.Act renaming put->qJ
open Go renaming undef->qD
set_option linter.unusedSimpArgs false
set_option maxRecDepth 8000
set_option maxHeartbeats 4000000
namespace Go.Proofs.YthipcinibldgnaaGreat
section
attribute [local irreducible] wpQuiet
open Go.RowKit
def frLo (u v s t:Int):Int:=u+((v-u)*s).fdiv (s-t)
def frHi (u v s t:Int):Int:=u-(-((v-u)*s)).fdiv (s-t)
theorem Z4D (Bs Bt:Nat) (u v s t:Int) (w:World) (hs:w.cell? ⟨Bs,0,none⟩=some (O qL s)) (ht:w.cell? ⟨Bt,0,none⟩=some (O qL t))
  (u1:-500000<=u) (u2:u<=500000) (v1:-500000<=v) (v2:v<=500000) (s1:-2000000000000<=s) (s2:s<=2000000000000) (t1:-2000000000000<=t) (t2:t<=2000000000000) (hne:¬ s-t=0) :
  Calls Tryz.prog 193 #[O qL u,O qL v,qP (some ⟨Bs,0,none⟩),qP (some ⟨Bt,0,none⟩)] w fun e w'=>e=.returned (.agg #[O qL (frLo u v s t),O qL (frHi u v s t)])/\Below w.heap.size w w':=by
 have I:=ZH (a:=v-u) (b:=s) (m:=1000000) (n:=2000000000000) (by omega) (by omega) (by omega) (by omega)
 have B:=fun w1=>Z4L ((v-u)*s) (s-t) w1 (by omega) (by omega) (by omega) (by omega) hne
 have A:=fun w1=>Z4L (-((v-u)*s)) (s-t) w1 (by omega) (by omega) (by omega) (by omega) hne
 have G:=Zav ((v-u)*s) (s-t) (by omega) (by omega) hne
 have F:=Zav (-((v-u)*s)) (s-t) (by omega) (by omega) hne
 have R:qW qL ((v-u)*s)=(v-u)*s:=zW2;have M:qW qL (-((v-u)*s))=-((v-u)*s):=zW2;have L:qW qL (v-u)=v-u:=zW2;have N:qW qL (s-t)=s-t:=zW2;have Q:qW qL (u+((v-u)*s).fdiv (s-t))=frLo u v s t:=zW2;have P:qW qL (u-(-((v-u)*s)).fdiv (s-t))=frHi u v s t:=zW2;have f:=World.block_lt_of_cell? w _ hs;have q:=World.block_lt_of_cell? w _ ht;have D:=Has.new w #[O qL 0,O qL 0] 225;have d:=(qK w.heap.size w).alloc (qN _) (qC #[O qL 0,O qL 0] 225);have j:=cY d hs f;have k:=cY d ht q;have y:=Low.fact j;have E:=Low.fact k;have z:=qH (qI B A);have i:=qH D;have p:=qH d;clear B A I G F D hs ht;generalize frLo u v s t=lo at *;generalize frHi u v s t=hi at *;generalize ((v-u)*s).fdiv (s-t)=q1 at *;generalize (-((v-u)*s)).fdiv (s-t)=q2 at *;go_enter Tryz.func193,Tryz.ntmps193;go_wp2;obtain⟨r,c⟩:∃ r,w.alloc (qC #[O qL 0,O qL 0] 225)=r:=⟨_,rfl⟩;rw [c] at y E j k i p ⊢;have l:=i.out.lt;clear c d
 (refine (wpIn_wide (n:=9)).1 ?_;refine Zn (Zk _) 16 (by kernel_rfl) (by kernel_rfl) (by kernel_rfl) ?_;simp only [List.take_succ_cons,List.take_zero,List.drop_succ_cons,List.drop_zero];(iterate 16 (apply qw3;(case hw=>rfl);(case hval=>(intro w1 hw1 hcx;simp only [Oper.quietAt];go_simp;first | done | (first | (go_at_call 194;with_reducible exact Low.calls_same hw1 (z.out.1 _)) | (go_at_call 194;with_reducible exact Low.calls_same hw1 (z.out.2 _))) | rfl | exact⟨rfl,rfl⟩));simp only [pT]));refine wpQuiet_nil ?_;intro w2 hw2)
 have o:=i.out.below hw2.out l;have x:=p.out.trans (hw2.out.mono p.out.size);refine ZF rfl rfl (g:=w.heap.size) (cells:=#[O qL lo,O qL hi]) rfl rfl o (by kernel_rfl) rfl (by kernel_rfl) ?_
 have h:=Has.put (cells:=#[O qL lo,O qL hi]) o;have J:=Below.setRow x (C:=w.heap.size) (qN _) #[O qL lo,O qL hi];have K:(w2.setRow w.heap.size #[O qL lo,O qL hi]).cell? ⟨w.heap.size,0,none⟩=some (O qL lo):=cX 0 h rfl;have H:(w2.setRow w.heap.size #[O qL lo,O qL hi]).cell? ⟨w.heap.size,1,none⟩=some (O qL hi):=cX 1 h rfl;clear hw2 o h x y E j k;gi_wp2;go_wp2;exact bodyPost_ret (v:=.agg #[O qL lo,O qL hi]) (by simp [results,Tryz.f193,go_sem,K,H]) rfl ⟨rfl,J⟩
def frameP (a b:Pt) (s t:Int):List Pt:=[⟨frLo a.x b.x s t,frLo a.y b.y s t⟩,⟨frLo a.x b.x s t,frHi a.y b.y s t⟩,⟨frHi a.x b.x s t,frLo a.y b.y s t⟩,⟨frHi a.x b.x s t,frHi a.y b.y s t⟩]
theorem Z65 (x y:Int) (W:World):Sem.run Tryz.prog (Instr.index 225 (.agg #[O qL x,O qL y]) (O qL 0)) W=.ok (O qL x) W/\Sem.run Tryz.prog (Instr.index 225 (.agg #[O qL x,O qL y]) (O qL 1)) W=.ok (O qL y) W:=by
 constructor <;> kernel_rfl
theorem Z2P (W:World) (x y:Int):∀ j u,([O qL x,O qL y]:List Value)[j]?=some u->(W.alloc (qC #[O qL x,O qL y] 36)).cell? ((⟨W.heap.size,0,none⟩:Addr).add j)=some u:=by
 have h:=Has.new W #[O qL x,O qL y] 36;exact Z7v (l:=[⟨x,y⟩]) (fun j hj=>by
  obtain rfl:j=0:=by simpa using hj
  exact⟨cX 0 h rfl,cX 1 h rfl⟩)
theorem Zaq (a b : Pt) (s t : Int) (w : World) (pa : Z3 a = true) (pb : Z3 b = true) (s1 : -2000000000000 <= s) (s2 : s <= 2000000000000) (t1 : -2000000000000 <= t) (t2 : t <= 2000000000000) (hne : ¬ s-t = 0) :
  Calls Tryz.prog 188 #[.agg #[O qL a.x,O qL a.y],.agg #[O qL b.x,O qL b.y],O qL s,O qL t] w (PtsQ (frameP a b s t) w):=by
 obtain⟨a1,a2,a3,a4⟩:=Zt pa;obtain⟨b1,b2,b3,b4⟩:=Zt pb;have X:=((((qK w.heap.size w).alloc (qN _) (qC #[O qL a.x,O qL a.y] 36)).alloc (by simp) (qC #[O qL b.x,O qL b.y] 36)).alloc (by simp;omega) (qC #[O qL s] 3)).alloc (by simp;omega) (qC #[O qL t] 3)
 have f1:=fun w1 z A=>Z4D (w.heap.size+1+1) (w.heap.size+1+1+1) a.x b.x s t w1 z A a1 a2 b1 b2 s1 s2 t1 t2 hne
 have f2:=fun w1 z A=>Z4D (w.heap.size+1+1) (w.heap.size+1+1+1) a.y b.y s t w1 z A a3 a4 b3 b4 s1 s2 t1 t2 hne
 have Q:=qH (qI f1 f2);have P:=((Has.new w #[O qL a.x,O qL a.y] 36).below ((((qK (w.heap.size+1) _).alloc (by simp) (qC #[O qL b.x,O qL b.y] 36)).alloc (by simp) (qC #[O qL s] 3)).alloc (by simp) (qC #[O qL t] 3)) (by omega))
 have I:=((Has.new (w.alloc (qC #[O qL a.x,O qL a.y] 36)) #[O qL b.x,O qL b.y] 36).below (((qK (w.heap.size+2) _).alloc (by simp) (qC #[O qL s] 3)).alloc (by simp) (qC #[O qL t] 3)) (by simp))
 have M:=((Has.new ((w.alloc (qC #[O qL a.x,O qL a.y] 36)).alloc (qC #[O qL b.x,O qL b.y] 36)) #[O qL s] 3).below ((qK (w.heap.size+3) _).alloc (by simp) (qC #[O qL t] 3)) (by simp))
 have K:=(Has.new (((w.alloc (qC #[O qL a.x,O qL a.y] 36)).alloc (qC #[O qL b.x,O qL b.y] 36)).alloc (qC #[O qL s] 3)) #[O qL t] 3);simp only [World.size_alloc] at I M K;have Y:((((w.alloc (qC #[O qL a.x,O qL a.y] 36)).alloc (qC #[O qL b.x,O qL b.y] 36)).alloc (qC #[O qL s] 3)).alloc (qC #[O qL t] 3)).heap.size=w.heap.size+4:=by simp
 obtain⟨L,J,o,q,p⟩:=info_parts ptInfo;unfold frameP;generalize frLo a.x b.x s t=xl at *;generalize frHi a.x b.x s t=xh at *;generalize frLo a.y b.y s t=yl at *;generalize frHi a.y b.y s t=yh at *;clear a1 a2 a3 a4 b1 b2 b3 b4 pa pb f1 f2 s1 s2 t1 t2 hne;generalize a.x=ax at *;generalize a.y=ay at *;generalize b.x=bx at *;generalize b.y=by' at *
 obtain⟨f,B⟩:∃ f,((((w.alloc (qC #[O qL ax,O qL ay] 36)).alloc (qC #[O qL bx,O qL by'] 36)).alloc (qC #[O qL s] 3)).alloc (qC #[O qL t] 3))=f:=⟨_,rfl⟩
 rw [B] at X P I M K Y;have HW:=qH B;have U:=qH P;have HB:=qH I;have R:=qH M;have V:=qH K;have S:=qH X;have ix0:=fun x y W=>(Z65 x y W).1
 have ix1:=fun x y W=>(Z65 x y W).2
 clear P I M K B X;go_enter Tryz.func188,Tryz.ntmps188;go_upto_region 3 with fail
 rw [HW.out];have z:f.cell? ⟨w.heap.size,0,none⟩=some (O qL ax):=cX 0 U.out rfl;have A:f.cell? ⟨w.heap.size+1,0,none⟩=some (O qL bx):=cX 0 HB.out rfl;go_wp2_with fail;refine (Q.out.1 _ (cX 0 R.out rfl) (cX 0 V.out rfl)).mono ?_;rintro e w2 ⟨rfl,F⟩;have T:=qH F;clear z A F;go_wp2
 go_loopw [10,22] (fun v i wr=>∃ n:Nat,n<=2/\i=O qL (n:Int)/\wr.ownsRow f.heap.size 36 2 v (2*n) (Za ([⟨xl,yl⟩,⟨xl,yh⟩,⟨xh,yl⟩,⟨xh,yh⟩].take (2*n)))/\Below f.heap.size f wr) (fun _ i _=>2-(intOf i).toNat)
 case atStart=>exact⟨0,by omega,rfl,World.ownsRow_nil _ _ _ _,T.out⟩
 case round =>
  obtain⟨n,hn,rfl,d,h⟩:=hrel;rcases (show n=0\/n=1\/n=2 by omega) with rfl | rfl | rfl
  ·have r:=qH h
   have c:=qH d;have Z:=h.size;have z:wr.cell? ⟨w.heap.size,1,none⟩=some (O qL ay):=(U.out.below h (by omega)).cell (i:=1) rfl
   have A:wr.cell? ⟨w.heap.size+1,1,none⟩=some (O qL by'):=(HB.out.below h (by omega)).cell (i:=1) rfl
   have G:wr.cell? ⟨w.heap.size+1+1,0,none⟩=some (O qL s):=(R.out.below h (by omega)).cell (i:=0) rfl
   have H:wr.cell? ⟨w.heap.size+1+1+1,0,none⟩=some (O qL t):=(V.out.below h (by omega)).cell (i:=0) rfl
   have N:=qH (Q.out.2 wr G H);clear h d G H;go_wp2_with fail;refine N.out.mono ?_;rintro e w3 ⟨rfl,k⟩;have C:=qH (Zz c.out k);have E:=qH (r.out.trans (k.mono r.out.size));clear k z A;go_wp2
   go_loopw [10,31] (fun v j wr=>∃ n:Nat,n<=2/\j=O qL (n:Int)/\wr.ownsRow f.heap.size 36 2 v (0+n) (Za ([⟨xl,yl⟩,⟨xl,yh⟩,⟨xh,yl⟩,⟨xh,yh⟩].take (0+n)))/\Below f.heap.size f wr) (fun _ j _=>2-(intOf j).toNat)
   case atStart=>exact⟨0,by omega,rfl,C.out,E.out⟩
   case round =>
    obtain⟨n,hn,rfl,d,g⟩:=hrel;rcases (show n=0\/n=1\/n=2 by omega) with rfl | rfl | rfl
    ·have c:=qH d
     have u:=qH g;have D:=g.size;clear d g;go_wp2_with (at_builtin;refine wpList_append_own _ rfl _ _ 23 rfl f.heap.size 36 L (.agg #[.int .i64 0,.int .i64 0]) 2 16 Tryz.underlying23 J o q p rfl (by decide) _ _ _ rfl (c.out.alloc _) ⟨wr.heap.size,0,none⟩ 1 1 [.int .i64 xl,.int .i64 yl] rfl rfl (Z2P _ _ _) (by simp [Value.oneCell']) (by unfold maxLen;omega) (by omega) (by simp;omega) ?_;intro v' w4 hown' hgrow _)
     go_roundw
     case rel =>
      have m:Below f.heap.size wr w4:=((qK f.heap.size wr).alloc (by omega) _).grown hgrow (by simp;omega) (fun j ej=>(c.out.lt j ej).1)
      exact⟨1,by omega,rfl,hown',u.out.trans m⟩
     case measure=>simp [intOf]
    ·have c:=qH d
     have u:=qH g;have D:=g.size;clear d g;go_wp2_with (at_builtin;refine wpList_append_own _ rfl _ _ 23 rfl f.heap.size 36 L (.agg #[.int .i64 0,.int .i64 0]) 2 16 Tryz.underlying23 J o q p rfl (by decide) _ _ _ rfl (c.out.alloc _) ⟨wr.heap.size,0,none⟩ 1 1 [.int .i64 xl,.int .i64 yh] rfl rfl (Z2P _ _ _) (by simp [Value.oneCell']) (by unfold maxLen;omega) (by omega) (by simp;omega) ?_;intro v' w4 hown' hgrow _)
     go_roundw
     case rel =>
      have m:Below f.heap.size wr w4:=((qK f.heap.size wr).alloc (by omega) _).grown hgrow (by simp;omega) (fun j ej=>(c.out.lt j ej).1)
      exact⟨2,by omega,rfl,hown',u.out.trans m⟩
     case measure=>simp [intOf]
    ·have c:=qH d
     have u:=qH g;clear d g;go_wp2;go_roundw
     case rel=>exact⟨1,by omega,rfl,c.out,u.out⟩
     case measure=>simp [intOf]
  ·have r:=qH h
   have c:=qH d;have Z:=h.size;have z:wr.cell? ⟨w.heap.size,1,none⟩=some (O qL ay):=(U.out.below h (by omega)).cell (i:=1) rfl
   have A:wr.cell? ⟨w.heap.size+1,1,none⟩=some (O qL by'):=(HB.out.below h (by omega)).cell (i:=1) rfl
   have G:wr.cell? ⟨w.heap.size+1+1,0,none⟩=some (O qL s):=(R.out.below h (by omega)).cell (i:=0) rfl
   have H:wr.cell? ⟨w.heap.size+1+1+1,0,none⟩=some (O qL t):=(V.out.below h (by omega)).cell (i:=0) rfl
   have N:=qH (Q.out.2 wr G H);clear h d G H;go_wp2_with fail;refine N.out.mono ?_;rintro e w3 ⟨rfl,k⟩;have C:=qH (Zz c.out k);have E:=qH (r.out.trans (k.mono r.out.size));clear k z A;go_wp2
   go_loopw [10,31] (fun v j wr=>∃ n:Nat,n<=2/\j=O qL (n:Int)/\wr.ownsRow f.heap.size 36 2 v (2+n) (Za ([⟨xl,yl⟩,⟨xl,yh⟩,⟨xh,yl⟩,⟨xh,yh⟩].take (2+n)))/\Below f.heap.size f wr) (fun _ j _=>2-(intOf j).toNat)
   case atStart=>exact⟨0,by omega,rfl,C.out,E.out⟩
   case round =>
    obtain⟨n,hn,rfl,d,g⟩:=hrel;rcases (show n=0\/n=1\/n=2 by omega) with rfl | rfl | rfl
    ·have c:=qH d
     have u:=qH g;have D:=g.size;clear d g;go_wp2_with (at_builtin;refine wpList_append_own _ rfl _ _ 23 rfl f.heap.size 36 L (.agg #[.int .i64 0,.int .i64 0]) 2 16 Tryz.underlying23 J o q p rfl (by decide) _ _ _ rfl (c.out.alloc _) ⟨wr.heap.size,0,none⟩ 1 1 [.int .i64 xh,.int .i64 yl] rfl rfl (Z2P _ _ _) (by simp [Value.oneCell']) (by unfold maxLen;omega) (by omega) (by simp;omega) ?_;intro v' w4 hown' hgrow _)
     go_roundw
     case rel =>
      have m:Below f.heap.size wr w4:=((qK f.heap.size wr).alloc (by omega) _).grown hgrow (by simp;omega) (fun j ej=>(c.out.lt j ej).1)
      exact⟨1,by omega,rfl,hown',u.out.trans m⟩
     case measure=>simp [intOf]
    ·have c:=qH d
     have u:=qH g;have D:=g.size;clear d g;go_wp2_with (at_builtin;refine wpList_append_own _ rfl _ _ 23 rfl f.heap.size 36 L (.agg #[.int .i64 0,.int .i64 0]) 2 16 Tryz.underlying23 J o q p rfl (by decide) _ _ _ rfl (c.out.alloc _) ⟨wr.heap.size,0,none⟩ 1 1 [.int .i64 xh,.int .i64 yh] rfl rfl (Z2P _ _ _) (by simp [Value.oneCell']) (by unfold maxLen;omega) (by omega) (by simp;omega) ?_;intro v' w4 hown' hgrow _)
     go_roundw
     case rel =>
      have m:Below f.heap.size wr w4:=((qK f.heap.size wr).alloc (by omega) _).grown hgrow (by simp;omega) (fun j ej=>(c.out.lt j ej).1)
      exact⟨2,by omega,rfl,hown',u.out.trans m⟩
     case measure=>simp [intOf]
    ·have c:=qH d
     have u:=qH g;clear d g;go_wp2;go_roundw
     case rel=>exact⟨2,by omega,rfl,c.out,u.out⟩
     case measure=>simp [intOf]
  ·have hI:=Z7.own (l:=[⟨xl,yl⟩,⟨xl,yh⟩,⟨xh,yl⟩,⟨xh,yh⟩]) d (by simp)
   have HI:=qH hI;have HX:=zAd S h;clear hI d h;go_wp2;go_ret;exact⟨_,rfl,HI.out,HX.out⟩
end
section
attribute [local go_sem] Oper.semAt_some
attribute [local irreducible] wpQuiet
open Go.RowKit
def crossST (S T:Pt × Pt):List Pt :=
 if (crossB (Z5 S.1 S.2 T.1) (Z5 S.1 S.2 T.2) && crossB (Z5 T.1 T.2 S.1) (Z5 T.1 T.2 S.2))=true then frameP T.1 T.2 (Z5 S.1 S.2 T.1) (Z5 S.1 S.2 T.2) else []
def sidesL (l:List Pt):List (Pt × Pt):=upto (sideP l) l.length
def rowS (S:Pt × Pt) (ts:List (Pt × Pt)):List Pt:=ts.flatMap (crossST S)
def crossL (ss ts:List (Pt × Pt)):List Pt:=ss.flatMap (fun S=>rowS S ts)
def crossP (l m:List Pt):List Pt:=crossL (sidesL l) (sidesL m)
theorem Z79 (S T:Pt × Pt):(crossST S T).length<=4:=by unfold crossST;split <;> simp [frameP]
theorem Z4W (S:Pt × Pt):∀ ts,(rowS S ts).length<=4*ts.length
 | []=>by simp [rowS]
 | T :: ts => by
  have h:=Z4W S ts;have e:=Z79 S T;simp only [rowS,List.flatMap_cons,List.length_append,List.length_cons] at *;omega
theorem Z1L (ts:List (Pt × Pt)):∀ ss,(crossL ss ts).length<=4*ts.length*ss.length
 | []=>by simp [crossL]
 | S :: ss => by
  have h:=Z1L ts ss;have e:=Z4W S ts;simp only [crossL,List.flatMap_cons,List.length_append,List.length_cons] at *;rw [Nat.mul_add,Nat.mul_one];omega
theorem Z1R (S:Pt × Pt) (ts us:List (Pt × Pt)):rowS S (ts++us)=rowS S ts++rowS S us:=by simp [rowS]
theorem Z5r (ts ss rs:List (Pt × Pt)):crossL (ss++rs) ts=crossL ss ts++crossL rs ts:=by simp [crossL]
theorem Z49 {β:Type} {p:Nat->Prop} {Bb:Nat} (A:World) (hp:∀ b,p b->b<A.heap.size/\b<Bb):OwnFrom Bb (fun (_:β) W=>KeepsP p A W) :=
 fun _ X Y row hs hg hr=>⟨Nat.le_trans hs.1 hg.size,fun b hb=>(hg.block b (Nat.lt_of_lt_of_le (hp b hb).1 hs.1) (fun e=>by have:=(hr b e.symm).1;have:=(hp b hb).2;omega)).trans (hs.2 b hb)⟩
theorem Zaj {β:Type} (Bb:Nat) (cs:Array Value) (t:TypeId):Own (fun (_:β) W=>Has W Bb cs t):=fun _ _ _ _ hs hg hrow=>Z0v hs hg hrow
theorem Z7m {a b c:Pt} (pa:-500000<=a.x/\a.x<=500000/\-500000<=a.y/\a.y<=500000) (pb:-500000<=b.x/\b.x<=500000/\-500000<=b.y/\b.y<=500000) (pc:-500000<=c.x/\c.x<=500000/\-500000<=c.y/\c.y<=500000) :
  -2000000000000<=turnV a.x a.y b.x b.y c.x c.y/\turnV a.x a.y b.x b.y c.x c.y<=2000000000000:=by
 have p:=ZH (a:=b.x-a.x) (b:=c.y-a.y) (m:=1000000) (n:=1000000) (by omega) (by omega) (by omega) (by omega)
 have q:=ZH (a:=b.y-a.y) (b:=c.x-a.x) (m:=1000000) (n:=1000000) (by omega) (by omega) (by omega) (by omega)
 unfold turnV;omega
theorem Z6n {W:World} {Bb:Nat} {t:TypeId} {u v:Value} (h:Boxed W Bb t u) (k:Boxed W Bb t v):u=v:=by
 have e:=h.cell.symm.trans k.cell
 simpa using e
theorem Zdm {W w1:World} {n₀ Bo:Nat} {t e:TypeId} {size:Nat} {v v':Value} {k m:Nat} {xs ys:List Value}
  (hv:Boxed W Bo t v) (hte:t≠e) (hrow:W.ownsRow n₀ e size v k xs) (hn₀:n₀<=W.heap.size) (hB:n₀<=Bo) (hown':w1.ownsRow n₀ e size v' m ys) (hgrow:W.grownBy w1 v.ownBlock) (ho:v'.ownBlock=v.ownBlock\/v'.ownBlock=some W.heap.size) :
  Boxed w1 Bo t v/\Boxed (w1.setCell ⟨Bo,0,none⟩ v') Bo t v'/\(w1.setCell ⟨Bo,0,none⟩ v').ownsRow n₀ e size v' m ys/\KeepsOthers W (w1.setCell ⟨Bo,0,none⟩ v')/\Below n₀ W (w1.setCell ⟨Bo,0,none⟩ v') /\
   (∀ b,b<W.heap.size->b≠Bo->v.ownBlock≠some b->(w1.setCell ⟨Bo,0,none⟩ v').heap[b]?=W.heap[b]?)/\(∀ b,b<W.heap.size->v.ownBlock≠some b->v'.ownBlock≠some b)/\W.heap.size<=(w1.setCell ⟨Bo,0,none⟩ v').heap.size:=by
 have a:Boxed w1 Bo t v:=hv.kept hgrow (hv.not_row hte hrow);refine⟨a,a.set v',hown'.kept (grownBy_setCell' w1 Bo v') (.inr (a.not_row hte hown').symm),?_,?_,fun b hb hne hrw=>?_,fun b hb hrw=>?_,by simpa using hgrow.size⟩
 ·refine (KeepsOthers.of_grownBy hgrow fun j o ej hj=>?_).trans (KeepsOthers.setCell _ _ _)
  rcases hrow.2 with⟨rfl,_⟩ | ⟨g,d,f,rfl,_,c,_⟩
  ·simp [Value.ownBlock] at ej
  ·obtain rfl:g=j:=by simpa [Value.ownBlock] using ej
   rw [c] at hj;cases hj;rfl
 ·exact ((qK n₀ W).grown hgrow hn₀ fun j ej=>(hrow.lt j ej).1).setCell (p:=⟨Bo,0,none⟩) hB v'
 ·exact (Below.heap_setCell w1 ⟨Bo,0,none⟩ v' b hne).trans (hgrow.block b hb (fun e'=>hrw e'.symm))
 ·rcases ho with ho | ho
  ·rw [ho];exact hrw
  ·rw [ho];intro e';cases e';omega
theorem Zo {P:Program} {ops:Array Oper} {i:Nat} {o:Oper} {a:Act} {w:World} {f:Nat} {args:Array Value} {Q:Ending->World->Prop} {K:Act->World->Prop} (hi:ops[i]?=some o) (hw:Region.wanted o (yielded ops a.tmps)=true) (hv:(execOp a.eval o).run P w=.ok (.enter f args) w)
  (hc:Calls P f args w Q) (h:∀ e w',Q e w'->∃ v,e=.returned v/\K (a.put o.dst v) w'):okOp P ops i K a w:=by
 unfold okOp;simp only [hi];rw [if_pos hw,hv];exact hc.mono h
theorem Z2m (vp vq : Value) (l m : List Pt) (w : World) (hp : Z7 w.heap.size w vp l) (hq : Z7 w.heap.size w vq m) (hl : Zb l = true) (hm : Zb m = true) :
  Calls Tryz.prog 174 #[vp,vq] w (PtsQ (crossP l m) w):=by
 have GL:GoValid l:=by simpa [Zb] using hl
 have GM:GoValid m:=by simpa [Zb] using hm
 have hpl:∀ i,Z3 (sideP l i).1=true/\Z3 (sideP l i).2=true:=fun i=>⟨Z0i (fun k hk=>(GL.2.2.1 k hk).1) _,Z0i (fun k hk=>(GL.2.2.1 k hk).1) _⟩
 have hpm:∀ i,Z3 (sideP m i).1=true/\Z3 (sideP m i).2=true:=fun i=>⟨Z0i (fun k hk=>(GM.2.2.1 k hk).1) _,Z0i (fun k hk=>(GM.2.2.1 k hk).1) _⟩
 have l64:l.length<=64:=GL.2.1;have m64:m.length<=64:=GM.2.1;have HPL:=qH (qI hpl hpm);have HP:=qH (qI hp hq);obtain⟨ap,E,rfl⟩:=hp.len;obtain⟨aq,d,rfl⟩:=hq.len;obtain⟨i0,hi,hz0',hz1',hz2'⟩:=info_parts ptInfo;have hQ:=(Has.new w #[qS aq m.length (m.length+d)] 23).below (((qK (w.heap.size+1) _).alloc (by simp) (qC #[qS none 0 0] 23)).alloc (by simp) (qC #[qS ap l.length (l.length+E)] 23)) (by omega)
 have hO:=(Boxed.new (w.alloc (qC #[qS aq m.length (m.length+d)] 23)) 23 (qS none 0 0)).alloc (qC #[qS ap l.length (l.length+E)] 23);have hS:=Boxed.new ((w.alloc (qC #[qS aq m.length (m.length+d)] 23)).alloc (qC #[qS none 0 0] 23)) 23 (qS ap l.length (l.length+E));simp only [World.size_alloc] at hO hS;have hBW:=(((qK w.heap.size w).alloc (qN _) (qC #[qS aq m.length (m.length+d)] 23)).alloc (by simp) (qC #[qS none 0 0] 23)).alloc (by simp;omega) (qC #[qS ap l.length (l.length+E)] 23)
 have hsz:(((w.alloc (qC #[qS aq m.length (m.length+d)] 23)).alloc (qC #[qS none 0 0] 23)).alloc (qC #[qS ap l.length (l.length+E)] 23)).heap.size=w.heap.size+3:=by simp
 obtain⟨W0,hW0⟩:∃ W0,((w.alloc (qC #[qS aq m.length (m.length+d)] 23)).alloc (qC #[qS none 0 0] 23)).alloc (qC #[qS ap l.length (l.length+E)] 23)=W0:=⟨_,rfl⟩;rw [hW0] at hQ hO hS hBW hsz;have HW:=qH hW0;have HQ:=qH hQ;have HO:=qH hO;have HS:=qH hS;have HBW:=qH hBW;clear hp hq GL GM hpl hpm hQ hO hS hBW hW0 hl hm;refine (callsIn_wide (n:=9)).1 ?_;refine callsIn_of_wp_marks Tryz.func174 rfl trivial ?_ rfl;simp only [Tryz.ntmps174,List.size_toArray,List.length_cons,List.length_nil,Nat.reduceAdd,Nat.reduceSub,Array.replicate_succ,Array.replicate_zero,List.push_toArray,List.append_toArray,List.nil_append,List.cons_append];refine wpIn_wide.2 ?_;go_wp2_with (go_at_call 185;refine (Z4E _ _ _ _).mono ?_;rintro e w' ⟨rfl,rfl⟩);rw [HW.out];refine (wpIn_wide (n:=9)).1 ?_;refine wpIn_rangeFunc_ownH rfl (by omega) (gf:=192) (lb:=#[qP (some ⟨w.heap.size+1+1,0,none⟩)]) rfl trivial (enters_of Tryz.func192 (by kernel_rfl) rfl)
  (Z2W (fun s:PlS=>encS s.1) (fun i=>⟨sideP l i,HPL.out.1 i⟩) 8 (by omega) (fun b=>b<w.heap.size+1\/b=w.heap.size+1+1) (w.heap.size+1+1) (w.heap.size+1) _ l _ (.inr rfl) (fun b h=>.inl h) (fun b h=>by omega) HS.out.cell ((HP.out.1.below HBW.out).mono (by omega)) (fun _ _=>rfl))
  (fun h k=>h.trans k) (fun W l' o o' hl' _ _ _=>KeepsP.putObj o' (fun b M=>by omega)) (qK _ _) (fun _=>rfl)
  (fun C W=>(∃ v,Boxed W (w.heap.size+1) 23 v/\W.ownsRow (w.heap.size+1) 36 2 v (crossL (C.map (·.1)) (sidesL m)).length (Za (crossL (C.map (·.1)) (sidesL m)))/\v.ownBlock≠some (w.heap.size+1+1))/\Below (w.heap.size+1) W0 W)
  (fun _ _ _=>False)
  (OwnFrom.and (Own.from (holdsRow_own _ _ _ _ _ _ _ (fun _ v=>v.ownBlock≠some (w.heap.size+1+1))) _) (ownFrom_below (by omega) (by omega)))
  (fun c=>ownFrom_pure _ (fun _=>False))
  ⟨⟨_,HO.out,World.ownsRow_nil _ _ _ _,by simp [Value.ownBlock]⟩,qK _ _⟩
  (fun x a' W=>∃ B1 B2,(Has W B1 #[O qL x.1.1.x,O qL x.1.1.y] 36/\Has W B2 #[O qL x.1.2.x,O qL x.1.2.y] 36)/\(W0.heap.size<=B1/\W0.heap.size<=B2)/\(∃ u,Boxed W (w.heap.size+1) 23 u/\u.ownBlock≠some B1/\u.ownBlock≠some B2)/\a'={ tmps:=#[qS ap l.length (l.length+E),qS aq m.length (m.length+d),qD,qP (some ⟨w.heap.size,0,none⟩),qS none 0 0,qP (some ⟨w.heap.size+1,0,none⟩),qP (some ⟨B1,0,none⟩),qP (some ⟨B2,0,none⟩),qD,qD,qD,qD,qS ap l.length (l.length+E),.func (.func 192) #[] #[qP (some ⟨w.heap.size+1+1,0,none⟩)],.agg #[O qL x.1.1.x,O qL x.1.1.y],.agg #[O qL x.1.2.x,O qL x.1.2.y],qD,qD,qD,qD,qD,qD,qD,qD,qD,qD,qD,qD,qD,qD,qD,qD,qD,qD,qD,qD,qD,qD,qD,qD,qD,qD,qD,qD,qD,qD,qD,qD,qD,qD],defers:=[] })
  (fun x a' _ X Y row hs hg hr=>by obtain⟨B1,B2,⟨V,U⟩,g3,⟨u,g4,g5⟩,g6⟩:=hs;exact⟨B1,B2,⟨Z0v V hg (fun r e=>(hr r e).2),Z0v U hg (fun r e=>(hr r e).2)⟩,g3,⟨u,boxed_own (β:=Unit) _ _ (fun _=>_) () X Y row g4 hg (fun r e=>(hr r e).2),g5⟩,g6⟩)
  ?assign ?body ?done ?stop
 case assign =>
  rintro ll C x W K ⟨⟨v,A,f,hvw⟩,L⟩ hK;unfold encS;gi_wp2;have hzW:=L.size;exact hK _ _ (((KeepsOthers.alloc _ _).trans (KeepsOthers.alloc _ _)).from _) (KeepsP.of_below (((qK (w.heap.size+3) W).alloc (by omega) _).alloc (by simp;omega) _) (fun b M=>by omega))
   ⟨⟨v,(A.alloc _).alloc _,(f.alloc _).alloc _,hvw⟩,(L.alloc (by omega) _).alloc (by simp;omega) _⟩
   ⟨W.heap.size,W.heap.size+1,⟨Has.below (Has.new W _ _) ((qK (W.heap.size+1) _).alloc (by simp) _) (by omega),by have:=Has.new (W.alloc (qC #[O qL x.1.1.x,O qL x.1.1.y] 36)) #[O qL x.1.2.x,O qL x.1.2.y] 36;rwa [World.size_alloc] at this⟩,⟨by omega,by omega⟩,⟨v,(A.alloc _).alloc _,fun e=>(by have:=(f.lt _ e).2;omega),fun e=>(by have:=(f.lt _ e).2;omega)⟩,rfl⟩
 case body =>
  rintro ll C ⟨⟨⟨N,Q⟩,⟨P,z⟩⟩,hxx⟩ a' W hll ⟨r,hr⟩ ⟨⟨v,A,f,hvw⟩,L⟩ ⟨B1,B2,⟨V,U⟩,⟨hb1,hb2⟩,⟨u,hu1,hu2⟩,rfl⟩ hlt
  obtain rfl:=Z6n hu1 A;dsimp only at V U ⊢;have pa:=Zt hxx.1;have pb:=Zt hxx.2;dsimp only at pa pb;obtain⟨S,hS⟩:∃ S:PlS,S=⟨(⟨N,Q⟩,⟨P,z⟩),hxx⟩:=⟨_,rfl⟩
  rw [<- hS];have HSS:=qH (show S.1=(⟨N,Q⟩,⟨P,z⟩) by rw [hS])
  clear hS;have hzW:=L.size;have hBWW:=HBW.out.trans (L.mono (by omega))
  have hq0:=HQ.out.below L (by omega)
  have cq:W.cell? ⟨w.heap.size,0,none⟩=some (qS aq m.length (m.length+d)):=cX 0 hq0 rfl;have hll':=qH hll;have hr':=qH hr;have hV1:=qH A;have hV2:=qH f;have hG:=qH (qI V U);have hU:=qH (qI hu2 (qI hvw (show u.ownBlock≠some W.heap.size from fun e=>by have:=(f.lt _ e).2;omega)))
  have hBB1:=qH L;have hBBW:=qH hBWW;have hlt':=qH hlt;have lB1:=V.lt;have lB2:=U.lt;clear hll hr A f hvw V U hu1 hu2 L hBWW hq0 hlt hxx
  gi_wp2_with (refine⟨trivial,?_⟩;gi_at_call 185;refine (CallsIn.inRound ll (callsIn_wide.2 (Z4E _ _ _ _))).mono ?_;rintro e w' ⟨rfl,rfl⟩)
  have hA:=(qK W.heap.size W).alloc (qN _) (qC #[qS aq m.length (m.length+d)] 23);have bN:=Boxed.new W 23 (qS aq m.length (m.length+d));have hV1':=hV1.out.alloc (qC #[qS aq m.length (m.length+d)] 23);have hV2':=hV2.out.alloc (qC #[qS aq m.length (m.length+d)] 23);have hzz:(W.alloc (qC #[qS aq m.length (m.length+d)] 23)).heap.size=W.heap.size+1:=by simp
  have hKO:=KeepsOthers.alloc W (qC #[qS aq m.length (m.length+d)] 23);obtain⟨W2,hW2⟩:∃ W2,W.alloc (qC #[qS aq m.length (m.length+d)] 23)=W2:=⟨_,rfl⟩;rw [hW2] at hA bN hV1' hV2' hzz hKO ⊢;clear hW2;have hL2:=(hA.block ll (Array.getElem?_eq_some_iff.1 hr'.out).1).trans hr'.out;have hB2:=hBBW.out.trans (hA.mono hBBW.out.size);refine wpIn_rangeFunc_ownN (l₀:=ll) rfl hL2 (by omega) (gf:=192) (lb:=#[qP (some ⟨W.heap.size,0,none⟩)]) rfl trivial (enters_of Tryz.func192 (by kernel_rfl) rfl)
   ((Z2W (fun s:PlS=>encS s.1) (fun i=>⟨sideP m i,HPL.out.2 i⟩) 6 (by omega) (fun b=>b<w.heap.size+1\/b=W.heap.size) W.heap.size (w.heap.size+1) _ m _ (.inr rfl) (fun b h=>.inl h) (fun b h=>by omega) bN.cell ((HP.out.2.below hB2).mono (by omega)) (fun _ _=>rfl)).inRound ll)
   (fun h k=>h.trans k) (fun W' l' o o' hl' _ _ _=>KeepsP.putObj o' (fun b M=>by omega)) (qK _ _) (fun _=>rfl)
   (fun B X=>(∃ v,Boxed X (w.heap.size+1) 23 v/\X.ownsRow (w.heap.size+1) 36 2 v (crossL (C.map (·.1)) (sidesL m)++rowS S.1 (B.map (·.1))).length (Za (crossL (C.map (·.1)) (sidesL m)++rowS S.1 (B.map (·.1))))/\((v.ownBlock≠some B1/\v.ownBlock≠some B2)/\(v.ownBlock≠some (w.heap.size+1+1)/\v.ownBlock≠some W.heap.size))) /\
    ((Has X B1 #[O qL N,O qL Q] 36/\Has X B2 #[O qL P,O qL z] 36)/\(Below (w.heap.size+1) W0 X/\(KeepsFrom W0.heap.size W2 X/\KeepsP (fun b=>b<w.heap.size+1\/b=w.heap.size+1+1) W2 X))))
   (fun _ _ _=>False)
   (OwnFrom.and (Own.from (holdsRow_own _ _ _ _ _ _ _ (fun _ v=>(v.ownBlock≠some B1/\v.ownBlock≠some B2)/\(v.ownBlock≠some (w.heap.size+1+1)/\v.ownBlock≠some W.heap.size))) _) (OwnFrom.and (OwnFrom.and (Own.from (Zaj _ _ _) _) (Own.from (Zaj _ _ _) _)) (OwnFrom.and (ownFrom_below (by omega) (by omega)) (OwnFrom.and (ownFrom_keepsFrom (qN _)) (Z49 _ (fun b M=>by omega))))))
   (fun c=>ownFrom_pure _ (fun _=>False))
   ⟨⟨u,hV1',by simpa [rowS] using hV2',hU.out⟩,⟨hG.out.1.below hA lB1,hG.out.2.below hA lB2⟩,hBB1.out.trans (hA.mono (by omega)),KeepsFrom.refl _ _,KeepsP.refl _ _⟩
   (fun y a' X=>∃ B3 B4,(Has X B3 #[O qL y.1.1.x,O qL y.1.1.y] 36/\Has X B4 #[O qL y.1.2.x,O qL y.1.2.y] 36)/\(W2.heap.size<=B3/\W2.heap.size<=B4)/\(∃ u,Boxed X (w.heap.size+1) 23 u/\u.ownBlock≠some B3/\u.ownBlock≠some B4)/\a'={ tmps:=#[qS ap l.length (l.length+E),qS aq m.length (m.length+d),qD,qP (some ⟨w.heap.size,0,none⟩),qS none 0 0,qP (some ⟨w.heap.size+1,0,none⟩),qP (some ⟨B1,0,none⟩),qP (some ⟨B2,0,none⟩),qP (some ⟨B3,0,none⟩),qP (some ⟨B4,0,none⟩),qD,qD,qS ap l.length (l.length+E),.func (.func 192) #[] #[qP (some ⟨w.heap.size+1+1,0,none⟩)],.agg #[O qL N,O qL Q],.agg #[O qL P,O qL z],qS aq m.length (m.length+d),.func (.func 192) #[] #[qP (some ⟨W.heap.size,0,none⟩)],.agg #[O qL y.1.1.x,O qL y.1.1.y],.agg #[O qL y.1.2.x,O qL y.1.2.y],qD,qD,qD,qD,qD,qD,qD,qD,qD,qD,qD,qD,qD,qD,qD,qD,qD,qD,qD,qD,qD,qD,qD,qD,qD,qD,qD,qD,qD,qD],defers:=[] })
   (fun x a' _ X Y row hs hg hr=>by obtain⟨B3,B4,⟨V,U⟩,g3,⟨u,g4,g5⟩,g6⟩:=hs;exact⟨B3,B4,⟨Z0v V hg (fun r e=>(hr r e).2),Z0v U hg (fun r e=>(hr r e).2)⟩,g3,⟨u,boxed_own (β:=Unit) _ _ (fun _=>_) () X Y row g4 hg (fun r e=>(hr r e).2),g5⟩,g6⟩)
   ?assign2 ?body2 ?done2 ?stop2
  case assign2 =>
   rintro ll2 B y X K ⟨⟨v,A,f,hv3⟩,⟨V,U⟩,aa,R,hKP⟩ hK;unfold encS;gi_wp2;have hzX:=R.size;have hzX2:=aa.size;have lX1:=V.lt;have lX2:=U.lt;have hal:=((qK X.heap.size X).alloc (qN _) (qC #[O qL y.1.1.x,O qL y.1.1.y] 36)).alloc (by simp) (qC #[O qL y.1.2.x,O qL y.1.2.y] 36)
   have hko:=(KeepsOthers.alloc X (qC #[O qL y.1.1.x,O qL y.1.1.y] 36)).trans (KeepsOthers.alloc _ (qC #[O qL y.1.2.x,O qL y.1.2.y] 36));exact hK _ _ (hko.from _) (KeepsP.of_below hal (fun b M=>by omega))
    ⟨⟨v,(A.alloc _).alloc _,(f.alloc _).alloc _,hv3⟩,⟨V.below hal lX1,U.below hal lX2⟩,aa.trans (hal.mono (by omega)),R.trans (hko.from _),hKP.trans (KeepsP.of_below hal (fun b M=>by omega))⟩
    ⟨X.heap.size,X.heap.size+1,⟨Has.below (Has.new X _ _) ((qK (X.heap.size+1) _).alloc (by simp) _) (by omega),by have:=Has.new (X.alloc (qC #[O qL y.1.1.x,O qL y.1.1.y] 36)) #[O qL y.1.2.x,O qL y.1.2.y] 36;rwa [World.size_alloc] at this⟩,⟨by omega,by omega⟩,⟨v,(A.alloc _).alloc _,fun e=>(by have:=(f.lt _ e).2;omega),fun e=>(by have:=(f.lt _ e).2;omega)⟩,rfl⟩
  case body2 =>
   rintro ll2 B ⟨⟨⟨H,G⟩,⟨F,I⟩⟩,hyy⟩ a' X hll2 ⟨r2,hr2⟩ ⟨⟨v,A,f,hv3⟩,⟨V,U⟩,aa,R,hKP⟩ ⟨B3,B4,⟨g3,g4⟩,⟨hb3,hb4⟩,⟨u',hu1,hu2⟩,rfl⟩ hlt2;obtain rfl:=Z6n A hu1;dsimp only at g3 g4 ⊢;have pc:=Zt hyy.1;have pd:=Zt hyy.2;dsimp only at pc pd;obtain⟨T,hT⟩:∃ T:PlS,T=⟨(⟨H,G⟩,⟨F,I⟩),hyy⟩:=⟨_,rfl⟩;rw [<- hT];have HTT:=qH (show T.1=(⟨H,G⟩,⟨F,I⟩) by rw [hT])
   have hyc:=qH hyy;clear hT hyy;have t1:=fun w1=>Z2l N Q P z H G w1 (by omega) (by omega) (by omega) (by omega) (by omega) (by omega) (by omega) (by omega) (by omega) (by omega) (by omega) (by omega)
   have t2:=fun w1=>Z2l N Q P z F I w1 (by omega) (by omega) (by omega) (by omega) (by omega) (by omega) (by omega) (by omega) (by omega) (by omega) (by omega) (by omega)
   have t3:=fun w1=>Z2l H G F I N Q w1 (by omega) (by omega) (by omega) (by omega) (by omega) (by omega) (by omega) (by omega) (by omega) (by omega) (by omega) (by omega)
   have t4:=fun w1=>Z2l H G F I P z w1 (by omega) (by omega) (by omega) (by omega) (by omega) (by omega) (by omega) (by omega) (by omega) (by omega) (by omega) (by omega)
   have bs:=Z7m (a:=⟨N,Q⟩) (b:=⟨P,z⟩) (c:=⟨H,G⟩) pa pb pc
   have bt:=Z7m (a:=⟨N,Q⟩) (b:=⟨P,z⟩) (c:=⟨F,I⟩) pa pb pd
   dsimp only at bs bt;have hcst:Hid (crossST S.1 T.1=if (crossB (turnV N Q P z H G) (turnV N Q P z F I) && crossB (turnV H G F I N Q) (turnV H G F I P z))=true then frameP ⟨H,G⟩ ⟨F,I⟩ (turnV N Q P z H G) (turnV N Q P z F I) else []):=by
    show crossST S.1 T.1=_
    rw [HSS.out,HTT.out];rfl
   generalize turnV N Q P z H G=s at *
   generalize turnV N Q P z F I=t at *
   generalize turnV H G F I N Q=p at *;generalize turnV H G F I P z=q at *
   have HT:=qH (qI t1 (qI t2 (qI t3 t4)));have hzX:=R.size;have hzX2:=aa.size;have lX1:=V.lt;have lX2:=U.lt;have lX3:=g3.lt;have lX4:=g4.lt;have la0:=Low.fact (cX 0 V rfl:X.cell? ⟨B1,0,none⟩=some (O qL N));have la1:=Low.fact (cX 1 V rfl:X.cell? ⟨B1,1,none⟩=some (O qL Q));have lb0:=Low.fact (cX 0 U rfl:X.cell? ⟨B2,0,none⟩=some (O qL P));have lb1:=Low.fact (cX 1 U rfl:X.cell? ⟨B2,1,none⟩=some (O qL z))
   have lc0:=Low.fact (cX 0 g3 rfl:X.cell? ⟨B3,0,none⟩=some (O qL H));have lc1:=Low.fact (cX 1 g3 rfl:X.cell? ⟨B3,1,none⟩=some (O qL G));have ld0:=Low.fact (cX 0 g4 rfl:X.cell? ⟨B4,0,none⟩=some (O qL F));have ld1:=Low.fact (cX 1 g4 rfl:X.cell? ⟨B4,1,none⟩=some (O qL I));have HG:=qH (qI V (qI U (qI g3 g4)));have HV:=qH (qI A (qI f (qI hv3 hu2)));have HB:=qH (qI aa (qI R hKP));have hll2':=qH hll2;have hlt2':=qH hlt2;have hpab:=qH (qI pa pb);clear t1 t2 t3 t4 V U g3 g4 A f hv3 hu1 hu2 aa R hKP hll2 hlt2 hr2 pa pb pc pd;gi_wp2
   (refine Z03 (ZT _ _) (by kernel_rfl) (by kernel_rfl) (by kernel_rfl) ?_;(iterate 10 (apply qw3;(case hw=>rfl);(case hval=>(intro w1 hw1 hcx;simp only [Oper.quietAt];go_simp;first | done | (first | (go_at_call 186;with_reducible exact Low.calls hw1 (HT.out.1 _)) | (go_at_call 186;with_reducible exact Low.calls hw1 (HT.out.2.1 _))) | rfl | exact⟨rfl,rfl⟩));simp only [pT]));refine wpQuiet_nil ?_;intro w2 hw2)
   obtain⟨XX,rfl⟩:∃ XX,XX=w2:=⟨_,rfl⟩;have J:=qH hw2.out;clear la0 la1 lb0 lb1 lc0 lc1 ld0 ld1 hw2;have la0:=Low.fact ((HG.out.1.below J.out lX1).cell (i:=0) rfl:XX.cell? ⟨B1,0,none⟩=some (O qL N));have la1:=Low.fact ((HG.out.1.below J.out lX1).cell (i:=1) rfl:XX.cell? ⟨B1,1,none⟩=some (O qL Q));have lb0:=Low.fact ((HG.out.2.1.below J.out lX2).cell (i:=0) rfl:XX.cell? ⟨B2,0,none⟩=some (O qL P));have lb1:=Low.fact ((HG.out.2.1.below J.out lX2).cell (i:=1) rfl:XX.cell? ⟨B2,1,none⟩=some (O qL z))
   have lc0:=Low.fact ((HG.out.2.2.1.below J.out lX3).cell (i:=0) rfl:XX.cell? ⟨B3,0,none⟩=some (O qL H));have lc1:=Low.fact ((HG.out.2.2.1.below J.out lX3).cell (i:=1) rfl:XX.cell? ⟨B3,1,none⟩=some (O qL G));have ld0:=Low.fact ((HG.out.2.2.2.below J.out lX4).cell (i:=0) rfl:XX.cell? ⟨B4,0,none⟩=some (O qL F));have ld1:=Low.fact ((HG.out.2.2.2.below J.out lX4).cell (i:=1) rfl:XX.cell? ⟨B4,1,none⟩=some (O qL I));gi_wp2;cases c1:crossB s t
   ·have hc1:=qH (fun w1=>(c1 ▸ Z1e s t w1:Calls Tryz.prog 187 #[O qL s,O qL t] w1 fun e w'=>e=.returned (.bool false)/\w1=w'))
    (refine Z03 (ZT _ _) (by kernel_rfl) (by kernel_rfl) (by kernel_rfl) ?_;(iterate 4 (apply qw3;(case hw=>rfl);(case hval=>(intro w1 hw1 hcx;simp only [Oper.quietAt];go_simp;first | done | (first | (go_at_call 187;with_reducible exact Low.calls_same hw1 (hc1.out _))) | rfl | exact⟨rfl,rfl⟩));simp only [pT]));(iterate 9 (apply Zr;(case hw=>rfl);simp only [pT]));(iterate 1 (apply qw3;(case hw=>rfl);(case hval=>(intro w1 hw1 hcx;simp only [Oper.quietAt];go_simp;first | done | (first | (go_at_call 187;with_reducible exact Low.calls_same hw1 (hc1.out _))) | rfl | exact⟨rfl,rfl⟩));simp only [pT]));refine wpQuiet_nil ?_;intro w2 hw2)
    gi_wp2;have g:=J.out.trans (hw2.out.mono J.out.size);refine⟨ZE g,KeepsP.of_below g (fun b M=>by omega),⟨v,Boxed.below HV.out.1 g HV.out.1.lt,?_,HV.out.2.2.1⟩,⟨HG.out.1.below g lX1,HG.out.2.1.below g lX2⟩,HB.out.1.trans (g.mono (by omega)),HB.out.2.1.trans (ZE g),HB.out.2.2.trans (KeepsP.of_below g (fun b M=>by omega))⟩
    rw [List.map_append,Z1R,show rowS S.1 ([T].map (·.1))=[] by simp [rowS,hcst.out,c1],List.append_nil]
    exact Zz HV.out.2.1 g
   ·have hc1:=qH (fun w1=>(c1 ▸ Z1e s t w1:Calls Tryz.prog 187 #[O qL s,O qL t] w1 fun e w'=>e=.returned (.bool true)/\w1=w'))
    cases c2:crossB p q
    ·have hc2:=qH (fun w1=>(c2 ▸ Z1e p q w1:Calls Tryz.prog 187 #[O qL p,O qL q] w1 fun e w'=>e=.returned (.bool false)/\w1=w'))
     (refine Z03 (ZT _ _) (by kernel_rfl) (by kernel_rfl) (by kernel_rfl) ?_;(iterate 14 (apply qw3;(case hw=>rfl);(case hval=>(intro w1 hw1 hcx;simp only [Oper.quietAt];go_simp;first | done | (first | (go_at_call 187;with_reducible exact Low.calls_same hw1 (hc1.out _)) | (go_at_call 187;with_reducible exact Low.calls_same hw1 (hc2.out _)) | (go_at_call 186;with_reducible exact Low.calls hw1 (HT.out.2.2.1 _)) | (go_at_call 186;with_reducible exact Low.calls hw1 (HT.out.2.2.2 _))) | rfl | exact⟨rfl,rfl⟩));simp only [pT]));refine wpQuiet_nil ?_;intro w2 hw2)
     gi_wp2;have g:=J.out.trans (hw2.out.mono J.out.size);refine⟨ZE g,KeepsP.of_below g (fun b M=>by omega),⟨v,Boxed.below HV.out.1 g HV.out.1.lt,?_,HV.out.2.2.1⟩,⟨HG.out.1.below g lX1,HG.out.2.1.below g lX2⟩,HB.out.1.trans (g.mono (by omega)),HB.out.2.1.trans (ZE g),HB.out.2.2.trans (KeepsP.of_below g (fun b M=>by omega))⟩
     rw [List.map_append,Z1R,show rowS S.1 ([T].map (·.1))=[] by simp [rowS,hcst.out,c1,c2],List.append_nil]
     exact Zz HV.out.2.1 g
    ·have hc2:=qH (fun w1=>(c2 ▸ Z1e p q w1:Calls Tryz.prog 187 #[O qL p,O qL q] w1 fun e w'=>e=.returned (.bool true)/\w1=w'))
     (refine Z03 (ZT _ _) (by kernel_rfl) (by kernel_rfl) (by kernel_rfl) ?_;(iterate 14 (apply qw3;(case hw=>rfl);(case hval=>(intro w1 hw1 hcx;simp only [Oper.quietAt];go_simp;first | done | (first | (go_at_call 187;with_reducible exact Low.calls_same hw1 (hc1.out _)) | (go_at_call 187;with_reducible exact Low.calls_same hw1 (hc2.out _)) | (go_at_call 186;with_reducible exact Low.calls hw1 (HT.out.2.2.1 _)) | (go_at_call 186;with_reducible exact Low.calls hw1 (HT.out.2.2.2 _))) | rfl | exact⟨rfl,rfl⟩));simp only [pT]));refine wpQuiet_nil ?_;intro w2 hw2)
     gi_wp2;have hY:=J.out.trans (hw2.out.mono J.out.size);have hne:¬ s-t=0:=by
      simp only [crossB,decide_eq_true_eq] at c1;omega
     have bY:=Boxed.below HV.out.1 hY HV.out.1.lt;have rY:=Zz HV.out.2.1 hY;have g3Y:=HG.out.2.2.1.below hY lX3;have g4Y:=HG.out.2.2.2.below hY lX4;have hcr:Hid (crossST S.1 T.1=frameP ⟨H,G⟩ ⟨F,I⟩ s t):=by
      show crossST S.1 T.1=_
      rw [hcst.out,c1,c2];rfl
     clear la0 la1 lb0 lb1 lc0 lc1 ld0 ld1 hw2 c1 c2;refine Zi (ZT _ _) 7 (fun Z=>Boxed Z (w.heap.size+1) 23 v/\Has Z B3 #[O qL H,O qL G] 36/\Has Z B4 #[O qL F,O qL I] 36) (by kernel_rfl) (by kernel_rfl) (by kernel_rfl) fun hH inv0=>?_
     refine sk hH 0 v (Zd rfl) inv0 (fun X hX=>?_) fun inv1=>?_
     ·have hx:=hX.1.cell;go_simp
     simp only [pT];refine sk hH 1 (.agg #[O qL H,O qL G]) (Zd rfl) inv1 (fun X hX=>?_) fun inv2=>?_
     ·have hx:=hX.2.1.cell (i:=0) rfl;have hy:=hX.2.1.cell (i:=1) rfl;go_simp
     simp only [pT];refine sk hH 2 (.agg #[O qL F,O qL I]) (Zd rfl) inv2 (fun X hX=>?_) fun inv3=>?_
     ·have hx:=hX.2.2.cell (i:=0) rfl;have hy:=hX.2.2.cell (i:=1) rfl;go_simp
     simp only [pT];refine sk hH 3 (O qL s) (Zd rfl) inv3 (fun X hX=>?_) fun inv4=>?_
     ·go_simp
     simp only [pT];refine sk hH 4 (O qL t) (Zd rfl) inv4 (fun X hX=>?_) fun inv5=>?_
     ·go_simp
     simp only [pT];clear inv0 inv1 inv2 inv3 inv4 inv5 hH;have hZ0:=hY.drew;have bZ:Boxed w2.drew (w.heap.size+1) 23 v:=bY;have rZ:=Zz rY (Below.drew (qK w2.heap.size w2));have g3Z:Has w2.drew B3 #[O qL H,O qL G] 36:=g3Y;have g4Z:Has w2.drew B4 #[O qL F,O qL I] 36:=g4Y;generalize w2.drew=Z0 at hZ0 bZ rZ g3Z g4Z ⊢;refine sa1 (r:=5) ⟨bZ,g3Z,g4Z⟩ ?_;refine Zo (Zd rfl) rfl (by go_simp) (Zaq ⟨H,G⟩ ⟨F,I⟩ s t Z0 hyc.out.1 hyc.out.2 bs.1 bs.2 bt.1 bt.2 hne) (fun e Z1 hq=>?_)
     obtain⟨vf,rfl,hI,M⟩:=hq;refine⟨vf,rfl,?_⟩;simp only [pT];obtain⟨_,af,capf,rfl,hcf⟩:=hI;obtain⟨bf,of,rfl,hbf,hcf⟩:∃ b o,af=some ⟨b,o,none⟩/\b<Z1.heap.size/\∀ j,j<(frameP ⟨H,G⟩ ⟨F,I⟩ s t).length->Z1.cell? ⟨b,o+j*2,none⟩=some (O qL (nth (frameP ⟨H,G⟩ ⟨F,I⟩ s t) j).x)/\Z1.cell? ⟨b,o+j*2+1,none⟩=some (O qL (nth (frameP ⟨H,G⟩ ⟨F,I⟩ s t) j).y):=by
      rcases hcf with h | h
      ·simp [frameP] at h
      ·exact h
     have hZ1:=hZ0.trans (M.mono hZ0.size);have b1:=Boxed.below bZ M bZ.lt;have r1:=Zz rZ M;have g31:=g3Z.below M g3Z.lt;have g41:=g4Z.below M g4Z.lt;have hz1:=hZ1.size;have hlen1:=Z1L (sidesL m) (C.map (·.1));have hlen2:=Z4W S.1 (B.map (·.1));have hlm:(sidesL m).length=m.length:=by simp [sidesL,upto]
     have hpl1:C.length<=64:=by have:=hlt'.out;omega
     have hpl2:B.length<=64:=by have:=hlt2'.out;omega
     simp only [List.length_map,hlm] at hlen1 hlen2;have hlen3:4*m.length*C.length<=16384:=Nat.mul_le_mul (show 4*m.length<=256 by omega) hpl1
     have hlf:(frameP ⟨H,G⟩ ⟨F,I⟩ s t).length=4:=rfl;refine sa1 (r:=6) ⟨b1,g31,g41⟩ ?_;refine ZA (Zd rfl) rfl (.tmp 42) (.tmp 47) 23 rfl (w.heap.size+1) 36 i0 (.agg #[.int .i64 0,.int .i64 0]) 2 16 Tryz.underlying23 hi hz0' hz1' hz2' rfl (by decide) _ _ _ rfl r1 ⟨bf,of,none⟩ 4 (4+capf) (Za (frameP ⟨H,G⟩ ⟨F,I⟩ s t)) rfl (Zy _) (Z7v hcf) (Z17 _) (by rw [List.length_append];unfold maxLen;omega) (by rw [List.length_append];omega) (by omega) ?_
     intro v' Z2 hown' hgrow ho;obtain⟨n5,hn5⟩:∃ n5,(crossL (C.map (·.1)) (sidesL m)++rowS S.1 (B.map (·.1))).length+4=n5:=⟨_,rfl⟩;rw [hn5] at hown';obtain⟨g5,cap5,rfl⟩:=Z8u hown' (by omega)
     simp only [pT];obtain⟨a1,a2,a3,a4,a5,a6,a7,a8⟩:=Zdm b1 (by decide) r1 (by omega) (qN _) hown' hgrow ho
     have s3:Has Z2 B3 #[O qL H,O qL G] 36:=(hgrow.block B3 g31.lt (fun e=>HV.out.2.2.2.1 e.symm)).trans g31
     have s4:Has Z2 B4 #[O qL F,O qL I] 36:=(hgrow.block B4 g41.lt (fun e=>HV.out.2.2.2.2 e.symm)).trans g41
     refine Zj (by kernel_rfl) ⟨a1,s3,s4⟩ ?_
     simp only [List.drop_succ_cons,List.drop_zero];have x1:=a1.cell;have y1:=a1.frozen;have HA:=qH (qI a2 (qI a3 (qI a4 (qI a5 (qI a6 (qI a7 a8))))));clear a1 a2 a3 a4 a5 a6 a7 a8 s3 s4;gi_wp2;obtain⟨a2,a3,a4,a5,a6,a7,a8⟩:=HA.out;obtain⟨⟨n1,n2⟩,n3,n4⟩:=HV.out.2.2.1;have hkf:KeepsFrom (w.heap.size+3) W2 X:=hsz ▸ HB.out.2.1;have kp:∀ b,b<X.heap.size->b≠w.heap.size+1->v.ownBlock≠some b->(Z2.setCell ⟨w.heap.size+1,0,none⟩ (qS (some ⟨g5,0,none⟩) n5 cap5)).heap[b]?=X.heap[b]?:=fun b h1 h2 h3=>(a6 b (by omega) h2 h3).trans (hZ1.block b h1)
     have kq:∀ b,b<w.heap.size+1->(Z2.setCell ⟨w.heap.size+1,0,none⟩ (qS (some ⟨g5,0,none⟩) n5 cap5)).heap[b]?=X.heap[b]?:=fun b h1=>(a5.block b h1).trans (hZ1.block b (by omega))
     refine⟨(ZE hZ1).trans (a4.from _),⟨by omega,fun b M=>?_⟩,⟨_,a2,?_,⟨a7 _ (by omega) n1,a7 _ (by omega) n2⟩,a7 _ (by omega) n3,a7 _ (by omega) n4⟩,⟨?_,?_⟩,(HB.out.1.trans (hZ1.mono (by omega))).trans (a5.mono (qN _)),hkf.trans ((ZE hZ1).trans (a4.from _)),HB.out.2.2.trans ⟨by omega,fun b M=>?_⟩⟩
     ·rcases M with h | rfl
      ·exact kq b h
      ·exact kp _ (by omega) (by omega) n4
     ·rw [List.map_append,Z1R,show rowS S.1 ([T].map (·.1))=frameP ⟨H,G⟩ ⟨F,I⟩ s t by simp [rowS,hcr.out],show (crossL (C.map (·.1)) (sidesL m)).length+(rowS S.1 (B.map (·.1))++frameP ⟨H,G⟩ ⟨F,I⟩ s t).length=n5 by rw [<- hn5];simp only [List.length_append,hlf];omega,show Za (crossL (C.map (·.1)) (sidesL m)++(rowS S.1 (B.map (·.1))++frameP ⟨H,G⟩ ⟨F,I⟩ s t))=Za (crossL (C.map (·.1)) (sidesL m)++rowS S.1 (B.map (·.1)))++Za (frameP ⟨H,G⟩ ⟨F,I⟩ s t) by rw [<- List.append_assoc,ZV]]
      exact a3
     ·exact (kp B1 lX1 (by omega) n1).trans HG.out.1
     ·exact (kp B2 lX2 (by omega) n2).trans HG.out.2.1
     ·rcases M with h | rfl
      ·exact kq b h
      ·exact kp _ (by omega) (by omega) n3
  case done2 =>
   rintro xs X rfl ⟨⟨v,A,f,hv3⟩,⟨V,U⟩,aa,R,hKP⟩;have hrw:(crossL (C.map (·.1)) (sidesL m)++rowS S.1 ((upto (fun i=>(⟨sideP m i,HPL.out.2 i⟩:PlS)) m.length).map (·.1)))=crossL ((C++[S]).map (·.1)) (sidesL m):=by
    rw [List.map_append,Z5r];simp [crossL,sidesL,upto,Function.comp_def]
   rw [hrw] at f;gi_wp2;rw [hsz] at R;exact⟨(hKO.from _).trans R,(KeepsP.of_below hA (fun b M=>by omega)).trans hKP,⟨v,A,f,hv3.2.1⟩,aa⟩
  case stop2 =>
   rintro c B X _ hF;exact hF.elim
 case done =>
  rintro D ys W hD rfl ⟨⟨v,A,f,_⟩,L⟩ hK;have hrw:crossL ((upto (fun i=>(⟨sideP l i,HPL.out.1 i⟩:PlS)) l.length).map (·.1)) (sidesL m)=crossP l m:=by
   simp [crossP,sidesL,upto,Function.comp_def]
  rw [hrw] at f;have hlen:=Z1L (sidesL m) (sidesL l);have hc:=A.cell;have hp:=ownsRow_putObj f (.deferred none) hK rfl;have hsl:(sidesL l).length=l.length:=by simp [sidesL,upto]
  have hsm:(sidesL m).length=m.length:=by simp [sidesL,upto]
  rw [hsl,hsm] at hlen;have hlen3:4*m.length*l.length<=16384:=Nat.mul_le_mul (show 4*m.length<=256 by omega) l64
  have hI:=Z7.own hp (by unfold crossP;omega)
  have HI:=qH hI;have HK:=qH hK;have HBL:=qH ((HBW.out.trans (L.mono (by omega))))
  clear A f L hp hI hK hrw;go_wp2;refine⟨by simp,.inl ⟨_,_,rfl,run_takeDeferred HK.out,?_⟩⟩
  exact⟨v,by simp [results,Tryz.f174,go_sem],v,rfl,HI.out,HBL.out.trans (belowK_b (w:=w) (qN _) _ D _ _ (by omega) HK.out rfl rfl)⟩
 case stop =>
  rintro D c C W hD _ hF hK;exact hF.elim
end
section
open Go.RowKit
section
variable {F:Fence} {n:Nat} {P:Program} {md:Region.Mode} {ops:Array Oper} {S:World->Prop} {Q:Exit->Act->World->Prop} {k:Nat}
theorem Zp (hH:Headed md ops k) {tail:List Oper} {i f:Nat} {oi:Oper} {listed:Array Bool} {a:Act} {w:World} (hi:ops[i]?=some oi) (hin:i<k) (inv:HeadInv md ops k listed)
  (hr:(Region.ready md ops listed).contains i=true) (hf:Region.free md ops listed i=true) (hw:Region.wanted oi (yielded ops a.tmps)=false)
  (h:HeadInv md ops k (listed.setIfInBounds i true)->sched P md ops S (tailL F n P md ops Q k tail) k f (listed.setIfInBounds i true) (a.put oi.dst qD) w):sched P md ops S (tailL F n P md ops Q k tail) k (f+1) listed a w:=by
 have b:i ∈ Region.ready md ops listed:=by simpa using hr
 exact Z3n hi (Region.noSelect_spec hH.sel) hH.sink hH.chain hH.lt hin (fun _ _ _ hL=>seqB_ready hL.1) f listed a w inv (Region.free_spec hi hf) b (.inr ⟨hw,rfl⟩) (h (inv.set b hin))
end
theorem HeadInv.put2 {md:Region.Mode} {ops:Array Oper} {k j:Nat} {listed:Array Bool} (inv:HeadInv md ops k listed) (hr:(Region.ready md ops listed).contains j=true) (hlt:j<k):HeadInv md ops k (listed.setIfInBounds j true):=inv.set (by simpa using hr) hlt
end
section
attribute [local irreducible] wpQuiet
open Go.RowKit
noncomputable def cornersTo (l m:List Pt):Nat->List Pt
 | 0=>[]
 | k+1=>if hasB m (nth l k)=true then cornersTo l m k++[nth l k] else cornersTo l m k
noncomputable def cornersP (l m:List Pt):List Pt:=cornersTo l m l.length
theorem Z0m (l m:List Pt):∀ k,(cornersTo l m k).length<=k
 | 0=>by simp [cornersTo]
 | k + 1 => by
  have:=Z0m l m k;simp only [cornersTo]
  split
  ·simp;omega
  ·omega
theorem Z00 {l m : List Pt} {x : Pt} : ∀ k, x ∈ cornersTo l m k ↔ ∃ j, j < k /\ nth l j = x /\ hasB m x = true
 | 0=>by simp [cornersTo]
 | k + 1 => by
  have ih:=Z00 (l:=l) (m:=m) (x:=x) k;simp only [cornersTo];by_cases h:hasB m (nth l k)=true
  ·rw [if_pos h]
   simp only [List.mem_append,List.mem_singleton,ih];constructor
   ·rintro (⟨j,h1,h2,h3⟩ | rfl)
    ·exact⟨j,by omega,h2,h3⟩
    ·exact⟨k,by omega,rfl,h⟩
   ·rintro ⟨j,h1,h2,h3⟩
    by_cases e:j=k
    ·exact .inr (by rw [<- h2,e])
    ·exact .inl ⟨j,by omega,h2,h3⟩
  ·rw [if_neg h,ih]
   constructor
   ·rintro ⟨j,h1,h2,h3⟩;exact⟨j,by omega,h2,h3⟩
   ·rintro ⟨j,h1,h2,h3⟩
    refine⟨j,?_,h2,h3⟩;have:j≠k:=by intro e;rw [<- h2,e] at h3;exact h h3
    omega
theorem Z0f (vp vq : Value) (l m : List Pt) (w : World) (hp : Z7 w.heap.size w vp l) (hq : Z7 w.heap.size w vq m) (hs : l.length <= 1000000) :
  Calls Tryz.prog 105 #[vp,vq] w (PtsQ (cornersP l m) w):=by
 have W:=qH hq;obtain⟨U,a,Y,rfl,L⟩:=hp;obtain⟨aq,u,rfl⟩:=hq.len;have S:=qH L;obtain⟨Z,V,q,B,A⟩:=info_parts ptInfo;clear L hq;go_enter Tryz.func105,Tryz.ntmps105;go_wp2
 go_loopw [5,12] (fun v i wr=>∃ k:Nat,k<=l.length/\i=O qL (k:Int)/\wr.ownsRow w.heap.size 36 2 v (cornersTo l m k).length (Za (cornersTo l m k))/\Below w.heap.size w wr) (fun _ i _=>l.length-(intOf i).toNat)
 case atStart=>exact⟨0,by omega,rfl,World.ownsRow_nil _ _ _ _,qK _ _⟩
 case round =>
  obtain⟨k,hk,rfl,c,n⟩:=hrel;have H:=n.size;by_cases hlt:k<l.length
  ·obtain⟨b,o,rfl,J,r⟩:∃ b o,a=some ⟨b,o,none⟩/\b<w.heap.size/\∀ j,j<l.length->w.cell? ⟨b,o+j*2,none⟩=some (O qL (nth l j).x)/\w.cell? ⟨b,o+j*2+1,none⟩=some (O qL (nth l j).y):=by
    rcases S.out with h | h
    ·rw [h] at hlt;simp at hlt
    ·exact h
   obtain⟨K,M⟩:=r k hlt;have e0:=cY n K J;have e1:=cY n M J;have s:=Z0m l m k;have f:Hid (cornersTo l m (k+1)=if hasB m ⟨(nth l k).x,(nth l k).y⟩=true then cornersTo l m k++[⟨(nth l k).x,(nth l k).y⟩] else cornersTo l m k):=rfl
   obtain⟨N,t⟩:∃ N,cornersTo l m k=N:=⟨_,rfl⟩;rw [t] at c f s;have g:=n.alloc H (qC #[O qL (nth l k).x,O qL (nth l k).y] 36);have R:=Z3O (qS aq m.length (m.length+u)) m ⟨(nth l k).x,(nth l k).y⟩ (wr.alloc (qC #[O qL (nth l k).x,O qL (nth l k).y] 36)) ((W.out.below g).mono g.size);have Q:=Has.new wr #[O qL (nth l k).x,O qL (nth l k).y] 36;have X:decide ((k:Int)<(l.length:Int))=true:=by simp;omega
   have kl:(k:Int)<l.length:=by omega
   have k0:(0:Int)<=k:=by omega
   generalize hasE m ⟨(nth l k).x,(nth l k).y⟩=he at *;have D:=qH R;have P:=qH (c.alloc (qC #[O qL (nth l k).x,O qL (nth l k).y] 36));have z:=qH g;have I:=qH Q;clear r K M c R g n Q t;cases hin:hasB m ⟨(nth l k).x,(nth l k).y⟩
   ·rw [hin] at D f
    clear hin;generalize (nth l k).x=px at *;generalize (nth l k).y=py at *;go_wp2_with fail;refine D.out.mono ?_;rintro e p ⟨rfl,d⟩;have E:=qH (Zz P.out d);have C:=zAd z d;clear d;go_wp2;go_roundw
    case rel=>exact⟨k+1,by omega,by go_num,by rw [f.out];exact E.out,C.out⟩
    case measure=>simp [intOf];omega
   ·rw [hin] at D f
    clear hin;generalize (nth l k).x=px at *;generalize (nth l k).y=py at *;go_wp2_with fail;refine D.out.mono ?_;rintro e p ⟨rfl,d⟩;have E:=qH (Zz P.out d);have C:=zAd z d;have G:=I.out.below d I.out.lt;have x0:p.cell? ⟨wr.heap.size,0,none⟩=some (.int .i64 px):=cX 0 G rfl;have x1:p.cell? ⟨wr.heap.size,1,none⟩=some (.int .i64 py):=cX 1 G rfl;have aa:=C.out.size;clear d G;go_wp2_with (at_builtin;refine wpList_append_own _ rfl _ _ 23 rfl w.heap.size 36 Z (.agg #[.int .i64 0,.int .i64 0]) 2 16 Tryz.underlying23 V q B A rfl (by decide) _ _ _ rfl (E.out.alloc _) ⟨p.heap.size,0,none⟩ 1 1 [.int .i64 px,.int .i64 py] rfl rfl (Z2P _ _ _) (by simp [Value.oneCell']) (by unfold maxLen;omega) (by omega) (by simp;omega) ?_;intro v' w4 hown' hgrow _)
    go_roundw
    case rel =>
     have F:Below w.heap.size p w4:=((qK w.heap.size p).alloc (by omega) _).grown hgrow (by simp;omega) (fun j ej=>(E.out.lt j ej).1)
     refine⟨k+1,by omega,by go_num,?_,C.out.trans F⟩
     rw [f.out]
     simpa [Za] using hown'
    case measure=>simp [intOf];omega
  ·obtain rfl:k=l.length:=by omega
   have X:decide ((l.length:Int)<(l.length:Int))=false:=by simp
   have T:=qH (Z7.own c (by have:=Z0m l m l.length;omega))
   have HB:=qH n;clear c n;go_wp2;go_ret;exact⟨_,rfl,T.out,HB.out⟩
end
section
open Go.RowKit
section
variable {F:Fence} {n:Nat} {P:Program} {md:Region.Mode} {ops:Array Oper} {Q:Exit->Act->World->Prop} {S:World->Prop}
def endL (md:Region.Mode) (ops:Array Oper) (Q:Exit->Act->World->Prop):Array Bool->Act->World->Prop:=fun listed a w=>Region.ready md ops listed=[]/\Q .normal a w
theorem Z5H {i : Nat} {oi : Oper} {v : Value} (hi : ops[i]? = some oi) (hsel : ∀ (j : Nat) (o : Oper) cs b, ops[j]? = some o -> o.op ≠ .select cs b) :
  ∀ (f : Nat) (listed : Array Bool) (a : Act) (w : World),
   (∀ j oj,ops[j]?=some oj->j≠i->listed.getD j true=false->(∀ e ∈ oj.after,Region.binds md e=true->e.on≠i)->oi.apart ops oj=true) ->
   i ∈ Region.ready md ops listed->YS P ops S oi v a->sched P md ops S (endL md ops Q) ops.size f (listed.setIfInBounds i true) (a.put oi.dst v) w->sched P md ops S (endL md ops Q) ops.size (f+1) listed a w:=by
 intro f;have l:∀ {listed:Array Bool} {j:Nat},j ∈ Region.ready md ops listed->j<ops.size:=fun hj=>by
  obtain⟨_,o,r,_⟩:=mem_ready.1 hj;exact (Array.getElem?_eq_some_iff.1 r).1
 induction f with
 | zero =>
  intro listed a w _ hr hy H;refine⟨H.1,fun h=>(by rw [h] at hr;cases hr),fun j hj=>⟨l hj,?_⟩⟩
  by_cases hji:j=i
  ·subst hji;exact hy.okOp hi H.1 H
  ·have:=ready_mono hj hji
   rw [H.2.1] at this;cases this
 | succ f ih =>
  intro listed a w hfree hr hy H;refine⟨H.1,fun h=>(by rw [h] at hr;cases hr),fun j hj=>⟨l hj,?_⟩⟩
  by_cases hji:j=i
  ·subst hji;exact hy.okOp hi H.1 H
  ·have p:=(mem_ready.1 hr).1
   have n:=(H.2.2 j (ready_mono hj hji)).2;obtain⟨c,oj,d,k⟩:=mem_ready.1 hj;have g:∀ e ∈ oj.after,Region.binds md e=true->e.on≠i:=fun e he hb heq=>by
    have n:=k e he hb;rw [heq,getD_both p] at n;cases n
   have q:=Z7y d (hfree j oj d hji c g) (fun cs b=>hsel i oi cs b hi) (fun cs b=>hsel j oj cs b d) hy n
   refine Z5V (fun a' w' h3=>ih (listed.setIfInBounds j true) a' w' ?_ (ready_mono hr (Ne.symm hji)) h3.1 ?_) q
   ·intro m om hm hmi hmun hno
    refine hfree m om hm hmi ?_ hno;by_cases hjm:j=m
    ·subst hjm;exact c
    ·rw [getD_set_ne true hjm] at hmun;exact hmun
   ·rw [Array.setIfInBounds_comm _ _ hji]
    exact h3.2
theorem Zv (hsel:Region.noSelect ops=true) {i f:Nat} {oi:Oper} {v:Value} {listed:Array Bool} {a:Act} {w:World} (hi:ops[i]?=some oi)
  (hr:(Region.ready md ops listed).contains i=true) (hf:Region.free md ops listed i=true) (hw:Region.wanted oi (yielded ops a.tmps)=true) (hv:∀ w,S w->(execOp a.eval oi).run P w=.ok (.value v) w)
  (h:sched P md ops S (endL md ops Q) ops.size f (listed.setIfInBounds i true) (a.put oi.dst v) w):sched P md ops S (endL md ops Q) ops.size (f+1) listed a w :=
 Z5H hi (Region.noSelect_spec hsel) f listed a w (Region.free_spec hi hf) (by simpa using hr) (.inl ⟨hw,hv⟩) h
theorem Z6D {listed:Array Bool} {a:Act} {w:World} (hB:Region.ready md ops listed=[]) (hS:S w) (h:Q .normal a w):sched P md ops S (endL md ops Q) ops.size 0 listed a w:=⟨hS,hB,h⟩
theorem Z20 (hL:Lets F P) {id:Nat} {a:Act} {w:World} {l:List Oper} (S:World->Prop) (hm:P.follows .mixedOrders=true) (hnd:noDefer l.toArray=true) (hs:Region.noSelect l.toArray=true)
  (h:Region.noSelect l.toArray=true->sched P .any l.toArray S (endL .any l.toArray Q) l.toArray.size l.length (Array.replicate l.length false) a w.drew):(Code.region id l.toArray true).wpIn F n P Q a w:=by
 refine wpIn_region_any hm ?_;have:=ZR (Q:=Q) (n:=n) hL hnd (g:=0) (fun listed a' w' hL'=>hL') _ _ _ _ (h hs)
 simpa using this
end
end
end Go.Proofs.YthipcinibldgnaaGreat
