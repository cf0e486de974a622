/- slices.Clone at points; (*hull.chain).push. | slices.Compact at points, in a row of the call's own. (Printed by tools/mkcompact.py.) | Plain: sorte .. -/
import Derived.Lib.SliceRun
import Derived.ArgAppend
import Derived.Test.YthipcinibldgnaaGreatBin16
open Go.Value renaming int->O,slice->qS
open Go.IntKind renaming wrap->qW,i64->qL
open Go.Lib renaming hid->qH
open Nat renaming le_refl->qN
open Go.Act renaming put->qJ
set_option linter.unusedSimpArgs false
set_option linter.unusedVariables false
set_option maxRecDepth 8000
set_option maxHeartbeats 6000000
namespace Go.Proofs.YthipcinibldgnaaGreat
section
attribute [local irreducible] wpQuiet
open Go.RowKit Go.Shelf
theorem ZaS (v:Value) (l:List Pt) (w:World) (hp:Z7 w.heap.size w v l) (h0:0<l.length) (hl:l.length<=1000000) :
  Calls Tryz.prog 177 #[v] w fun e w'=>∃ v',e=.returned v'/\w'.ownsRow w.heap.size 36 2 v' l.length (Za l)/\Below w.heap.size w w':=by
 have g:=qH hp;obtain⟨_,a,q,rfl,f⟩:=hp;obtain⟨b,o,rfl,s,f⟩:=f.resolve_left (by intro h;rw [h] at h0;simp at h0)
 have p:∀ (w:World) (a:Option Addr) (n c n' c':Nat),(binOp .eql 23 (.slice a n c) (.slice none n' c')).run Tryz.prog w=.ok (.bool a.isNone) w:=fun w a n c n' c'=>Lib.run_eql_slice_nil w _ _ a n c n' c' Tryz.underlying23
 have d:=qH ((Below.refl w.heap.size w).alloc (qN _) (.cells #[] 36));have j:=qH (World.ownsRow_lit (base:=w.heap.size) (e:=36) (size:=2) w #[] 0 (qN _) (by unfold maxLen;omega) (by simp))
 have k:=qH ((g.out.below ((Below.refl w.heap.size w).alloc (qN _) (.cells #[] 36))).mono d.out.size);clear f;go_enter Tryz.func177,Tryz.ntmps177;go_wp2_with (at_builtin;refine Z2r rfl _ _ rfl w.heap.size _ 0 [] rfl j.out _ l rfl k.out (by omega) d.out.size ?_;intro v' w2 r2 g2 _)
 have m:=d.out.trans (Z6r j.out g2 (qN _) d.out.size);have r:w2.ownsRow w.heap.size 36 2 v' l.length (Za l):=by simpa using r2
 go_ret;exact⟨_,rfl,r,m⟩
theorem Z6H {W:World} {base n m:Nat} {g cap:Nat} {l:List Pt} (h:W.ownsRow base 36 2 (qS (some ⟨g,0,none⟩) n cap) n (Za l)) (hm:m<=n):W.ownsRow base 36 2 (qS (some ⟨g,0,none⟩) m cap) m (Za (l.take m)):=by
 have s:l.length=n:=by have:=h.1;rw [Zy] at this;omega
 refine⟨by rw [Zy,List.length_take];omega,?_⟩
 rcases h.2 with⟨c,_⟩ | ⟨r,j,a,c,q,o,p,d,f,b⟩
 ·simp at c
 ·simp only [Value.slice.injEq,Option.some.injEq,Addr.mk.injEq,and_true,true_and] at c
  obtain⟨rfl,rfl⟩:=c;refine .inr ⟨g,cap,a,rfl,q,o,by omega,d,f,?_⟩
  have e:Za l=Za (l.take m)++Za (l.drop m):=by rw [<- ZV,List.take_append_drop]
  have k:a.toList.take (m*2)=(a.toList.take (n*2)).take (m*2):=by rw [List.take_take];congr 1;omega
  rw [k,b,e,List.take_left' (by rw [Zy,List.length_take];omega)]
theorem Z0w {W:World} {base n:Nat} {v:Value} {e:TypeId} {size:Nat} {xs:List Value} (h:W.ownsRow base e size v n xs):(v=qS none 0 0/\n=0)\/∃ g cap,v=qS (some ⟨g,0,none⟩) n cap/\n<=cap:=by
 rcases h.2 with a | ⟨g,cap,b,a,_,_,c,_⟩
 ·exact .inl a
 ·exact .inr ⟨g,cap,a,c⟩
theorem Z0P {W:World} {base n:Nat} {v:Value} {e:TypeId} {size:Nat} {xs:List Value} (h:W.ownsRow base e size v n xs) (hn:0<n):∃ g cap,v=qS (some ⟨g,0,none⟩) n cap:=by
 rcases Z0w h with⟨_,a⟩ | ⟨g,cap,h,_⟩
 ·omega
 ·exact⟨g,cap,h⟩
theorem Z3p {W:World} {base n:Nat} {g cap:Nat} {l:List Pt} (h:W.ownsRow base 36 2 (qS (some ⟨g,0,none⟩) n cap) n (Za l)) {j:Nat} (hj:j<n):W.cell? ⟨g,j*2,none⟩=some (O qL (nth l j).x)/\W.cell? ⟨g,j*2+1,none⟩=some (O qL (nth l j).y):=by
 have c:l.length=n:=by have:=h.1;rw [Zy] at this;omega
 obtain⟨b,a⟩:=Z0e l j (by omega)
 exact⟨(h.cellAt (j*2) (by omega)).trans b,(h.cellAt (j*2+1) (by omega)).trans a⟩
structure Pushed (Bc n0:Nat) (vc:Value) (l:List Pt) (w w':World):Prop where
 size:w.heap.size<=w'.heap.size
 os:w'.os=w.os
 tape:w'.tape=w.tape
 output:w'.output=w.output
 row:∃ v',Has w' Bc #[v'] 211/\w'.ownsRow n0 36 2 v' l.length (Za l)/\(v'.ownBlock=vc.ownBlock\/∃ g,v'.ownBlock=some g/\w.heap.size<=g)
 kept:∀ b,b<w.heap.size->b≠Bc->vc.ownBlock≠some b->w'.heap[b]?=w.heap[b]?
theorem Z4p {Bc n0 K:Nat} {vc u v':Value} {l l':List Pt} {x:Pt} {w W w4:World} (hl':l'=l.take K++[x]) (hK:K<=l.length) (hob:u.ownBlock=vc.ownBlock) (hne:vc.ownBlock≠some Bc) (GX:Has W Bc #[vc] 211) (BX:Below w.heap.size w W) (lB:Bc<w.heap.size)
  (hown':w4.ownsRow n0 36 2 v' (K+1) (Za (l.take K)++[O qL x.x,O qL x.y])) (hgrow:W.grownBy w4 u.ownBlock) (hob':v'.ownBlock=u.ownBlock\/v'.ownBlock=some W.heap.size):Pushed Bc n0 vc l' w (w4.setCell ⟨Bc,0,none⟩ v'):=by
 have f:=hgrow.size;have c:=BX.size;have d:=GX.kept hgrow (by rw [hob];exact hne)
 have a:w4.ownsRow n0 36 2 v' l'.length (Za l'):=by
  rw [hl',ZV,List.length_append,List.length_take,Nat.min_eq_left hK];exact hown'
 have e:v'.ownBlock≠some Bc:=by
  rcases hob' with h | h
  ·rw [h,hob];exact hne
  ·rw [h];intro h';cases h';exact absurd lB (by omega)
 refine⟨by simp [World.setCell];omega,hgrow.os.trans BX.os,hgrow.tape.trans BX.tape,hgrow.output.trans BX.output,⟨v',d.set 0 v',Z0q a fun g hg=>Below.heap_setCell _ _ _ _ (fun h=>e (by rw [hg];exact congrArg some h)),?_⟩,fun b hb h1 h2=>?_⟩
 ·rcases hob' with h | h
  ·exact .inl (by rw [h,hob])
  ·exact .inr ⟨_,h,c⟩
 ·rw [Below.heap_setCell _ _ _ _ (by exact h1),hgrow.block b (by omega) (fun h=>h2 (by rw [<- hob];exact h.symm))]
  exact BX.block b hb
theorem Z7u (Bc n0 : Nat) (vc : Value) (l : List Pt) (x : Pt) (w : World) (hB : Has w Bc #[vc] 211) (hr : w.ownsRow n0 36 2 vc l.length (Za l)) (hn0 : n0 <= w.heap.size) (hne : vc.ownBlock ≠ some Bc)
  (hl:∀ k,k<l.length->Z3 (nth l k)=true) (hx:Z3 x=true) (hsz:l.length<=100000) :
  Calls Tryz.prog 181 #[.pointer (some ⟨Bc,0,none⟩),.agg #[O qL x.x,O qL x.y]] w fun e w'=>e=.returned (.tuple #[])/\Pushed Bc n0 vc (pushP l x) w w':=by
 obtain⟨x,y⟩:=x;have px:=Zt hx;simp only at px;have lB:=hB.lt;have hA:=(Below.refl w.heap.size w).alloc (qN _) (.cells #[O qL x,O qL y] 36);have hN:=Has.new w #[O qL x,O qL y] 36;have z:=hB.below hA lB;have D:=Zz hr hA;have b0:=cX 0 z rfl;have C:w.heap.size<(w.alloc (.cells #[O qL x,O qL y] 36)).heap.size:=by simp
 obtain⟨i0,hi,G,F,E⟩:=info_parts ptInfo;obtain⟨W1,M⟩:∃ W1,w.alloc (.cells #[O qL x,O qL y] 36)=W1:=⟨_,rfl⟩;rw [M] at hA hN z D b0 C;have HW:=qH M;have HA:=qH hA;have HN:=qH hN;have HB:=qH z;have HR:=qH D;have HL:=qH (fun k hk=>Zt (hl k hk))
 have hpu:Hid (pushP l ⟨x,y⟩=l.take (keepN l ⟨x,y⟩ l.length)++[⟨x,y⟩]):=rfl;have hkl:=qH (Z0S l ⟨x,y⟩ l.length);have p:=Z0w D;clear M hA hN z D hl hx hB hr;go_enter Tryz.func181,Tryz.ntmps181;go_upto_region 1 with fail
 rw [HW.out];go_wp2
 go_loopw [4] (fun v wr=>∃ k:Nat,k<=l.length/\keepN l ⟨x,y⟩ l.length=keepN l ⟨x,y⟩ k/\wr.ownsRow n0 36 2 v k (Za (l.take k))/\v.ownBlock=vc.ownBlock/\Below W1.heap.size W1 wr) (fun v _=>lenOf v)
 case atStart=>exact⟨l.length,qN _,rfl,by rw [List.take_length];exact HR.out,rfl,Below.refl _ _⟩
 case round =>
  obtain⟨k,hk,d,b,n,s⟩:=hrel;have L:=s.size;have hlen:=ZcH b;have N:=HN.out.below s C;have Q:=Low.fact (cX 0 N rfl);have U:=Low.fact (cX 1 N rfl);have p:=Z0w b;have r:=qH b;have S:=qH s;by_cases h2:1<k
  ·obtain⟨j,rfl⟩:∃ j,k=j+2:=⟨k-2,by omega⟩
   obtain⟨g,B,rfl,Y⟩:=p.resolve_left (fun h=>by omega)
   have hT:∀ i,i<j+2->nth (l.take (j+2)) i=nth l i:=fun i hi=>by
    simp [nth,List.getD_eq_getElem?_getD,List.getElem?_take,hi]
   have q:=Z3p b (j:=j) (by omega)
   have V:=Z3p b (j:=j+1) (by omega)
   rw [hT j (by omega)] at q
   rw [hT (j+1) (by omega)] at V
   have pa:=HL.out j (by omega)
   have pb:=HL.out (j+1) (by omega)
   have a:keepN l ⟨x,y⟩ (j+2)=if 0<j+1/\Z5 (nth l j) (nth l (j+1)) ⟨x,y⟩<=0 then keepN l ⟨x,y⟩ (j+1) else j+2:=rfl
   obtain⟨⟨ax,ay⟩,aa⟩:∃ t,nth l j=t:=⟨_,rfl⟩;obtain⟨⟨bx,u⟩,heb⟩:∃ t,nth l (j+1)=t:=⟨_,rfl⟩
   rw [aa] at q pa a;rw [heb] at V pb a;simp only at q V pa pb;have ht:=qH (fun w1=>Z1E ax ay bx u x y w1 (by omega) (by omega) (by omega) (by omega) (by omega) (by omega) (by omega) (by omega) (by omega) (by omega) (by omega) (by omega))
   have Z:Z5 ⟨ax,ay⟩ ⟨bx,u⟩ ⟨x,y⟩=turnV ax ay bx u x y:=rfl
   rw [Z] at a;obtain⟨c,hc⟩:∃ c,turnV ax ay bx u x y=c:=⟨_,rfl⟩
   rw [hc] at ht a;have c0:=Low.fact q.1;have c1:=Low.fact q.2;have c2:=Low.fact V.1;have c3:=Low.fact V.2;have d1:decide (((j+2:Nat):Int)>1)=true:=by simp;omega
   have m1:qW qL (((j+2:Nat):Int)-2)=(j:Int):=by rw [show ((j+2:Nat):Int)-2=(j:Int) by omega];exact zW2
   have m2:qW qL (((j+2:Nat):Int)-1)=((j+1:Nat):Int):=by rw [show ((j+2:Nat):Int)-1=((j+1:Nat):Int) by omega];exact zW2
   obtain⟨K,W⟩:∃ K:Nat,j+2=K:=⟨_,rfl⟩;obtain⟨J,hJ⟩:∃ J:Nat,j+1=J:=⟨_,rfl⟩;rw [W] at d1 m1 m2;rw [hJ] at m2 c2 c3;have l1:(j:Int)<(K:Int):=by omega
   have l2:(0:Int)<=(j:Int):=by omega
   have l3:(J:Int)<(K:Int):=by omega
   have l4:(0:Int)<=(J:Int):=by omega
   have l5:J<=K:=by omega
   have l6:J<=B:=by omega
   have l7:(J:Int)<=(B:Int):=by omega
   simp only [W] at r Y hlen d n ⊢;have P:(Value.slice (some ⟨g,0,none⟩) K B).ownBlock≠some Bc:=by rw [n];exact hne
   have HST:=qH a;clear aa heb hc Z q V pa pb a hT b s N p;by_cases hcc:c<=0
   ·have d2:decide (c<=0)=true:=by simpa using hcc
    go_wp2
    (refine Zg (by kernel_rfl) (by kernel_rfl) ?_;(iterate 20 (apply qw3;(case hw=>rfl);(case hval=>(intro w1 hw1 hcx;simp only [Oper.quietAt];go_simp;first | done | (first | (go_at_call 66;exact Low.calls hw1 (ht.out _))) | rfl | exact⟨rfl,rfl⟩));simp only [pT]));refine wpQuiet_nil ?_;intro w2 hw2)
    have T:=qH (Zz r.out hw2.out);have o:=qH (S.out.trans (hw2.out.mono L));clear hw2 Q U c0 c1 c2 c3;go_wp2;go_roundw
    case rel =>
     refine⟨J,by omega,?_,?_,n,o.out⟩
     ·rw [d,<- W,HST.out,if_pos ⟨by omega,hcc⟩,hJ]
     ·have:=Z6H (m:=J) T.out (by omega)
      rw [List.take_take,Nat.min_eq_left (by omega)] at this
      exact this
    case measure=>simp [lenOf];omega
   ·have d2:decide (c<=0)=false:=by simp;omega
    have f:keepN l ⟨x,y⟩ l.length=K:=by rw [d,<- W,HST.out,if_neg (fun h=>hcc h.2)]
    go_wp2
    (refine Zg (by kernel_rfl) (by kernel_rfl) ?_;(iterate 20 (apply qw3;(case hw=>rfl);(case hval=>(intro w1 hw1 hcx;simp only [Oper.quietAt];go_simp;first | done | (first | (go_at_call 66;exact Low.calls hw1 (ht.out _))) | rfl | exact⟨rfl,rfl⟩));simp only [pT]));refine wpQuiet_nil ?_;intro w2 hw2)
    have T:=Zz r.out hw2.out;have o:=S.out.trans (hw2.out.mono L);have I:=HN.out.below o C;have z2:=o.size;have p0:=cX 0 I rfl;have p1:=cX 1 I rfl;have X:=HB.out.below o (by omega)
    have hzc:K<=100000:=by omega
    have A:=(Below.refl w2.heap.size w2).alloc (qN _) (.cells #[O qL x,O qL y] 36);have RX:=qH (Zz T A);have GX:=qH (X.below A (by omega))
    have sX:(w2.alloc (.cells #[O qL x,O qL y] 36)).heap.size=w2.heap.size+1:=by simp
    have BX:=qH (HA.out.trans ((o.mono (by omega)).trans (A.mono (by omega))))
    clear hw2 Q U I X T A;go_wp2_with (at_builtin;refine wpList_append_own_at _ rfl _ _ 211 rfl n0 36 i0 (.agg #[.int .i64 0,.int .i64 0]) 2 16 Tryz.underlying211 hi G F E rfl (by decide) _ _ _ rfl RX.out ⟨w2.heap.size,0,none⟩ 1 1 [.int .i64 x,.int .i64 y] rfl rfl (Z2P _ _ _) (by simp [Value.oneCell']) (by unfold maxLen;omega) (by omega) (by omega) ?_;intro v' w4 hown' hgrow _ hob';obtain⟨ga,ca,rfl⟩:=Z0P hown' (by omega);have H:=GX.out.kept hgrow P;have gc0:w4.cell? ⟨Bc,0,none⟩=some vc:=cX 0 H rfl;have gc1:=Ze H 0;have R:=qH (Z4p (hpu.out.trans (by rw [f])) (by omega) n hne GX.out BX.out lB hown' hgrow hob');clear hown' hgrow H)
    go_wp2;go_end0;exact⟨rfl,R.out⟩
  ·have f:keepN l ⟨x,y⟩ l.length=k:=by
    rw [d];rcases (show k=0\/k=1 by omega) with rfl | rfl
    ·rfl
    ·simp [keepN]
   have d1:decide ((k:Int)>1)=false:=by simp;omega
   obtain⟨av,cv,hvv⟩:∃ av cv,u4=qS av k cv:=by
    rcases p with⟨h,h0⟩ | ⟨g,B,h,_⟩
    ·exact⟨none,0,by rw [h,h0]⟩
    ·exact⟨_,_,h⟩
   obtain⟨K,W⟩:∃ K:Nat,k=K:=⟨_,rfl⟩;rw [W] at f d1 r hvv;subst hvv;have P:(Value.slice av K cv).ownBlock≠some Bc:=by rw [n];exact hne
   clear b s N p;go_wp2
   (refine Zg (by kernel_rfl) (by kernel_rfl) ?_;(iterate 4 (apply qw3;(case hw=>rfl);(case hval=>(intro w1 hw1 hcx;simp only [Oper.quietAt];go_simp;first | done | rfl | exact⟨rfl,rfl⟩));simp only [pT]));(iterate 15 (apply Zr;(case hw=>rfl);simp only [pT]));(iterate 1 (apply qw3;(case hw=>rfl);(case hval=>(intro w1 hw1 hcx;simp only [Oper.quietAt];go_simp;first | done | rfl | exact⟨rfl,rfl⟩));simp only [pT]));refine wpQuiet_nil ?_;intro w2 hw2)
   have T:=Zz r.out hw2.out;have o:=S.out.trans (hw2.out.mono L);have I:=HN.out.below o C;have z2:=o.size;have p0:=cX 0 I rfl;have p1:=cX 1 I rfl;have X:=HB.out.below o (by omega)
   have hzc:K<=100000:=by omega
   have A:=(Below.refl w2.heap.size w2).alloc (qN _) (.cells #[O qL x,O qL y] 36);have RX:=qH (Zz T A);have GX:=qH (X.below A (by omega))
   have sX:(w2.alloc (.cells #[O qL x,O qL y] 36)).heap.size=w2.heap.size+1:=by simp
   have BX:=qH (HA.out.trans ((o.mono (by omega)).trans (A.mono (by omega))))
   clear hw2 Q U I X T A;go_wp2_with (at_builtin;refine wpList_append_own_at _ rfl _ _ 211 rfl n0 36 i0 (.agg #[.int .i64 0,.int .i64 0]) 2 16 Tryz.underlying211 hi G F E rfl (by decide) _ _ _ rfl RX.out ⟨w2.heap.size,0,none⟩ 1 1 [.int .i64 x,.int .i64 y] rfl rfl (Z2P _ _ _) (by simp [Value.oneCell']) (by unfold maxLen;omega) (by omega) (by omega) ?_;intro v' w4 hown' hgrow _ hob';obtain⟨ga,ca,rfl⟩:=Z0P hown' (by omega);have H:=GX.out.kept hgrow P;have gc0:w4.cell? ⟨Bc,0,none⟩=some vc:=cX 0 H rfl;have gc1:=Ze H 0;have R:=qH (Z4p (hpu.out.trans (by rw [f])) (by omega) n hne GX.out BX.out lB hown' hgrow hob');clear hown' hgrow H)
   go_wp2;go_end0;exact⟨rfl,R.out⟩
def ddTo (l:List Pt):Nat->List Pt
 | 0=>[]
 | k+1=>if k=0\/nth l k≠nth l (k-1) then ddTo l k++[nth l k] else ddTo l k
def ddP (l:List Pt):List Pt:=ddTo l l.length
theorem Z7V (l:List Pt):∀ k,(ddTo l k).length<=k
 | 0=>qN _
 | k + 1 => by
  have:=Z7V l k;simp only [ddTo]
  split
  ·simp;omega
  ·omega
theorem Z3x:∀ (l:List Pt) (k:Nat) (p:Pt),k<l.length->((Za l).set (k*2) (O qL p.x)).set (k*2+1) (O qL p.y)=Za (l.set k p)
 | [],k,p,h=>by simp at h
 | a::l,0,p,h=>by simp [Za]
 | a :: l, k + 1, p, h => by
  have ih:=Z3x l k p (by simpa using h)
  have e:Za (a::l)=O qL a.x::O qL a.y::Za l:=rfl;have e2:Za ((a::l).set (k+1) p)=O qL a.x::O qL a.y::Za (l.set k p):=rfl;rw [e,e2,<- ih,show (k+1)*2=k*2+1+1 by omega]
  rfl
theorem Z5P (l:List Pt) (k:Nat):(Za l).take (k*2)=Za (l.take k):=by
 by_cases h:k<=l.length
 ·have e:Za l=Za (l.take k)++Za (l.drop k):=by rw [<- ZV,List.take_append_drop]
  rw [e,List.take_left' (by rw [Zy,List.length_take];omega)]
 ·rw [List.take_of_length_le (by rw [Zy];omega),List.take_of_length_le (l:=l) (by omega)]
theorem Zbr {W:World} {base n m:Nat} {g cap:Nat} {xs:List Value} (h:W.ownsRow base 36 2 (qS (some ⟨g,0,none⟩) n cap) n xs) (hm:m<=n):W.ownsRow base 36 2 (qS (some ⟨g,0,none⟩) m cap) m (xs.take (m*2)):=by
 have o:=h.1;refine⟨by rw [List.length_take];omega,?_⟩
 rcases h.2 with⟨b,_⟩ | ⟨p,f,d,b,l,j,k,c,e,a⟩
 ·simp at b
 ·simp only [Value.slice.injEq,Option.some.injEq,Addr.mk.injEq,and_true,true_and] at b
  obtain⟨rfl,rfl⟩:=b;exact .inr ⟨g,cap,d,rfl,l,j,by omega,c,e,by rw [<- a,List.take_take];congr 1;omega⟩
theorem Z5J {base g n cap o0:Nat}:∀ (vs:List Value) (o:Nat) (W:World) (xs:List Value),o0<=o->W.ownsRow base 36 2 (qS (some ⟨g,0,none⟩) n cap) n xs ->
  ∃ ys,(W.setCells g o vs).ownsRow base 36 2 (qS (some ⟨g,0,none⟩) n cap) n ys/\ys.take o0=xs.take o0/\W.grownBy (W.setCells g o vs) (some g)
 | [],o,W,xs,_,h=>⟨xs,h,rfl,World.grownBy.refl _ _⟩
 | v :: vs, o, W, xs, ho, h => by
  obtain⟨h1,h2⟩:=h.stored o v;obtain⟨ys,a,b,c⟩:=Z5J (o0:=o0) vs (o+1) _ _ (by omega) h1
  exact⟨ys,a,by rw [b,List.take_set_of_le ho],h2.trans c⟩
theorem Z4U (w:World) (ty:TypeId) (b o n c:Nat) (hn:0<n) (hc:∀ j,j<n*2->(w.cell? ⟨b,o+j,none⟩).isSome=true) (hf:∀ j,j<n*2->w.frozen? ⟨b,o+j,none⟩=false) :
  (Builtin.clear_ #[23] ty #[qS (some ⟨b,o,none⟩) n c]).run Tryz.prog w=.ok (.tuple #[]) (w.setCells b o (Builtin.zeroCells #[O qL 0,O qL 0] n).toList):=by
 have e:∀ w,(zeroValue 36).run Tryz.prog w=.ok (.agg #[O qL 0,O qL 0]) w:=fun w=>by
  obtain⟨l,g,f,_,_⟩:=info_parts ptInfo;simp [zeroValue,typeInfo,g,f]
 have a:(Builtin.zeroCells #[O qL 0,O qL 0] n).toList.length=n*2:=by simp [Builtin.zeroCells]
 have k:∀ v ∈ (Builtin.zeroCells #[O qL 0,O qL 0] n).toList,v.oneCell'=true:=fun v e=>by
  simp only [Builtin.zeroCells,Array.toList_map,List.mem_map] at e;obtain⟨i,_,rfl⟩:=e;have:i % 2=0\/i % 2=1:=by omega
  rcases this with h | h <;> simp [h,Value.oneCell']
 have d:=run_storeCells_cells (P:=Tryz.prog) b o _ 0 w (by intro j hj;rw [Nat.add_zero];exact hc j (by rw [<- a];exact hj)) (by intro j hj;rw [Nat.add_zero];exact hf j (by rw [<- a];exact hj)) k
 simp only [Nat.add_zero] at d;obtain⟨m,rfl⟩:∃ m,n=m+1:=⟨n-1,by omega⟩
 have f:(Value.agg #[.int .i64 0,.int .i64 0]).cells=#[.int .i64 0,.int .i64 0]:=rfl;simp [Builtin.clear_,run_underlying Tryz.underlying23,e,f,d]
theorem Z71 {w w1 w2:World} {row:Option Nat} (h:w.grownBy w1 row) (hb:Below w1.heap.size w1 w2):w.grownBy w2 row :=
 ⟨hb.os.trans h.os,hb.tape.trans h.tape,hb.output.trans h.output,Nat.le_trans h.size hb.size,fun k hk hne=>(hb.block k (Nat.lt_of_lt_of_le hk h.size)).trans (h.block k hk hne)⟩
def CR (base g cap n:Nat) (L:List Pt) (w W:World):Prop:=L.length=n/\W.ownsRow base 36 2 (qS (some ⟨g,0,none⟩) n cap) n (Za L)/\w.grownBy W (some g)
theorem CR.below {base g cap n:Nat} {L:List Pt} {w W W':World} (h:CR base g cap n L w W) (hb:Below W.heap.size W W'):CR base g cap n L w W':=⟨h.1,Zz h.2.1 hb,Z71 h.2.2 hb⟩
theorem CR.at {base g cap n:Nat} {L:List Pt} {w W:World} (h:CR base g cap n L w W) {j:Nat} (hj:j<n):W.cell? ⟨g,j*2,none⟩=some (O qL (nth L j).x)/\W.cell? ⟨g,j*2+1,none⟩=some (O qL (nth L j).y):=Z3p h.2.1 hj
theorem CR.free {base g cap n:Nat} {L:List Pt} {w W:World} (h:CR base g cap n L w W) (j:Nat):W.frozen? ⟨g,j,none⟩=false:=h.2.1.frozenAt j
theorem CR.put {base g cap n:Nat} {L:List Pt} {w W:World} (h:CR base g cap n L w W) {k:Nat} (hk:k<n) (p:Pt):CR base g cap n (L.set k p) w ((W.setCell ⟨g,k*2,none⟩ (O qL p.x)).setCell ⟨g,k*2+1,none⟩ (O qL p.y)):=by
 obtain⟨b,c⟩:=h.2.1.stored (k*2) (O qL p.x);obtain⟨a,d⟩:=b.stored (k*2+1) (O qL p.y);rw [Z3x L k p (by rw [h.1];exact hk)] at a
 exact⟨by rw [List.length_set];exact h.1,a,(h.2.2.trans c).trans d⟩
theorem Z4r {l:List Pt} {k j:Nat} {p:Pt} (h:j≠k):nth (l.set k p) j=nth l j:=by
 simp [nth,List.getD_eq_getElem?_getD,Ne.symm h]
theorem Z24 {l:List Pt} {k:Nat} {p:Pt} (h:k<l.length):(l.set k p).take (k+1)=l.take k++[p]:=by
 rw [List.take_add_one,List.getElem?_set_self h,List.take_set_of_le (qN _)]
 rfl
theorem Z7a (base g cap : Nat) (l : List Pt) (w : World) (hr : w.ownsRow base 36 2 (qS (some ⟨g, 0, none⟩) l.length cap) l.length (Za l)) (hsz : l.length <= 1000000) (h1 : 0 < l.length) :
  Calls Tryz.prog 180 #[qS (some ⟨g,0,none⟩) l.length cap] w fun e w'=>e=.returned (qS (some ⟨g,0,none⟩) (ddP l).length cap)/\w'.ownsRow base 36 2 (qS (some ⟨g,0,none⟩) (ddP l).length cap) (ddP l).length (Za (ddP l))/\w.grownBy w' (some g):=by
 have hcap:l.length<=cap:=by
  rcases Z0w hr with⟨h,_⟩ | ⟨_,_,h,hc⟩
  ·simp at h
  ·simp only [Value.slice.injEq] at h;omega
 by_cases hlt:l.length<2
 ·have e:ddP l=l:=by
   match l,h1 with
   | [a],_=>rfl
   | a::b::r,_=>simp at hlt;omega
  rw [e];have d1:decide ((l.length:Int)<2)=true:=by simp;omega
  have Y:=qH hr;clear hr e;go_enter Tryz.func180,Tryz.ntmps180;go_wp2;go_ret;exact⟨rfl,Y.out,World.grownBy.refl _ _⟩
 have d1:decide ((l.length:Int)<2)=false:=by simp;omega
 have Y:Hid (CR base g cap l.length l w w):=⟨rfl,hr,World.grownBy.refl _ _⟩;clear hr;go_enter Tryz.func180,Tryz.ntmps180;go_wp2
 go_loopw [3] (fun i wr=>∃ k:Nat,1<=k/\k<=l.length/\i=O qL (k:Int)/\ddTo l k=l.take k/\CR base g cap l.length l w wr) (fun i _=>l.length+1-(intOf i).toNat)
 case atStart =>
  refine⟨1,by omega,by omega,rfl,?_,Y.out⟩
  cases l with
  | nil=>simp at h1
  | cons a r=>rfl
 case round =>
  obtain⟨c,hk1,hk,rfl,X,s⟩:=hrel;have n:=qH s;have K:=qH X;clear Y;by_cases hlk:c<l.length
  ·have q := s.at (j := c) hlk
   have E:=s.at (j:=c-1) (by omega)
   obtain⟨⟨G,H⟩,hp⟩:∃ p,nth l c=p:=⟨_,rfl⟩;obtain⟨⟨F,P⟩,v⟩:∃ p,nth l (c-1)=p:=⟨_,rfl⟩;rw [hp] at q;rw [v] at E;have U:=Low.fact q.1;have S:=Low.fact q.2;have T:=Low.fact E.1;have R:=Low.fact E.2;have HP:=qH (And.intro hp v);have dk:decide ((c:Int)<(l.length:Int))=true:=by simp;omega
   have kl:(c:Int)<l.length:=by omega
   have kz:(0:Int)<=c:=by omega
   have m1:qW qL ((c:Int)-1)=(c:Int)-1:=zW2;have j2:(0:Int)<=(c:Int)-1:=by omega
   have j20:(1:Int)<=c:=by omega
   have j3:(c:Int)-1<l.length:=by omega
   have j4:((c:Int)-1).toNat=c-1:=by omega
   have j5:c<=l.length:=by omega
   have j6:c<=cap:=by omega
   have j7:(c:Int)<=(l.length:Int):=by omega
   have j8:(c:Int)<=(cap:Int):=by omega
   have j9:((l.length-c:Nat):Int)=(l.length:Int)-c:=by omega
   clear s q E X hp v;rcases (show (G=F/\H=P)\/(G=F/\¬ H=P)\/¬ G=F by omega) with⟨Q,e2⟩ | x
   ·obtain rfl:=Q.symm
    obtain rfl:=e2.symm;go_wp2
    (refine Zg (by kernel_rfl) (by kernel_rfl) ?_;(iterate 10 (apply qw3;(case hw=>rfl);(case hval=>(intro w1 hw1 hcx;simp only [Oper.quietAt];go_simp;first | done | rfl | exact⟨rfl,rfl⟩));simp only [pT]));refine wpQuiet_nil ?_;intro w2 hw2)
    have V:=qH (n.out.below hw2.out);clear hw2 U S T R n;go_wp2
    go_loopw [3,5] (fun i j wr=>∃ (f d:Nat) (L:List Pt),i=O qL (f:Int)/\j=O qL (d:Int)/\1<=f/\1<=d/\c+d<=l.length/\f<=c+d-1/\CR base g cap l.length L w wr/\L.take f=ddTo l (c+d)/\∀ j,c+d-1<=j->j<l.length->nth L j=nth l j) (fun _ j _=>l.length+1-(intOf j).toNat)
    case atStart =>
     refine⟨c,1,l,rfl,rfl,hk1,by omega,by omega,by omega,V.out,?_,fun _ _ _=>rfl⟩
     simp only [ddTo];rw [if_neg (by rintro (h | h);omega;exact h (by rw [HP.out.1,HP.out.2])),K.out]
    case round =>
     obtain⟨f,d,L,rfl,rfl,hkk,hk2,hkn,hkk2,s,t,o⟩:=hrel;have n:=qH s;have A:=qH t;have y:=qH o;clear HP K V;by_cases J:c+d<l.length
     ·have q:=s.at (j:=c+d) (by omega)
      have E:=s.at (j:=c+d-1) (by omega)
      have a1:=o (c+d) (by omega) (by omega)
      have a2:=o (c+d-1) (by omega) (by omega)
      obtain⟨⟨G,H⟩,I⟩:∃ p,nth L (c+d)=p:=⟨_,rfl⟩;obtain⟨⟨F,P⟩,W⟩:∃ p,nth L (c+d-1)=p:=⟨_,rfl⟩;rw [I] at q a1;rw [W] at E a2;have z:=qH a1.symm;have M:=qH a2.symm;have J:=M;simp only [Nat.add_mul] at q;rw [show (c+d-1)*2=c*2+(d-1)*2 by omega] at E
      have U:=Low.fact q.1;have S:=Low.fact q.2;have T:=Low.fact E.1;have R:=Low.fact E.2;have dk2:decide ((d:Int)<((l.length-c:Nat):Int))=true:=by simp;omega
      have kl2:(d:Int)<((l.length-c:Nat):Int):=by omega
      have kz2:(0:Int)<=d:=by omega
      have dk3:decide ((d:Int)<(l.length:Int)-(c:Int))=true:=by simp;omega
      have kl3:(d:Int)<(l.length:Int)-(c:Int):=by omega
      have j33:(d:Int)-1<(l.length:Int)-(c:Int):=by omega
      have m12:qW qL ((d:Int)-1)=(d:Int)-1:=zW2;have j22:(0:Int)<=(d:Int)-1:=by omega
      have j220:(1:Int)<=d:=by omega
      have j32:(d:Int)-1<((l.length-c:Nat):Int):=by omega
      have j42:((d:Int)-1).toNat=d-1:=by omega
      have dd1:(f:Int)<l.length:=by omega
      have dd2:(0:Int)<=f:=by omega
      clear s q E a1 a2 W t o M;rcases (show (G=F/\H=P)\/(G=F/\¬ H=P)\/¬ G=F by omega) with⟨Q,e2⟩ | x
      ·obtain rfl:=Q.symm
       obtain rfl:=e2.symm;clear I;go_wp2
       (refine Zg (by kernel_rfl) (by kernel_rfl) ?_;(iterate 10 (apply qw3;(case hw=>rfl);(case hval=>(intro w1 hw1 hcx;simp only [Oper.quietAt];go_simp;first | done | rfl | exact⟨rfl,rfl⟩));simp only [pT]));refine wpQuiet_nil ?_;intro w2 hw2)
       have u:=qH (n.out.below hw2.out);clear hw2 U S T R;go_wp2;go_roundw
       case rel =>
        refine⟨f,d+1,L,rfl,by go_num,by omega,by omega,by omega,by omega,u.out,?_,fun j h1 h2=>y.out j (by omega) h2⟩
        rw [A.out,show c+(d+1)=c+d+1 by omega]
        simp only [ddTo];rw [if_neg (by rintro (h | h);omega;exact h (by rw [z.out,J.out]))]
       case measure=>simp [intOf];omega
      ·have B:(⟨G,H⟩:Pt)≠⟨F,P⟩:=fun h=>by simp only [Pt.mk.injEq] at h;omega
       rcases x with⟨Q,x⟩ | x
       ·obtain rfl:=Q.symm
        go_wp2
        (refine Zg (by kernel_rfl) (by kernel_rfl) ?_;(iterate 10 (apply qw3;(case hw=>rfl);(case hval=>(intro w1 hw1 hcx;simp only [Oper.quietAt];go_simp;first | done | rfl | exact⟨rfl,rfl⟩));simp only [pT]));refine wpQuiet_nil ?_;intro w2 hw2)
        have u:=qH (n.out.below hw2.out);have v:=u.out.at (j:=c+d) (by omega)
        rw [I] at v;simp only [Nat.add_mul] at v;have s0:=v.1;have s1:=v.2;have t0:=(u.out.at (j:=f) (by omega)).1
        have t1:=(u.out.at (j:=f) (by omega)).2
        have v0:=u.out.free (f*2);have v1:=u.out.free (f*2+1);have H3:=qH (u.out.put (k:=f) (by omega) ⟨F,H⟩)
        clear hw2 v U S T R;go_wp2;go_roundw
        case rel =>
         refine⟨f+1,d+1,_,by go_num,by go_num,by omega,by omega,by omega,by omega,H3.out,?_,fun j h1 h2=>?_⟩
         ·rw [Z24 (by rw [u.out.1];omega),A.out,show c+(d+1)=c+d+1 by omega]
          simp only [ddTo];rw [if_pos (.inr (by rw [z.out,J.out];exact B)),z.out]
         ·rw [Z4r (by omega)]
          exact y.out j (by omega) h2
        case measure=>simp [intOf];omega
       ·go_wp2
        (refine Zg (by kernel_rfl) (by kernel_rfl) ?_;(iterate 10 (apply qw3;(case hw=>rfl);(case hval=>(intro w1 hw1 hcx;simp only [Oper.quietAt];go_simp;first | done | rfl | exact⟨rfl,rfl⟩));simp only [pT]));refine wpQuiet_nil ?_;intro w2 hw2)
        have u:=qH (n.out.below hw2.out);have v:=u.out.at (j:=c+d) (by omega)
        rw [I] at v;simp only [Nat.add_mul] at v;have s0:=v.1;have s1:=v.2;have t0:=(u.out.at (j:=f) (by omega)).1
        have t1:=(u.out.at (j:=f) (by omega)).2
        have v0:=u.out.free (f*2);have v1:=u.out.free (f*2+1);have H3:=qH (u.out.put (k:=f) (by omega) ⟨G,H⟩)
        clear hw2 v U S T R;go_wp2;go_roundw
        case rel =>
         refine⟨f+1,d+1,_,by go_num,by go_num,by omega,by omega,by omega,by omega,H3.out,?_,fun j h1 h2=>?_⟩
         ·rw [Z24 (by rw [u.out.1];omega),A.out,show c+(d+1)=c+d+1 by omega]
          simp only [ddTo];rw [if_pos (.inr (by rw [z.out,J.out];exact B)),z.out]
         ·rw [Z4r (by omega)]
          exact y.out j (by omega) h2
        case measure=>simp [intOf];omega
     ·have N:c+d=l.length:=by omega
      have dk2:decide ((d:Int)<((l.length-c:Nat):Int))=false:=by simp;omega
      have dk3:decide ((d:Int)<(l.length:Int)-(c:Int))=false:=by simp;omega
      have D:f=(ddP l).length:=by
       have:=congrArg List.length t;rw [N,List.length_take,s.1] at this;unfold ddP;omega
      have hcl:∀ ty,(Builtin.clear_ #[23] ty #[qS (some ⟨g,f*2,none⟩) (l.length-f) (cap-f)]).run Tryz.prog wr=.ok (.tuple #[]) (wr.setCells g (f*2) (Builtin.zeroCells #[O qL 0,O qL 0] (l.length-f)).toList):=fun ty =>
       Z4U wr ty g (f*2) (l.length-f) (cap-f) (by omega) (fun j hj=>by
        obtain⟨q,r,hr,rfl⟩:∃ q r,r<2/\j=q*2+r:=⟨j / 2,j % 2,Nat.mod_lt _ (by omega),by omega⟩
        have:=n.out.at (j:=f+q) (by omega)
        rw [Nat.add_mul] at this;rw [<- Nat.add_assoc]
        match r,hr with
        | 0,_=>rw [Nat.add_zero,this.1];rfl
        | 1,_=>rw [this.2];rfl) (fun j _=>n.out.free _)
      obtain⟨ys,y1,y2,y3⟩:=Z5J (o0:=f*2) (Builtin.zeroCells #[O qL 0,O qL 0] (l.length-f)).toList (f*2) wr _ (qN _) n.out.2.1;have Z:=Zbr (m:=f) y1 (by omega)
      rw [y2,Z5P,t,N,D] at Z;have z2:=n.out.2.2.trans y3;have HZ:=qH (And.intro Z z2);rw [D] at hcl;have i1:(0:Int)<=f:=by omega
      have i2:(f:Int)<=(l.length:Int):=by omega
      have i3:(f:Int)<=(cap:Int):=by omega
      have i4:f<=l.length:=by omega
      have i5:f<=cap:=by omega
      clear s t o y1 y2 y3 Z z2;subst D;go_wp2;go_ret;exact⟨rfl,HZ.out.1,HZ.out.2⟩
   ·have B:(⟨G,H⟩:Pt)≠⟨F,P⟩:=fun h=>by simp only [Pt.mk.injEq] at h;omega
    have C:Hid (ddTo l (c+1)=l.take (c+1)):=by
     show _=_
     simp only [ddTo];rw [if_pos (.inr (by rw [HP.out.1,HP.out.2];exact B)),K.out,List.take_add_one]
     congr 1
     simp [nth,List.getD_eq_getElem?_getD,List.getElem?_eq_getElem hlk]
    clear B;rcases x with⟨Q,x⟩ | x
    ·obtain rfl:=Q.symm
     go_wp2
     (refine Zg (by kernel_rfl) (by kernel_rfl) ?_;(iterate 10 (apply qw3;(case hw=>rfl);(case hval=>(intro w1 hw1 hcx;simp only [Oper.quietAt];go_simp;first | done | rfl | exact⟨rfl,rfl⟩));simp only [pT]));refine wpQuiet_nil ?_;intro w2 hw2)
     have V:=qH (n.out.below hw2.out);clear hw2 U S T R n;go_wp2;go_roundw
     case rel=>exact⟨c+1,by omega,by omega,by go_num,C.out,V.out⟩
     case measure=>simp [intOf];omega
    ·go_wp2
     (refine Zg (by kernel_rfl) (by kernel_rfl) ?_;(iterate 10 (apply qw3;(case hw=>rfl);(case hval=>(intro w1 hw1 hcx;simp only [Oper.quietAt];go_simp;first | done | rfl | exact⟨rfl,rfl⟩));simp only [pT]));refine wpQuiet_nil ?_;intro w2 hw2)
     have V:=qH (n.out.below hw2.out);clear hw2 U S T R n;go_wp2;go_roundw
     case rel=>exact⟨c+1,by omega,by omega,by go_num,C.out,V.out⟩
     case measure=>simp [intOf];omega
  ·obtain rfl:c=l.length:=by omega
   have dk:decide ((l.length:Int)<(l.length:Int))=false:=by simp
   have e:ddP l=l:=by unfold ddP;rw [K.out,List.take_length]
   have HE:=qH e;clear s e;go_wp2;go_ret;rw [HE.out];exact⟨rfl,n.out.2.1,n.out.2.2⟩
end
section
attribute [local go_sem] Oper.semAt_some
open Go.RowKit Go.Shelf
theorem Z1a (l:List Pt) (x:Pt):nth (l++[x]) l.length=x:=by simp [nth,List.getD_eq_getElem?_getD]
theorem Z19 {l:List Pt} {x:Pt} {i:Nat} (h:i<l.length):nth (l++[x]) i=nth l i:=Z5X h
theorem Z5q {m : List Pt} (hs : ∀ i j, i < j -> j < m.length -> ¬ LexLt (nth m j) (nth m i)) : ∀ k, k <= m.length ->
  (1<=k->1<=(ddTo m k).length/\nth (ddTo m k) ((ddTo m k).length-1)=nth m (k-1))/\Inc (ddTo m k)/\∀ x,x ∈ ddTo m k↔∃ j,j<k/\nth m j=x
 | 0,_=>⟨fun h=>by omega,fun i j _ h=>by simp [ddTo] at h,fun x=>by simp [ddTo]⟩
 | k + 1, hk => by
  obtain⟨h1,h2,h3⟩:=Z5q hs k (by omega)
  simp only [ddTo]
  split
  ·rename_i hc
   refine⟨fun _=>⟨by simp,by rw [List.length_append,List.length_singleton,Nat.add_sub_cancel,Z1a,Nat.add_sub_cancel]⟩,fun i j hij hj=>?_,fun x=>?_⟩
   ·rw [List.length_append, List.length_singleton] at hj
    by_cases e:j=(ddTo m k).length
    ·rw [e, Z1a, Z19 (by omega)]
     have hk0:k≠0:=fun h=>by subst h;simp [ddTo] at e;omega
     obtain⟨a1,a2⟩:=h1 (by omega)
     have hlast:LexLt (nth m (k-1)) (nth m k):=by
      rcases LexLt.tri (nth m (k-1)) (nth m k) with c | c | c
      ·exact c
      ·rcases hc with hc | hc
       ·omega
       ·exact absurd c.symm hc
      ·exact absurd c (hs (k-1) k (by omega) (by omega))
     by_cases e2:i=(ddTo m k).length-1
     ·rw [e2,a2];exact hlast
     ·have:=h2 i ((ddTo m k).length-1) (by omega) (by omega)
      rw [a2] at this;exact this.trans hlast
    ·rw [Z19 (by omega),Z19 (by omega)]
     exact h2 i j hij (by omega)
   ·rw [List.mem_append,List.mem_singleton,h3]
    constructor
    ·rintro (⟨j,hj,e⟩ | e)
     ·exact⟨j,by omega,e⟩
     ·exact⟨k,by omega,e.symm⟩
    ·rintro ⟨j,hj,e⟩
     by_cases ek:j=k
     ·right;rw [<- e,ek]
     ·left;exact⟨j,by omega,e⟩
  ·rename_i hc
   have hk0:k≠0:=fun h=>hc (.inl h)
   have a:nth m k=nth m (k-1):=Classical.byContradiction fun h=>hc (.inr h)
   obtain⟨a1,a2⟩:=h1 (by omega)
   refine⟨fun _=>⟨a1,by rw [a2,Nat.add_sub_cancel,a]⟩,h2,fun x=>?_⟩
   rw [h3];constructor
   ·rintro ⟨j,hj,e⟩;exact⟨j,by omega,e⟩
   ·rintro ⟨j,hj,e⟩
    by_cases ek:j=k
    ·exact⟨k-1,by omega,by rw [<- e,ek,a]⟩
    ·exact⟨j,by omega,e⟩
theorem Z6V {l m:List Pt} (hs:∀ i j,i<j->j<m.length->¬ LexLt (nth m j) (nth m i)) (e:∀ x,x ∈ m↔x ∈ l):goHull (ddP m)=hullP l:=by
 obtain⟨_,b,a⟩:=Z5q hs m.length (qN _);refine Z3a ((Zan b).congr fun x=>?_)
 rw [<- e]
 show x ∈ ddTo m m.length↔_
 rw [a];exact⟨fun ⟨j,hj,e⟩=>by rw [<- e];exact nth_mem' hj,fun h=>mem_nth' h⟩
theorem Zdb {m : List Pt} (h : 0 < m.length) : 0 < (ddP m).length := by
 obtain⟨a,r,rfl⟩:∃ a r,m=a::r:=by cases m with | nil=>simp at h | cons a r=>exact⟨a,r,rfl⟩
 have:∀ k,0<k->0<(ddTo (a::r) k).length:=fun k=>by
  induction k with
  | zero=>exact fun h=>by omega
  | succ k ih =>
   intro _;simp only [ddTo]
   split
   ·simp
   ·rename_i hc
    exact ih (by omega)
 exact this _ (by simp)
set_option maxRecDepth 100000 in
theorem Zci {α : Type} (encA : α -> Array Value) (f : Nat -> α) (n : Nat) (hn : 1 <= n) (p : Nat -> Prop) (W : World) (l Bs b cap : Nat) (ps : List Pt) (hlen : ps.length <= 70368744177663) (hb : p b) (hBs : p Bs) (hpp : ∀ b, p b -> b < W.heap.size)
  (hf:∀ i,i<ps.length->encA (f i)=#[O qL ((ps.length-1-i:Nat):Int),.agg #[O qL (nth ps (ps.length-1-i)).x,O qL (nth ps (ps.length-1-i)).y]]) (J Jx:List α->World->Prop)
  (hJ:AbidesFrom W.heap.size J)
  (hY:∀ pre x W1,J pre W1->pre.length<ps.length->YieldAt Fence.wide (n-1) Tryz.prog l (encA x) W1 fun e W' =>
   (e=.returned (.bool true)/\J (pre++[x]) W'/\KeepsP p W1 W')\/(e=.returned (.bool false)/\Jx (pre++[x]) W'))
  (hB:W.cell? ⟨Bs,0,none⟩=some (qS (some ⟨b,0,none⟩) ps.length cap))
  (hc:∀ j,j<ps.length->W.cell? ⟨b,j*2,none⟩=some (O qL (nth ps j).x)/\W.cell? ⟨b,j*2+1,none⟩=some (O qL (nth ps j).y)) (h0:J [] W) :
  CallsIn Fence.wide n Tryz.prog 191 #[.func (.yield l) #[] #[],.pointer (some ⟨Bs,0,none⟩)] W fun e W'=>(∃ v,e=.returned v) /\
   ((∃ ys,ys=upto f ps.length/\J ys W')\/(∃ pre,(∃ k,k<=ps.length/\pre=upto f k)/\Jx pre W')):=by
 have K:qW qL ((ps.length:Int)-1)=(ps.length:Int)-1:=zW2;refine callsIn_of_wp Tryz.func191 rfl trivial ?_ rfl;simp only [Tryz.ntmps191,List.size_toArray,List.length_cons,List.length_nil,Nat.reduceAdd,Nat.reduceSub,Array.replicate_succ,Array.replicate_zero,List.push_toArray,List.append_toArray,List.nil_append,List.cons_append];gi_wp2
 gi_loopw [3] (fun i wr=>∃ k:Nat,k<=ps.length/\i=O qL ((ps.length:Int)-1-(k:Int))/\J (upto f k) wr/\KeepsP p W wr)
  (fun i _=>(intOf i+1).toNat)
 case atStart=>exact⟨0,Nat.zero_le _,by simp,h0,KeepsP.refl _ _⟩
 case round =>
  obtain⟨k,D,rfl,m,a⟩:=hrel;by_cases hlt:k<ps.length
  ·obtain⟨j,q⟩:∃ j:Nat,ps.length-1-k=j:=⟨_,rfl⟩
   have d:(ps.length:Int)-1-(k:Int)=(j:Int):=by omega
   have I:W.heap.size<=wr.heap.size:=a.1;have P:wr.cell? ⟨Bs,0,none⟩=some (qS (some ⟨b,0,none⟩) ps.length cap):=(a.cell (i:=0) hBs).trans hB;have H:=(a.cell (i:=j*2) hb).trans (hc j (by omega)).1
   have C:=(a.cell (i:=j*2+1) hb).trans (hc j (by omega)).2
   obtain⟨Q,t,o,u,w,z⟩:=hY _ (f k) _ m (by rw [Zq];exact hlt)
   rw [hf k hlt,q] at w;have F:decide ((j:Int)>=0)=true:=by simp
   have G:decide ((0:Int)<=(j:Int))=true:=by simp
   have N:(j:Int)<ps.length:=by omega
   have L:(0:Int)<=(j:Int):=by omega
   have M:qW qL ((j:Int)-1)=(j:Int)-1:=zW2;have A:=qH hc;have c:=qH d;have B:=qH q;clear hc hB q;rw [d];clear d;gi_wp2;refine z.mono ?_;rintro e E (⟨rfl,s,r⟩ | ⟨rfl,g⟩)
   ·gi_wp2
    go_roundw
    case rel=>exact⟨k+1,by omega,by have:=c.out;congr 1;omega,by rw [ZB];exact s,a.trans r⟩
    case measure=>have:=c.out;simp [intOf];try omega
   ·gi_wp2
    refine bodyPost_ret (results_none rfl _ _ _) rfl ?_;exact⟨⟨_,rfl⟩,.inr ⟨_,⟨k+1,by omega,(ZB _ _).symm⟩,g⟩⟩
  ·obtain rfl:k=ps.length:=by omega
   have e:(ps.length:Int)-1-(ps.length:Int)=-1:=by omega
   rw [e];gi_wp2;go_end0;exact⟨⟨_,rfl⟩,.inl ⟨_,rfl,m⟩⟩
theorem Z6p (a:Option Addr) (len cap:Nat) (w:World) :
  Calls Tryz.prog 182 #[qS a len cap] w fun e w'=>e=.returned (.func (.func 191) #[] #[.pointer (some ⟨w.heap.size,0,none⟩)])/\w.alloc (.cells #[qS a len cap] 23)=w':=by
 go_enter Tryz.func182,Tryz.ntmps182;go_wp2;go_ret;exact⟨rfl,rfl⟩
theorem Z94 {α:Type} (encA:α->Array Value) (f:Nat->α) (n:Nat) (hn:1<=n) (p:Nat->Prop) (Bs b cap:Nat) (ps:List Pt) (w:World) (hBs:p Bs) (hb:p b) (hpp:∀ b,p b->b<w.heap.size) (hlen:ps.length<=70368744177663)
  (hB:w.cell? ⟨Bs,0,none⟩=some (qS (some ⟨b,0,none⟩) ps.length cap))
  (hc:∀ j,j<ps.length->w.cell? ⟨b,j*2,none⟩=some (O qL (nth ps j).x)/\w.cell? ⟨b,j*2+1,none⟩=some (O qL (nth ps j).y))
  (hf:∀ i,i<ps.length->encA (f i)=#[O qL ((ps.length-1-i:Nat):Int),.agg #[O qL (nth ps (ps.length-1-i)).x,O qL (nth ps (ps.length-1-i)).y]]) :
  SeqStopsK Fence.wide n Tryz.prog 191 #[.pointer (some ⟨Bs,0,none⟩)] encA (KeepsP p) (fun ys=>ys=upto f ps.length)
   (fun pre=>∃ k,k<=ps.length/\pre=upto f k) ps.length w:=fun l J Jx W hW hJ _ hY h0 =>
 Zci encA f n hn p W l Bs b cap ps hlen hb hBs (fun b hb=>Nat.lt_of_lt_of_le (hpp b hb) hW.size) hf J Jx hJ hY ((hW.cell (p:=⟨Bs,0,none⟩) (hpp Bs hBs)).trans hB)
  (fun j hj=>⟨(hW.cell (p:=⟨b,j*2,none⟩) (hpp b hb)).trans (hc j hj).1,(hW.cell (p:=⟨b,j*2+1,none⟩) (hpp b hb)).trans (hc j hj).2⟩) h0
end
end Go.Proofs.YthipcinibldgnaaGreat
