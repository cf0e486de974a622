/- slices.Clone at points; (*hull.chain).push. | slices.Compact at points, in a row of the call's own. (Printed by tools/mkcompact.py.) | Plain: sorte .. -/
import Derived.Lib.SliceRun
import Derived.ArgAppend
import Derived.Test.YtdolkgihppgpcaaGreatBin19
set_option linter.unusedSimpArgs false
set_option linter.unusedVariables false
set_option maxRecDepth 8000
set_option maxHeartbeats 6000000
namespace Go.Proofs.YtdolkgihppgpcaaGreat
section
attribute [local irreducible] wpQuiet
open Go.RowKit Go.Shelf
theorem Z8o (v:Value) (l:List Pt) (w:World) (hp:Z8 w.heap.size w v l) (h0:0<l.length) (hl:l.length≤1000000) :
  Calls Tryz.prog 124 #[v] w fun e w'=>∃ v',e=.returned v'∧w'.ownsRow w.heap.size 31 2 v' l.length (Za l)∧Below w.heap.size w w':=by
 have hpw:=Lib.hid hp;obtain⟨_,a,cap,rfl,hc⟩:=hp;obtain⟨b,o,rfl,hb,hc⟩:=hc.resolve_left (by intro h;rw [h] at h0;simp at h0)
 have q22:∀ (w:World) (a:Option Addr) (n c n' c':Nat),(binOp .eql 23 (.slice a n c) (.slice none n' c')).run Tryz.prog w=.ok (.bool a.isNone) w:=fun w a n c n' c'=>Lib.run_eql_slice_nil w _ _ a n c n' c' Tryz.underlying23
 have hA:=Lib.hid ((Below.refl w.heap.size w).alloc (Nat.le_refl _) (.cells #[] 31));have hr:=Lib.hid (World.ownsRow_lit (base:=w.heap.size) (e:=31) (size:=2) w #[] 0 (Nat.le_refl _) (by unfold maxLen;omega) (by simp))
 have hP:=Lib.hid ((hpw.out.below ((Below.refl w.heap.size w).alloc (Nat.le_refl _) (.cells #[] 31))).mono hA.out.size);clear hc;go_enter Tryz.func124,Tryz.ntmps124;go_wp2_with (at_builtin;refine Z1G rfl _ _ rfl w.heap.size _ 0 [] rfl hr.out _ l rfl hP.out (by omega) hA.out.size ?_;intro v' w2 r2 g2 _)
 have B2:=hA.out.trans (Z8x hr.out g2 (Nat.le_refl _) hA.out.size);have R2:w2.ownsRow w.heap.size 31 2 v' l.length (Za l):=by simpa using r2
 go_ret;exact⟨_,rfl,R2,B2⟩
theorem Z4Y {W:World} {base n m:Nat} {g cap:Nat} {l:List Pt} (h:W.ownsRow base 31 2 (.slice (some ⟨g,0,none⟩) n cap) n (Za l)) (hm:m≤n):W.ownsRow base 31 2 (.slice (some ⟨g,0,none⟩) m cap) m (Za (l.take m)):=by
 have hn:l.length=n:=by have:=h.1;rw [Zt] at this;omega
 refine⟨by rw [Zt,List.length_take];omega,?_⟩
 rcases h.2 with⟨h',_⟩ | ⟨g',cap',cur,h',hb,hg,hnc,hcm,hcs,htake⟩
 ·simp at h'
 ·simp only [Value.slice.injEq,Option.some.injEq,Addr.mk.injEq,and_true,true_and] at h'
  obtain⟨rfl,rfl⟩:=h';refine .inr ⟨g,cap,cur,rfl,hb,hg,by omega,hcm,hcs,?_⟩
  have e:Za l=Za (l.take m)++Za (l.drop m):=by rw [← ZL,List.take_append_drop]
  have e2:cur.toList.take (m*2)=(cur.toList.take (n*2)).take (m*2):=by rw [List.take_take];congr 1;omega
  rw [e2,htake,e,List.take_left' (by rw [Zt,List.length_take];omega)]
theorem Z0c {W:World} {base n:Nat} {v:Value} {e:TypeId} {size:Nat} {xs:List Value} (h:W.ownsRow base e size v n xs):(v=.slice none 0 0∧n=0)∨∃ g cap,v=.slice (some ⟨g,0,none⟩) n cap∧n≤cap:=by
 rcases h.2 with h' | ⟨g,cap,cur,h',_,_,hn,_⟩
 ·exact .inl h'
 ·exact .inr ⟨g,cap,h',hn⟩
theorem Z0k {W:World} {base n:Nat} {v:Value} {e:TypeId} {size:Nat} {xs:List Value} (h:W.ownsRow base e size v n xs) (hn:0<n):∃ g cap,v=.slice (some ⟨g,0,none⟩) n cap:=by
 rcases Z0c h with⟨_,h0⟩ | ⟨g,cap,h,_⟩
 ·omega
 ·exact⟨g,cap,h⟩
theorem Z2p {W:World} {base n:Nat} {g cap:Nat} {l:List Pt} (h:W.ownsRow base 31 2 (.slice (some ⟨g,0,none⟩) n cap) n (Za l)) {j:Nat} (hj:j<n):W.cell? ⟨g,j*2,none⟩=some (.int .i64 (nth l j).x)∧W.cell? ⟨g,j*2+1,none⟩=some (.int .i64 (nth l j).y):=by
 have hn:l.length=n:=by have:=h.1;rw [Zt] at this;omega
 obtain⟨f0,f1⟩:=ZZ l j (by omega)
 exact⟨(h.cellAt (j*2) (by omega)).trans f0,(h.cellAt (j*2+1) (by omega)).trans f1⟩
structure Pushed (Bc n0:Nat) (vc:Value) (l:List Pt) (w w':World):Prop where
 size:w.heap.size≤w'.heap.size
 os:w'.os=w.os
 tape:w'.tape=w.tape
 output:w'.output=w.output
 row:∃ v',Has w' Bc #[v'] 171∧w'.ownsRow n0 31 2 v' l.length (Za l)∧(v'.ownBlock=vc.ownBlock∨∃ g,v'.ownBlock=some g∧w.heap.size≤g)
 kept:∀ b,b<w.heap.size→b≠Bc→vc.ownBlock≠some b→w'.heap[b]?=w.heap[b]?
theorem Z35 {Bc n0 K:Nat} {vc u v':Value} {l l':List Pt} {x:Pt} {w W w4:World} (hl':l'=l.take K++[x]) (hK:K≤l.length) (hob:u.ownBlock=vc.ownBlock) (hne:vc.ownBlock≠some Bc) (GX:Has W Bc #[vc] 171) (BX:Below w.heap.size w W) (lB:Bc<w.heap.size)
  (hown':w4.ownsRow n0 31 2 v' (K+1) (Za (l.take K)++[.int .i64 x.x,.int .i64 x.y])) (hgrow:W.grownBy w4 u.ownBlock) (hob':v'.ownBlock=u.ownBlock∨v'.ownBlock=some W.heap.size):Pushed Bc n0 vc l' w (w4.setCell ⟨Bc,0,none⟩ v'):=by
 have hz:=hgrow.size;have hzB:=BX.size;have GC:=GX.kept hgrow (by rw [hob];exact hne)
 have hown2:w4.ownsRow n0 31 2 v' l'.length (Za l'):=by
  rw [hl',ZL,List.length_append,List.length_take,Nat.min_eq_left hK];exact hown'
 have nb:v'.ownBlock≠some Bc:=by
  rcases hob' with h | h
  ·rw [h,hob];exact hne
  ·rw [h];intro h';cases h';exact absurd lB (by omega)
 refine⟨by simp [World.setCell];omega,hgrow.os.trans BX.os,hgrow.tape.trans BX.tape,hgrow.output.trans BX.output,⟨v',GC.set 0 v',Z08 hown2 fun g hg=>Below.heap_setCell _ _ _ _ (fun h=>nb (by rw [hg];exact congrArg some h)),?_⟩,fun b hb h1 h2=>?_⟩
 ·rcases hob' with h | h
  ·exact .inl (by rw [h,hob])
  ·exact .inr ⟨_,h,hzB⟩
 ·rw [Below.heap_setCell _ _ _ _ (by exact h1),hgrow.block b (by omega) (fun h=>h2 (by rw [← hob];exact h.symm))]
  exact BX.block b hb
theorem Z5O (Bc n0 : Nat) (vc : Value) (l : List Pt) (x : Pt) (w : World) (hB : Has w Bc #[vc] 171) (hr : w.ownsRow n0 31 2 vc l.length (Za l)) (hn0 : n0 ≤ w.heap.size) (hne : vc.ownBlock ≠ some Bc)
  (hl:∀ k,k<l.length→Z4 (nth l k)=true) (hx:Z4 x=true) (hsz:l.length≤100000) :
  Calls Tryz.prog 128 #[.pointer (some ⟨Bc,0,none⟩),.agg #[.int .i64 x.x,.int .i64 x.y]] w fun e w'=>e=.returned (.tuple #[])∧Pushed Bc n0 vc (pushP l x) w w':=by
 obtain⟨x,y⟩:=x;have px:=Zu hx;simp only at px;have lB:=hB.lt;have hA:=(Below.refl w.heap.size w).alloc (Nat.le_refl _) (.cells #[.int .i64 x,.int .i64 y] 31);have hN:=Has.new w #[.int .i64 x,.int .i64 y] 31;have hB1:=hB.below hA lB;have hr1:=Zr hr hA;have b0:=hB1.cell (i:=0) rfl;have hs1:w.heap.size<(w.alloc (.cells #[.int .i64 x,.int .i64 y] 31)).heap.size:=by simp
 obtain⟨i0,hi,hz0',hz1',hz2'⟩:=info_parts ptInfo;obtain⟨W1,hW1⟩:∃ W1,w.alloc (.cells #[.int .i64 x,.int .i64 y] 31)=W1:=⟨_,rfl⟩;rw [hW1] at hA hN hB1 hr1 b0 hs1;have HW:=Lib.hid hW1;have HA:=Lib.hid hA;have HN:=Lib.hid hN;have HB:=Lib.hid hB1;have HR:=Lib.hid hr1;have HL:=Lib.hid (fun k hk=>Zu (hl k hk))
 have hpu:Hid (pushP l ⟨x,y⟩=l.take (keepN l ⟨x,y⟩ l.length)++[⟨x,y⟩]):=rfl;have hkl:=Lib.hid (Z0l l ⟨x,y⟩ l.length);have hsh:=Z0c hr1;clear hW1 hA hN hB1 hr1 hl hx hB hr;go_enter Tryz.func128,Tryz.ntmps128;go_upto_region 1 with fail
 rw [HW.out];go_wp2
 go_loopw [4] (fun v wr=>∃ k:Nat,k≤l.length∧keepN l ⟨x,y⟩ l.length=keepN l ⟨x,y⟩ k∧wr.ownsRow n0 31 2 v k (Za (l.take k))∧v.ownBlock=vc.ownBlock∧Below W1.heap.size W1 wr) (fun v _=>lenOf v)
 case atStart=>exact⟨l.length,Nat.le_refl _,rfl,by rw [List.take_length];exact HR.out,rfl,Below.refl _ _⟩
 case round =>
  obtain⟨k,hk,hkeep,hrow,hob,hBw⟩:=hrel;have hzB:=hBw.size;have hlen:=Z9O hrow;have N:=HN.out.below hBw hs1;have n0':=Low.fact (N.cell (i:=0) rfl);have n1':=Low.fact (N.cell (i:=1) rfl);have hsh:=Z0c hrow;have HRW:=Lib.hid hrow;have HBW:=Lib.hid hBw;by_cases h2:1<k
  ·obtain⟨j,rfl⟩:∃ j,k=j+2:=⟨k-2,by omega⟩
   obtain⟨g,cap,rfl,hcap⟩:=hsh.resolve_left (fun h=>by omega)
   have hT:∀ i,i<j+2→nth (l.take (j+2)) i=nth l i:=fun i hi=>by
    simp [nth,List.getD_eq_getElem?_getD,List.getElem?_take,hi]
   have q:=Z2p hrow (j:=j) (by omega)
   have q':=Z2p hrow (j:=j+1) (by omega)
   rw [hT j (by omega)] at q
   rw [hT (j+1) (by omega)] at q'
   have pa:=HL.out j (by omega)
   have pb:=HL.out (j+1) (by omega)
   have hstep:keepN l ⟨x,y⟩ (j+2)=if 0<j+1∧Z6 (nth l j) (nth l (j+1)) ⟨x,y⟩≤0 then keepN l ⟨x,y⟩ (j+1) else j+2:=rfl
   obtain⟨⟨ax,ay⟩,hea⟩:∃ t,nth l j=t:=⟨_,rfl⟩;obtain⟨⟨bx,by'⟩,heb⟩:∃ t,nth l (j+1)=t:=⟨_,rfl⟩
   rw [hea] at q pa hstep;rw [heb] at q' pb hstep;simp only at q q' pa pb;have ht:=Lib.hid (fun w1=>Z0W ax ay bx by' x y w1 (by omega) (by omega) (by omega) (by omega) (by omega) (by omega) (by omega) (by omega) (by omega) (by omega) (by omega) (by omega))
   have htt:Z6 ⟨ax,ay⟩ ⟨bx,by'⟩ ⟨x,y⟩=turnV ax ay bx by' x y:=rfl
   rw [htt] at hstep;obtain⟨c,hc⟩:∃ c,turnV ax ay bx by' x y=c:=⟨_,rfl⟩
   rw [hc] at ht hstep;have c0:=Low.fact q.1;have c1:=Low.fact q.2;have c2:=Low.fact q'.1;have c3:=Low.fact q'.2;have d1:decide (((j+2:Nat):Int)>1)=true:=by simp;omega
   have m1:IntKind.i64.wrap (((j+2:Nat):Int)-2)=(j:Int):=by rw [show ((j+2:Nat):Int)-2=(j:Int) by omega];exact zW2
   have m2:IntKind.i64.wrap (((j+2:Nat):Int)-1)=((j+1:Nat):Int):=by rw [show ((j+2:Nat):Int)-1=((j+1:Nat):Int) by omega];exact zW2
   obtain⟨K,hK⟩:∃ K:Nat,j+2=K:=⟨_,rfl⟩;obtain⟨J,hJ⟩:∃ J:Nat,j+1=J:=⟨_,rfl⟩;rw [hK] at d1 m1 m2;rw [hJ] at m2 c2 c3;have l1:(j:Int)<(K:Int):=by omega
   have l2:(0:Int)≤(j:Int):=by omega
   have l3:(J:Int)<(K:Int):=by omega
   have l4:(0:Int)≤(J:Int):=by omega
   have l5:J≤K:=by omega
   have l6:J≤cap:=by omega
   have l7:(J:Int)≤(cap:Int):=by omega
   simp only [hK] at HRW hcap hlen hkeep hob ⊢;have hnb:(Value.slice (some ⟨g,0,none⟩) K cap).ownBlock≠some Bc:=by rw [hob];exact hne
   have HST:=Lib.hid hstep;clear hea heb hc htt q q' pa pb hstep hT hrow hBw N hsh;by_cases hcc:c≤0
   ·have d2:decide (c≤0)=true:=by simpa using hcc
    go_wp2
    (refine Zh (by kernel_rfl) (by kernel_rfl) ?_;(iterate 20 (apply Zf;(case hw=>rfl);(case hval=>(intro w1 hw1;have hcx:=Low.cells hw1;simp only [Oper.quietAt];go_simp;first | done | (first | (go_at_call 49;exact Low.calls hw1 (ht.out _))) | rfl | exact⟨rfl,rfl⟩));simp only [Act.put,zq4,zr4,zs4]));refine wpQuiet_nil ?_;intro w2 hw2)
    have R2:=Lib.hid (Zr HRW.out hw2.out);have B2:=Lib.hid (HBW.out.trans (hw2.out.mono hzB));clear hw2 n0' n1' c0 c1 c2 c3;go_wp2;go_roundw
    case rel =>
     refine⟨J,by omega,?_,?_,hob,B2.out⟩
     ·rw [hkeep,← hK,HST.out,if_pos ⟨by omega,hcc⟩,hJ]
     ·have:=Z4Y (m:=J) R2.out (by omega)
      rw [List.take_take,Nat.min_eq_left (by omega)] at this
      exact this
    case measure=>simp [lenOf];omega
   ·have d2:decide (c≤0)=false:=by simp;omega
    have hfin:keepN l ⟨x,y⟩ l.length=K:=by rw [hkeep,← hK,HST.out,if_neg (fun h=>hcc h.2)]
    go_wp2
    (refine Zh (by kernel_rfl) (by kernel_rfl) ?_;(iterate 20 (apply Zf;(case hw=>rfl);(case hval=>(intro w1 hw1;have hcx:=Low.cells hw1;simp only [Oper.quietAt];go_simp;first | done | (first | (go_at_call 49;exact Low.calls hw1 (ht.out _))) | rfl | exact⟨rfl,rfl⟩));simp only [Act.put,zq4,zr4,zs4]));refine wpQuiet_nil ?_;intro w2 hw2)
    have R2:=Zr HRW.out hw2.out;have B2:=HBW.out.trans (hw2.out.mono hzB);have N2:=HN.out.below B2 hs1;have z2:=B2.size;have p0:=N2.cell (i:=0) rfl;have p1:=N2.cell (i:=1) rfl;have GB:=HB.out.below B2 (by omega)
    have hzc:K≤100000:=by omega
    have AX:=(Below.refl w2.heap.size w2).alloc (Nat.le_refl _) (.cells #[.int .i64 x,.int .i64 y] 31);have RX:=Lib.hid (Zr R2 AX);have GX:=Lib.hid (GB.below AX (by omega))
    have sX:(w2.alloc (.cells #[.int .i64 x,.int .i64 y] 31)).heap.size=w2.heap.size+1:=by simp
    have BX:=Lib.hid (HA.out.trans ((B2.mono (by omega)).trans (AX.mono (by omega))))
    clear hw2 n0' n1' N2 GB R2 AX;go_wp2_with (at_builtin;refine wpList_append_own_at _ rfl _ _ 171 rfl n0 31 i0 (.agg #[.int .i64 0,.int .i64 0]) 2 16 Tryz.underlying171 hi hz0' hz1' hz2' rfl (by decide) _ _ _ rfl RX.out ⟨w2.heap.size,0,none⟩ 1 1 [.int .i64 x,.int .i64 y] rfl rfl (Z1Z _ _ _) (by simp [Value.oneCell']) (by unfold maxLen;omega) (by omega) (by omega) ?_;intro v' w4 hown' hgrow _ hob';obtain⟨ga,ca,rfl⟩:=Z0k hown' (by omega);have GC:=GX.out.kept hgrow hnb;have gc0:w4.cell? ⟨Bc,0,none⟩=some vc:=GC.cell (i:=0) rfl;have gc1:=Ze GC 0;have FIN:=Lib.hid (Z35 (hpu.out.trans (by rw [hfin])) (by omega) hob hne GX.out BX.out lB hown' hgrow hob');clear hown' hgrow GC)
    go_wp2;go_end0;exact⟨rfl,FIN.out⟩
  ·have hfin:keepN l ⟨x,y⟩ l.length=k:=by
    rw [hkeep];rcases (show k=0∨k=1 by omega) with rfl | rfl
    ·rfl
    ·simp [keepN]
   have d1:decide ((k:Int)>1)=false:=by simp;omega
   obtain⟨av,cv,hvv⟩:∃ av cv,u4=.slice av k cv:=by
    rcases hsh with⟨h,h0⟩ | ⟨g,cap,h,_⟩
    ·exact⟨none,0,by rw [h,h0]⟩
    ·exact⟨_,_,h⟩
   obtain⟨K,hK⟩:∃ K:Nat,k=K:=⟨_,rfl⟩;rw [hK] at hfin d1 HRW hvv;subst hvv;have hnb:(Value.slice av K cv).ownBlock≠some Bc:=by rw [hob];exact hne
   clear hrow hBw N hsh;go_wp2
   (refine Zh (by kernel_rfl) (by kernel_rfl) ?_;(iterate 4 (apply Zf;(case hw=>rfl);(case hval=>(intro w1 hw1;have hcx:=Low.cells hw1;simp only [Oper.quietAt];go_simp;first | done | rfl | exact⟨rfl,rfl⟩));simp only [Act.put,zq4,zr4,zs4]));(iterate 15 (apply Zy;(case hw=>rfl);simp only [Act.put,zq4,zr4,zs4]));(iterate 1 (apply Zf;(case hw=>rfl);(case hval=>(intro w1 hw1;have hcx:=Low.cells hw1;simp only [Oper.quietAt];go_simp;first | done | rfl | exact⟨rfl,rfl⟩));simp only [Act.put,zq4,zr4,zs4]));refine wpQuiet_nil ?_;intro w2 hw2)
   have R2:=Zr HRW.out hw2.out;have B2:=HBW.out.trans (hw2.out.mono hzB);have N2:=HN.out.below B2 hs1;have z2:=B2.size;have p0:=N2.cell (i:=0) rfl;have p1:=N2.cell (i:=1) rfl;have GB:=HB.out.below B2 (by omega)
   have hzc:K≤100000:=by omega
   have AX:=(Below.refl w2.heap.size w2).alloc (Nat.le_refl _) (.cells #[.int .i64 x,.int .i64 y] 31);have RX:=Lib.hid (Zr R2 AX);have GX:=Lib.hid (GB.below AX (by omega))
   have sX:(w2.alloc (.cells #[.int .i64 x,.int .i64 y] 31)).heap.size=w2.heap.size+1:=by simp
   have BX:=Lib.hid (HA.out.trans ((B2.mono (by omega)).trans (AX.mono (by omega))))
   clear hw2 n0' n1' N2 GB R2 AX;go_wp2_with (at_builtin;refine wpList_append_own_at _ rfl _ _ 171 rfl n0 31 i0 (.agg #[.int .i64 0,.int .i64 0]) 2 16 Tryz.underlying171 hi hz0' hz1' hz2' rfl (by decide) _ _ _ rfl RX.out ⟨w2.heap.size,0,none⟩ 1 1 [.int .i64 x,.int .i64 y] rfl rfl (Z1Z _ _ _) (by simp [Value.oneCell']) (by unfold maxLen;omega) (by omega) (by omega) ?_;intro v' w4 hown' hgrow _ hob';obtain⟨ga,ca,rfl⟩:=Z0k hown' (by omega);have GC:=GX.out.kept hgrow hnb;have gc0:w4.cell? ⟨Bc,0,none⟩=some vc:=GC.cell (i:=0) rfl;have gc1:=Ze GC 0;have FIN:=Lib.hid (Z35 (hpu.out.trans (by rw [hfin])) (by omega) hob hne GX.out BX.out lB hown' hgrow hob');clear hown' hgrow GC)
   go_wp2;go_end0;exact⟨rfl,FIN.out⟩
def ddTo (l:List Pt):Nat→List Pt
 | 0=>[]
 | k+1=>if k=0∨nth l k≠nth l (k-1) then ddTo l k++[nth l k] else ddTo l k
def ddP (l:List Pt):List Pt:=ddTo l l.length
theorem Z6a (l:List Pt):∀ k,(ddTo l k).length≤k
 | 0=>Nat.le_refl _
 | k + 1 => by
  have:=Z6a l k;simp only [ddTo]
  split
  ·simp;omega
  ·omega
theorem Z2s:∀ (l:List Pt) (k:Nat) (p:Pt),k<l.length→((Za l).set (k*2) (.int .i64 p.x)).set (k*2+1) (.int .i64 p.y)=Za (l.set k p)
 | [],k,p,h=>by simp at h
 | a::l,0,p,h=>by simp [Za]
 | a :: l, k + 1, p, h => by
  have ih:=Z2s l k p (by simpa using h)
  have e:Za (a::l)=.int .i64 a.x::.int .i64 a.y::Za l:=rfl;have e2:Za ((a::l).set (k+1) p)=.int .i64 a.x::.int .i64 a.y::Za (l.set k p):=rfl;rw [e,e2,← ih,show (k+1)*2=k*2+1+1 by omega]
  rfl
theorem Z4c (l:List Pt) (k:Nat):(Za l).take (k*2)=Za (l.take k):=by
 by_cases h:k≤l.length
 ·have e:Za l=Za (l.take k)++Za (l.drop k):=by rw [← ZL,List.take_append_drop]
  rw [e,List.take_left' (by rw [Zt,List.length_take];omega)]
 ·rw [List.take_of_length_le (by rw [Zt];omega),List.take_of_length_le (l:=l) (by omega)]
theorem Z8J {W:World} {base n m:Nat} {g cap:Nat} {xs:List Value} (h:W.ownsRow base 31 2 (.slice (some ⟨g,0,none⟩) n cap) n xs) (hm:m≤n):W.ownsRow base 31 2 (.slice (some ⟨g,0,none⟩) m cap) m (xs.take (m*2)):=by
 have h1:=h.1;refine⟨by rw [List.length_take];omega,?_⟩
 rcases h.2 with⟨h',_⟩ | ⟨g',cap',cur,h',hb,hg,hnc,hcm,hcs,htake⟩
 ·simp at h'
 ·simp only [Value.slice.injEq,Option.some.injEq,Addr.mk.injEq,and_true,true_and] at h'
  obtain⟨rfl,rfl⟩:=h';exact .inr ⟨g,cap,cur,rfl,hb,hg,by omega,hcm,hcs,by rw [← htake,List.take_take];congr 1;omega⟩
theorem Z46 {base g n cap o0:Nat}:∀ (vs:List Value) (o:Nat) (W:World) (xs:List Value),o0≤o→W.ownsRow base 31 2 (.slice (some ⟨g,0,none⟩) n cap) n xs →
  ∃ ys,(W.setCells g o vs).ownsRow base 31 2 (.slice (some ⟨g,0,none⟩) n cap) n ys∧ys.take o0=xs.take o0∧W.grownBy (W.setCells g o vs) (some g)
 | [],o,W,xs,_,h=>⟨xs,h,rfl,World.grownBy.refl _ _⟩
 | v :: vs, o, W, xs, ho, h => by
  obtain⟨h1,h2⟩:=h.stored o v;obtain⟨ys,a,b,c⟩:=Z46 (o0:=o0) vs (o+1) _ _ (by omega) h1
  exact⟨ys,a,by rw [b,List.take_set_of_le ho],h2.trans c⟩
theorem Z3y (w:World) (ty:TypeId) (b o n c:Nat) (hn:0<n) (hc:∀ j,j<n*2→(w.cell? ⟨b,o+j,none⟩).isSome=true) (hf:∀ j,j<n*2→w.frozen? ⟨b,o+j,none⟩=false) :
  (Builtin.clear_ #[23] ty #[.slice (some ⟨b,o,none⟩) n c]).run Tryz.prog w=.ok (.tuple #[]) (w.setCells b o (Builtin.zeroCells #[.int .i64 0,.int .i64 0] n).toList):=by
 have hv:∀ w,(zeroValue 31).run Tryz.prog w=.ok (.agg #[.int .i64 0,.int .i64 0]) w:=fun w=>by
  obtain⟨i0,hi,hz,_,_⟩:=info_parts ptInfo;simp [zeroValue,typeInfo,hi,hz]
 have hlen:(Builtin.zeroCells #[.int .i64 0,.int .i64 0] n).toList.length=n*2:=by simp [Builtin.zeroCells]
 have h1:∀ v ∈ (Builtin.zeroCells #[.int .i64 0,.int .i64 0] n).toList,v.oneCell'=true:=fun v hv=>by
  simp only [Builtin.zeroCells,Array.toList_map,List.mem_map] at hv;obtain⟨i,_,rfl⟩:=hv;have:i % 2=0∨i % 2=1:=by omega
  rcases this with h | h <;> simp [h,Value.oneCell']
 have hst:=run_storeCells_cells (P:=Tryz.prog) b o _ 0 w (by intro j hj;rw [Nat.add_zero];exact hc j (by rw [← hlen];exact hj)) (by intro j hj;rw [Nat.add_zero];exact hf j (by rw [← hlen];exact hj)) h1
 simp only [Nat.add_zero] at hst;obtain⟨m,rfl⟩:∃ m,n=m+1:=⟨n-1,by omega⟩
 have hz:(Value.agg #[.int .i64 0,.int .i64 0]).cells=#[.int .i64 0,.int .i64 0]:=rfl;simp [Builtin.clear_,run_underlying Tryz.underlying23,hv,hz,hst]
theorem Z5m {w w1 w2:World} {row:Option Nat} (h:w.grownBy w1 row) (hb:Below w1.heap.size w1 w2):w.grownBy w2 row :=
 ⟨hb.os.trans h.os,hb.tape.trans h.tape,hb.output.trans h.output,Nat.le_trans h.size hb.size,fun k hk hne=>(hb.block k (Nat.lt_of_lt_of_le hk h.size)).trans (h.block k hk hne)⟩
def CR (base g cap n:Nat) (L:List Pt) (w W:World):Prop:=L.length=n∧W.ownsRow base 31 2 (.slice (some ⟨g,0,none⟩) n cap) n (Za L)∧w.grownBy W (some g)
theorem CR.below {base g cap n:Nat} {L:List Pt} {w W W':World} (h:CR base g cap n L w W) (hb:Below W.heap.size W W'):CR base g cap n L w W':=⟨h.1,Zr h.2.1 hb,Z5m h.2.2 hb⟩
theorem CR.at {base g cap n:Nat} {L:List Pt} {w W:World} (h:CR base g cap n L w W) {j:Nat} (hj:j<n):W.cell? ⟨g,j*2,none⟩=some (.int .i64 (nth L j).x)∧W.cell? ⟨g,j*2+1,none⟩=some (.int .i64 (nth L j).y):=Z2p h.2.1 hj
theorem CR.free {base g cap n:Nat} {L:List Pt} {w W:World} (h:CR base g cap n L w W) (j:Nat):W.frozen? ⟨g,j,none⟩=false:=h.2.1.frozenAt j
theorem CR.put {base g cap n:Nat} {L:List Pt} {w W:World} (h:CR base g cap n L w W) {k:Nat} (hk:k<n) (p:Pt):CR base g cap n (L.set k p) w ((W.setCell ⟨g,k*2,none⟩ (.int .i64 p.x)).setCell ⟨g,k*2+1,none⟩ (.int .i64 p.y)):=by
 obtain⟨a1,a2⟩:=h.2.1.stored (k*2) (.int .i64 p.x);obtain⟨b1,b2⟩:=a1.stored (k*2+1) (.int .i64 p.y);rw [Z2s L k p (by rw [h.1];exact hk)] at b1
 exact⟨by rw [List.length_set];exact h.1,b1,(h.2.2.trans a2).trans b2⟩
theorem Z36 {l:List Pt} {k j:Nat} {p:Pt} (h:j≠k):nth (l.set k p) j=nth l j:=by
 simp [nth,List.getD_eq_getElem?_getD,Ne.symm h]
theorem Z1m {l:List Pt} {k:Nat} {p:Pt} (h:k<l.length):(l.set k p).take (k+1)=l.take k++[p]:=by
 rw [List.take_add_one,List.getElem?_set_self h,List.take_set_of_le (Nat.le_refl _)]
 rfl
theorem Z5t (base g cap : Nat) (l : List Pt) (w : World) (hr : w.ownsRow base 31 2 (.slice (some ⟨g, 0, none⟩) l.length cap) l.length (Za l)) (hsz : l.length ≤ 1000000) (h1 : 0 < l.length) :
  Calls Tryz.prog 127 #[.slice (some ⟨g,0,none⟩) l.length cap] w fun e w'=>e=.returned (.slice (some ⟨g,0,none⟩) (ddP l).length cap)∧w'.ownsRow base 31 2 (.slice (some ⟨g,0,none⟩) (ddP l).length cap) (ddP l).length (Za (ddP l))∧w.grownBy w' (some g):=by
 have hcap:l.length≤cap:=by
  rcases Z0c hr with⟨h,_⟩ | ⟨_,_,h,hc⟩
  ·simp at h
  ·simp only [Value.slice.injEq] at h;omega
 by_cases hlt:l.length<2
 ·have e:ddP l=l:=by
   match l,h1 with
   | [a],_=>rfl
   | a::b::r,_=>simp at hlt;omega
  rw [e];have d1:decide ((l.length:Int)<2)=true:=by simp;omega
  have HR:=Lib.hid hr;clear hr e;go_enter Tryz.func127,Tryz.ntmps127;go_wp2;go_ret;exact⟨rfl,HR.out,World.grownBy.refl _ _⟩
 have d1:decide ((l.length:Int)<2)=false:=by simp;omega
 have HR:Hid (CR base g cap l.length l w w):=⟨rfl,hr,World.grownBy.refl _ _⟩;clear hr;go_enter Tryz.func127,Tryz.ntmps127;go_wp2
 go_loopw [3] (fun i wr=>∃ k:Nat,1≤k∧k≤l.length∧i=.int .i64 (k:Int)∧ddTo l k=l.take k∧CR base g cap l.length l w wr) (fun i _=>l.length+1-(intOf i).toNat)
 case atStart =>
  refine⟨1,by omega,by omega,rfl,?_,HR.out⟩
  cases l with
  | nil=>simp at h1
  | cons a r=>rfl
 case round =>
  obtain⟨k0,hk1,hk,rfl,hdd,hcr⟩:=hrel;have HCR:=Lib.hid hcr;have HDD:=Lib.hid hdd;clear HR;by_cases hlk:k0<l.length
  ·have q := hcr.at (j := k0) hlk
   have q':=hcr.at (j:=k0-1) (by omega)
   obtain⟨⟨px,py⟩,hp⟩:∃ p,nth l k0=p:=⟨_,rfl⟩;obtain⟨⟨rx,ry⟩,hq⟩:∃ p,nth l (k0-1)=p:=⟨_,rfl⟩;rw [hp] at q;rw [hq] at q';have p0:=Low.fact q.1;have p1:=Low.fact q.2;have r0:=Low.fact q'.1;have r1:=Low.fact q'.2;have HP:=Lib.hid (And.intro hp hq);have dk:decide ((k0:Int)<(l.length:Int))=true:=by simp;omega
   have kl:(k0:Int)<l.length:=by omega
   have kz:(0:Int)≤k0:=by omega
   have m1:IntKind.i64.wrap ((k0:Int)-1)=(k0:Int)-1:=zW2;have j2:(0:Int)≤(k0:Int)-1:=by omega
   have j20:(1:Int)≤k0:=by omega
   have j3:(k0:Int)-1<l.length:=by omega
   have j4:((k0:Int)-1).toNat=k0-1:=by omega
   have j5:k0≤l.length:=by omega
   have j6:k0≤cap:=by omega
   have j7:(k0:Int)≤(l.length:Int):=by omega
   have j8:(k0:Int)≤(cap:Int):=by omega
   have j9:((l.length-k0:Nat):Int)=(l.length:Int)-k0:=by omega
   clear hcr q q' hdd hp hq;rcases (show (px=rx∧py=ry)∨(px=rx∧¬ py=ry)∨¬ px=rx by omega) with⟨e1,e2⟩ | hne
   ·obtain rfl:=e1.symm
    obtain rfl:=e2.symm;go_wp2
    (refine Zh (by kernel_rfl) (by kernel_rfl) ?_;(iterate 10 (apply Zf;(case hw=>rfl);(case hval=>(intro w1 hw1;have hcx:=Low.cells hw1;simp only [Oper.quietAt];go_simp;first | done | rfl | exact⟨rfl,rfl⟩));simp only [Act.put,zq4,zr4,zs4]));refine wpQuiet_nil ?_;intro w2 hw2)
    have H0:=Lib.hid (HCR.out.below hw2.out);clear hw2 p0 p1 r0 r1 HCR;go_wp2
    go_loopw [3,5] (fun i j wr=>∃ (kk k2:Nat) (L:List Pt),i=.int .i64 (kk:Int)∧j=.int .i64 (k2:Int)∧1≤kk∧1≤k2∧k0+k2≤l.length∧kk≤k0+k2-1∧CR base g cap l.length L w wr∧L.take kk=ddTo l (k0+k2)∧∀ j,k0+k2-1≤j→j<l.length→nth L j=nth l j) (fun _ j _=>l.length+1-(intOf j).toNat)
    case atStart =>
     refine⟨k0,1,l,rfl,rfl,hk1,by omega,by omega,by omega,H0.out,?_,fun _ _ _=>rfl⟩
     simp only [ddTo];rw [if_neg (by rintro (h | h);omega;exact h (by rw [HP.out.1,HP.out.2])),HDD.out]
    case round =>
     obtain⟨kk,k2,L,rfl,rfl,hkk,hk2,hkn,hkk2,hcr,hpre',hpost'⟩:=hrel;have HCR:=Lib.hid hcr;have hpre:=Lib.hid hpre';have hpost:=Lib.hid hpost';clear HP HDD H0;by_cases hl2:k0+k2<l.length
     ·have q:=hcr.at (j:=k0+k2) (by omega)
      have q':=hcr.at (j:=k0+k2-1) (by omega)
      have a1:=hpost' (k0+k2) (by omega) (by omega)
      have a2:=hpost' (k0+k2-1) (by omega) (by omega)
      obtain⟨⟨px,py⟩,hpx⟩:∃ p,nth L (k0+k2)=p:=⟨_,rfl⟩;obtain⟨⟨rx,ry⟩,hrx⟩:∃ p,nth L (k0+k2-1)=p:=⟨_,rfl⟩;rw [hpx] at q a1;rw [hrx] at q' a2;have hl1:=Lib.hid a1.symm;have hl2':=Lib.hid a2.symm;have hl2:=hl2';simp only [Nat.add_mul] at q;rw [show (k0+k2-1)*2=k0*2+(k2-1)*2 by omega] at q'
      have p0:=Low.fact q.1;have p1:=Low.fact q.2;have r0:=Low.fact q'.1;have r1:=Low.fact q'.2;have dk2:decide ((k2:Int)<((l.length-k0:Nat):Int))=true:=by simp;omega
      have kl2:(k2:Int)<((l.length-k0:Nat):Int):=by omega
      have kz2:(0:Int)≤k2:=by omega
      have dk3:decide ((k2:Int)<(l.length:Int)-(k0:Int))=true:=by simp;omega
      have kl3:(k2:Int)<(l.length:Int)-(k0:Int):=by omega
      have j33:(k2:Int)-1<(l.length:Int)-(k0:Int):=by omega
      have m12:IntKind.i64.wrap ((k2:Int)-1)=(k2:Int)-1:=zW2;have j22:(0:Int)≤(k2:Int)-1:=by omega
      have j220:(1:Int)≤k2:=by omega
      have j32:(k2:Int)-1<((l.length-k0:Nat):Int):=by omega
      have j42:((k2:Int)-1).toNat=k2-1:=by omega
      have dd1:(kk:Int)<l.length:=by omega
      have dd2:(0:Int)≤kk:=by omega
      clear hcr q q' a1 a2 hrx hpre' hpost' hl2';rcases (show (px=rx∧py=ry)∨(px=rx∧¬ py=ry)∨¬ px=rx by omega) with⟨e1,e2⟩ | hne
      ·obtain rfl:=e1.symm
       obtain rfl:=e2.symm;clear hpx;go_wp2
       (refine Zh (by kernel_rfl) (by kernel_rfl) ?_;(iterate 10 (apply Zf;(case hw=>rfl);(case hval=>(intro w1 hw1;have hcx:=Low.cells hw1;simp only [Oper.quietAt];go_simp;first | done | rfl | exact⟨rfl,rfl⟩));simp only [Act.put,zq4,zr4,zs4]));refine wpQuiet_nil ?_;intro w2 hw2)
       have H2:=Lib.hid (HCR.out.below hw2.out);clear hw2 p0 p1 r0 r1;go_wp2;go_roundw
       case rel =>
        refine⟨kk,k2+1,L,rfl,by go_num,by omega,by omega,by omega,by omega,H2.out,?_,fun j h1 h2=>hpost.out j (by omega) h2⟩
        rw [hpre.out,show k0+(k2+1)=k0+k2+1 by omega]
        simp only [ddTo];rw [if_neg (by rintro (h | h);omega;exact h (by rw [hl1.out,hl2.out]))]
       case measure=>simp [intOf];omega
      ·have hnq:(⟨px,py⟩:Pt)≠⟨rx,ry⟩:=fun h=>by simp only [Pt.mk.injEq] at h;omega
       rcases hne with⟨e1,hne⟩ | hne
       ·obtain rfl:=e1.symm
        go_wp2
        (refine Zh (by kernel_rfl) (by kernel_rfl) ?_;(iterate 10 (apply Zf;(case hw=>rfl);(case hval=>(intro w1 hw1;have hcx:=Low.cells hw1;simp only [Oper.quietAt];go_simp;first | done | rfl | exact⟨rfl,rfl⟩));simp only [Act.put,zq4,zr4,zs4]));refine wpQuiet_nil ?_;intro w2 hw2)
        have H2:=Lib.hid (HCR.out.below hw2.out);have hq:=H2.out.at (j:=k0+k2) (by omega)
        rw [hpx] at hq;simp only [Nat.add_mul] at hq;have s0:=hq.1;have s1:=hq.2;have t0:=(H2.out.at (j:=kk) (by omega)).1
        have t1:=(H2.out.at (j:=kk) (by omega)).2
        have v0:=H2.out.free (kk*2);have v1:=H2.out.free (kk*2+1);have H3:=Lib.hid (H2.out.put (k:=kk) (by omega) ⟨rx,py⟩)
        clear hw2 hq p0 p1 r0 r1;go_wp2;go_roundw
        case rel =>
         refine⟨kk+1,k2+1,_,by go_num,by go_num,by omega,by omega,by omega,by omega,H3.out,?_,fun j h1 h2=>?_⟩
         ·rw [Z1m (by rw [H2.out.1];omega),hpre.out,show k0+(k2+1)=k0+k2+1 by omega]
          simp only [ddTo];rw [if_pos (.inr (by rw [hl1.out,hl2.out];exact hnq)),hl1.out]
         ·rw [Z36 (by omega)]
          exact hpost.out j (by omega) h2
        case measure=>simp [intOf];omega
       ·go_wp2
        (refine Zh (by kernel_rfl) (by kernel_rfl) ?_;(iterate 10 (apply Zf;(case hw=>rfl);(case hval=>(intro w1 hw1;have hcx:=Low.cells hw1;simp only [Oper.quietAt];go_simp;first | done | rfl | exact⟨rfl,rfl⟩));simp only [Act.put,zq4,zr4,zs4]));refine wpQuiet_nil ?_;intro w2 hw2)
        have H2:=Lib.hid (HCR.out.below hw2.out);have hq:=H2.out.at (j:=k0+k2) (by omega)
        rw [hpx] at hq;simp only [Nat.add_mul] at hq;have s0:=hq.1;have s1:=hq.2;have t0:=(H2.out.at (j:=kk) (by omega)).1
        have t1:=(H2.out.at (j:=kk) (by omega)).2
        have v0:=H2.out.free (kk*2);have v1:=H2.out.free (kk*2+1);have H3:=Lib.hid (H2.out.put (k:=kk) (by omega) ⟨px,py⟩)
        clear hw2 hq p0 p1 r0 r1;go_wp2;go_roundw
        case rel =>
         refine⟨kk+1,k2+1,_,by go_num,by go_num,by omega,by omega,by omega,by omega,H3.out,?_,fun j h1 h2=>?_⟩
         ·rw [Z1m (by rw [H2.out.1];omega),hpre.out,show k0+(k2+1)=k0+k2+1 by omega]
          simp only [ddTo];rw [if_pos (.inr (by rw [hl1.out,hl2.out];exact hnq)),hl1.out]
         ·rw [Z36 (by omega)]
          exact hpost.out j (by omega) h2
        case measure=>simp [intOf];omega
     ·have hend:k0+k2=l.length:=by omega
      have dk2:decide ((k2:Int)<((l.length-k0:Nat):Int))=false:=by simp;omega
      have dk3:decide ((k2:Int)<(l.length:Int)-(k0:Int))=false:=by simp;omega
      have hlen:kk=(ddP l).length:=by
       have:=congrArg List.length hpre';rw [hend,List.length_take,hcr.1] at this;unfold ddP;omega
      have hcl:∀ ty,(Builtin.clear_ #[23] ty #[.slice (some ⟨g,kk*2,none⟩) (l.length-kk) (cap-kk)]).run Tryz.prog wr=.ok (.tuple #[]) (wr.setCells g (kk*2) (Builtin.zeroCells #[.int .i64 0,.int .i64 0] (l.length-kk)).toList):=fun ty =>
       Z3y wr ty g (kk*2) (l.length-kk) (cap-kk) (by omega) (fun j hj=>by
        obtain⟨q,r,hr,rfl⟩:∃ q r,r<2∧j=q*2+r:=⟨j / 2,j % 2,Nat.mod_lt _ (by omega),by omega⟩
        have:=HCR.out.at (j:=kk+q) (by omega)
        rw [Nat.add_mul] at this;rw [← Nat.add_assoc]
        match r,hr with
        | 0,_=>rw [Nat.add_zero,this.1];rfl
        | 1,_=>rw [this.2];rfl) (fun j _=>HCR.out.free _)
      obtain⟨ys,y1,y2,y3⟩:=Z46 (o0:=kk*2) (Builtin.zeroCells #[.int .i64 0,.int .i64 0] (l.length-kk)).toList (kk*2) wr _ (Nat.le_refl _) HCR.out.2.1;have z1:=Z8J (m:=kk) y1 (by omega)
      rw [y2,Z4c,hpre',hend,hlen] at z1;have z2:=HCR.out.2.2.trans y3;have HZ:=Lib.hid (And.intro z1 z2);rw [hlen] at hcl;have i1:(0:Int)≤kk:=by omega
      have i2:(kk:Int)≤(l.length:Int):=by omega
      have i3:(kk:Int)≤(cap:Int):=by omega
      have i4:kk≤l.length:=by omega
      have i5:kk≤cap:=by omega
      clear hcr hpre' hpost' y1 y2 y3 z1 z2;subst hlen;go_wp2;go_ret;exact⟨rfl,HZ.out.1,HZ.out.2⟩
   ·have hnq:(⟨px,py⟩:Pt)≠⟨rx,ry⟩:=fun h=>by simp only [Pt.mk.injEq] at h;omega
    have hstep:Hid (ddTo l (k0+1)=l.take (k0+1)):=by
     show _=_
     simp only [ddTo];rw [if_pos (.inr (by rw [HP.out.1,HP.out.2];exact hnq)),HDD.out,List.take_add_one]
     congr 1
     simp [nth,List.getD_eq_getElem?_getD,List.getElem?_eq_getElem hlk]
    clear hnq;rcases hne with⟨e1,hne⟩ | hne
    ·obtain rfl:=e1.symm
     go_wp2
     (refine Zh (by kernel_rfl) (by kernel_rfl) ?_;(iterate 10 (apply Zf;(case hw=>rfl);(case hval=>(intro w1 hw1;have hcx:=Low.cells hw1;simp only [Oper.quietAt];go_simp;first | done | rfl | exact⟨rfl,rfl⟩));simp only [Act.put,zq4,zr4,zs4]));refine wpQuiet_nil ?_;intro w2 hw2)
     have H0:=Lib.hid (HCR.out.below hw2.out);clear hw2 p0 p1 r0 r1 HCR;go_wp2;go_roundw
     case rel=>exact⟨k0+1,by omega,by omega,by go_num,hstep.out,H0.out⟩
     case measure=>simp [intOf];omega
    ·go_wp2
     (refine Zh (by kernel_rfl) (by kernel_rfl) ?_;(iterate 10 (apply Zf;(case hw=>rfl);(case hval=>(intro w1 hw1;have hcx:=Low.cells hw1;simp only [Oper.quietAt];go_simp;first | done | rfl | exact⟨rfl,rfl⟩));simp only [Act.put,zq4,zr4,zs4]));refine wpQuiet_nil ?_;intro w2 hw2)
     have H0:=Lib.hid (HCR.out.below hw2.out);clear hw2 p0 p1 r0 r1 HCR;go_wp2;go_roundw
     case rel=>exact⟨k0+1,by omega,by omega,by go_num,hstep.out,H0.out⟩
     case measure=>simp [intOf];omega
  ·obtain rfl:k0=l.length:=by omega
   have dk:decide ((l.length:Int)<(l.length:Int))=false:=by simp
   have e:ddP l=l:=by unfold ddP;rw [HDD.out,List.take_length]
   have HE:=Lib.hid e;clear hcr e;go_wp2;go_ret;rw [HE.out];exact⟨rfl,HCR.out.2.1,HCR.out.2.2⟩
end
section
attribute [local go_sem] Oper.semAt_some
open Go.RowKit Go.Shelf
theorem Z0y (l:List Pt) (x:Pt):nth (l++[x]) l.length=x:=by simp [nth,List.getD_eq_getElem?_getD]
theorem Z0x {l:List Pt} {x:Pt} {i:Nat} (h:i<l.length):nth (l++[x]) i=nth l i:=Z4j h
theorem Z3R {m : List Pt} (hs : ∀ i j, i < j → j < m.length → ¬ LexLt (nth m j) (nth m i)) : ∀ k, k ≤ m.length →
  (1≤k→1≤(ddTo m k).length∧nth (ddTo m k) ((ddTo m k).length-1)=nth m (k-1))∧Inc (ddTo m k)∧∀ x,x ∈ ddTo m k↔∃ j,j<k∧nth m j=x
 | 0,_=>⟨fun h=>by omega,fun i j _ h=>by simp [ddTo] at h,fun x=>by simp [ddTo]⟩
 | k + 1, hk => by
  obtain⟨h1,h2,h3⟩:=Z3R hs k (by omega)
  simp only [ddTo]
  split
  ·rename_i hc
   refine⟨fun _=>⟨by simp,by rw [List.length_append,List.length_singleton,Nat.add_sub_cancel,Z0y,Nat.add_sub_cancel]⟩,fun i j hij hj=>?_,fun x=>?_⟩
   ·rw [List.length_append, List.length_singleton] at hj
    by_cases e:j=(ddTo m k).length
    ·rw [e, Z0y, Z0x (by omega)]
     have hk0:k≠0:=fun h=>by subst h;simp [ddTo] at e;omega
     obtain⟨a1,a2⟩:=h1 (by omega)
     have hlast:LexLt (nth m (k-1)) (nth m k):=by
      rcases LexLt.tri (nth m (k-1)) (nth m k) with c | c | c
      ·exact c
      ·rcases hc with hc | hc
       ·omega
       ·exact absurd c.symm hc
      ·exact absurd c (hs (k-1) k (by omega) (by omega))
     by_cases e2:i=(ddTo m k).length-1
     ·rw [e2,a2];exact hlast
     ·have:=h2 i ((ddTo m k).length-1) (by omega) (by omega)
      rw [a2] at this;exact this.trans hlast
    ·rw [Z0x (by omega),Z0x (by omega)]
     exact h2 i j hij (by omega)
   ·rw [List.mem_append,List.mem_singleton,h3]
    constructor
    ·rintro (⟨j,hj,e⟩ | e)
     ·exact⟨j,by omega,e⟩
     ·exact⟨k,by omega,e.symm⟩
    ·rintro ⟨j,hj,e⟩
     by_cases ek:j=k
     ·right;rw [← e,ek]
     ·left;exact⟨j,by omega,e⟩
  ·rename_i hc
   have hk0:k≠0:=fun h=>hc (.inl h)
   have heq:nth m k=nth m (k-1):=Classical.byContradiction fun h=>hc (.inr h)
   obtain⟨a1,a2⟩:=h1 (by omega)
   refine⟨fun _=>⟨a1,by rw [a2,Nat.add_sub_cancel,heq]⟩,h2,fun x=>?_⟩
   rw [h3];constructor
   ·rintro ⟨j,hj,e⟩;exact⟨j,by omega,e⟩
   ·rintro ⟨j,hj,e⟩
    by_cases ek:j=k
    ·exact⟨k-1,by omega,by rw [← e,ek,heq]⟩
    ·exact⟨j,by omega,e⟩
theorem Z5d {l m:List Pt} (hs:∀ i j,i<j→j<m.length→¬ LexLt (nth m j) (nth m i)) (e:∀ x,x ∈ m↔x ∈ l):goHull (ddP m)=hullP l:=by
 obtain⟨_,h2,h3⟩:=Z3R hs m.length (Nat.le_refl _);refine Z2f ((Z7W h2).congr fun x=>?_)
 rw [← e]
 show x ∈ ddTo m m.length↔_
 rw [h3];exact⟨fun ⟨j,hj,e⟩=>by rw [← e];exact nth_mem' hj,fun h=>mem_nth' h⟩
theorem Zad {m : List Pt} (h : 0 < m.length) : 0 < (ddP m).length := by
 obtain⟨a,r,rfl⟩:∃ a r,m=a::r:=by cases m with | nil=>simp at h | cons a r=>exact⟨a,r,rfl⟩
 have:∀ k,0<k→0<(ddTo (a::r) k).length:=fun k=>by
  induction k with
  | zero=>exact fun h=>by omega
  | succ k ih =>
   intro _;simp only [ddTo]
   split
   ·simp
   ·rename_i hc
    exact ih (by omega)
 exact this _ (by simp)
set_option maxRecDepth 100000 in
theorem Z9v {α : Type} (encA : α → Array Value) (f : Nat → α) (n : Nat) (hn : 1 ≤ n) (p : Nat → Prop) (W : World) (l Bs b cap : Nat) (ps : List Pt) (hlen : ps.length ≤ 70368744177663) (hb : p b) (hBs : p Bs) (hpp : ∀ b, p b → b < W.heap.size)
  (hf:∀ i,i<ps.length→encA (f i)=#[.int .i64 ((ps.length-1-i:Nat):Int),.agg #[.int .i64 (nth ps (ps.length-1-i)).x,.int .i64 (nth ps (ps.length-1-i)).y]]) (J Jx:List α→World→Prop)
  (hJ:AbidesFrom W.heap.size J)
  (hY:∀ pre x W1,J pre W1→pre.length<ps.length→YieldAt Fence.wide (n-1) Tryz.prog l (encA x) W1 fun e W' =>
   (e=.returned (.bool true)∧J (pre++[x]) W'∧KeepsP p W1 W')∨(e=.returned (.bool false)∧Jx (pre++[x]) W'))
  (hB:W.cell? ⟨Bs,0,none⟩=some (.slice (some ⟨b,0,none⟩) ps.length cap))
  (hc:∀ j,j<ps.length→W.cell? ⟨b,j*2,none⟩=some (.int .i64 (nth ps j).x)∧W.cell? ⟨b,j*2+1,none⟩=some (.int .i64 (nth ps j).y)) (h0:J [] W) :
  CallsIn Fence.wide n Tryz.prog 141 #[.func (.yield l) #[] #[],.pointer (some ⟨Bs,0,none⟩)] W fun e W'=>(∃ v,e=.returned v) ∧
   ((∃ ys,ys=upto f ps.length∧J ys W')∨(∃ pre,(∃ k,k≤ps.length∧pre=upto f k)∧Jx pre W')):=by
 have m0:IntKind.i64.wrap ((ps.length:Int)-1)=(ps.length:Int)-1:=zW2;refine callsIn_of_wp Tryz.func141 rfl trivial ?_ rfl;simp only [Tryz.ntmps141,List.size_toArray,List.length_cons,List.length_nil,Nat.reduceAdd,Nat.reduceSub,Array.replicate_succ,Array.replicate_zero,List.push_toArray,List.append_toArray,List.nil_append,List.cons_append];gi_wp2
 gi_loopw [3] (fun i wr=>∃ k:Nat,k≤ps.length∧i=.int .i64 ((ps.length:Int)-1-(k:Int))∧J (upto f k) wr∧KeepsP p W wr)
  (fun i _=>(intOf i+1).toNat)
 case atStart=>exact⟨0,Nat.zero_le _,by simp,h0,KeepsP.refl _ _⟩
 case round =>
  obtain⟨k,hk,rfl,hJs,hnx⟩:=hrel;by_cases hlt:k<ps.length
  ·obtain⟨j,hj⟩:∃ j:Nat,ps.length-1-k=j:=⟨_,rfl⟩
   have hji:(ps.length:Int)-1-(k:Int)=(j:Int):=by omega
   have b1:W.heap.size≤wr.heap.size:=hnx.1;have e0:wr.cell? ⟨Bs,0,none⟩=some (.slice (some ⟨b,0,none⟩) ps.length cap):=(hnx.cell (i:=0) hBs).trans hB;have e1:=(hnx.cell (i:=j*2) hb).trans (hc j (by omega)).1
   have e2:=(hnx.cell (i:=j*2+1) hb).trans (hc j (by omega)).2
   obtain⟨fn,tmps,assign,body,hy,hR⟩:=hY _ (f k) _ hJs (by rw [Zx];exact hlt)
   rw [hf k hlt,hj] at hy;have d1:decide ((j:Int)≥0)=true:=by simp
   have d2:decide ((0:Int)≤(j:Int))=true:=by simp
   have i1:(j:Int)<ps.length:=by omega
   have i2:(0:Int)≤(j:Int):=by omega
   have m1:IntKind.i64.wrap ((j:Int)-1)=(j:Int)-1:=zW2;have hc':=Lib.hid hc;have hji':=Lib.hid hji;have hj':=Lib.hid hj;clear hc hB hj;rw [hji];clear hji;gi_wp2;refine hR.mono ?_;rintro e W3 (⟨rfl,hJ3,hk3⟩ | ⟨rfl,hJx3⟩)
   ·gi_wp2
    go_roundw
    case rel=>exact⟨k+1,by omega,by have:=hji'.out;congr 1;omega,by rw [Zv];exact hJ3,hnx.trans hk3⟩
    case measure=>have:=hji'.out;simp [intOf];try omega
   ·gi_wp2
    refine bodyPost_ret (results_none rfl _ _ _) rfl ?_;exact⟨⟨_,rfl⟩,.inr ⟨_,⟨k+1,by omega,(Zv _ _).symm⟩,hJx3⟩⟩
  ·obtain rfl:k=ps.length:=by omega
   have e:(ps.length:Int)-1-(ps.length:Int)=-1:=by omega
   rw [e];gi_wp2;go_end0;exact⟨⟨_,rfl⟩,.inl ⟨_,rfl,hJs⟩⟩
theorem Z4L (a:Option Addr) (len cap:Nat) (w:World) :
  Calls Tryz.prog 129 #[.slice a len cap] w fun e w'=>e=.returned (.func (.func 141) #[] #[.pointer (some ⟨w.heap.size,0,none⟩)])∧w.alloc (.cells #[.slice a len cap] 23)=w':=by
 go_enter Tryz.func129,Tryz.ntmps129;go_wp2;go_ret;exact⟨rfl,rfl⟩
theorem Z6Y {α:Type} (encA:α→Array Value) (f:Nat→α) (n:Nat) (hn:1≤n) (p:Nat→Prop) (Bs b cap:Nat) (ps:List Pt) (w:World) (hBs:p Bs) (hb:p b) (hpp:∀ b,p b→b<w.heap.size) (hlen:ps.length≤70368744177663)
  (hB:w.cell? ⟨Bs,0,none⟩=some (.slice (some ⟨b,0,none⟩) ps.length cap))
  (hc:∀ j,j<ps.length→w.cell? ⟨b,j*2,none⟩=some (.int .i64 (nth ps j).x)∧w.cell? ⟨b,j*2+1,none⟩=some (.int .i64 (nth ps j).y))
  (hf:∀ i,i<ps.length→encA (f i)=#[.int .i64 ((ps.length-1-i:Nat):Int),.agg #[.int .i64 (nth ps (ps.length-1-i)).x,.int .i64 (nth ps (ps.length-1-i)).y]]) :
  SeqStopsK Fence.wide n Tryz.prog 141 #[.pointer (some ⟨Bs,0,none⟩)] encA (KeepsP p) (fun ys=>ys=upto f ps.length)
   (fun pre=>∃ k,k≤ps.length∧pre=upto f k) ps.length w:=fun l J Jx W hW hJ _ hY h0 =>
 Z9v encA f n hn p W l Bs b cap ps hlen hb hBs (fun b hb=>Nat.lt_of_lt_of_le (hpp b hb) hW.size) hf J Jx hJ hY ((hW.cell (p:=⟨Bs,0,none⟩) (hpp Bs hBs)).trans hB)
  (fun j hj=>⟨(hW.cell (p:=⟨b,j*2,none⟩) (hpp b hb)).trans (hc j hj).1,(hW.cell (p:=⟨b,j*2+1,none⟩) (hpp b hb)).trans (hc j hj).2⟩) h0
end
end Go.Proofs.YtdolkgihppgpcaaGreat
