/- slices.Concat of lists of points; package cut: shared, Apart. | package cut: shared, Apart; package rocks: touching. | A list of points appended to .. -/
import Derived.Lib.AppendZeros
import Derived.Lib.SliceRun
import Derived.Laws.AppendOwnNone
import Derived.Test.YtpimbaaahcemhaaGreatBin11
import Derived.Test.YtpimbaaahcemhaaGreatBin01
import Derived.Test.YtpimbaaahcemhaaGreatBin05
import Derived.Test.YtpimbaaahcemhaaGreatBin08
namespace Go.Proofs.YtpimbaaahcemhaaGreat
open Go.RowKit
attribute [local irreducible] wpQuiet
set_option linter.unusedSimpArgs false in
set_option maxRecDepth 8000 in
set_option maxHeartbeats 800000 in
theorem grow_nil (n:Nat) (hn:n≤1000000) (w:World):Calls Tryz.prog 176 #[.slice none 0 0,.int .i64 (n:Int)] w fun e w'=>∃ v,e=.returned v∧w'.ownsRow w.heap.size 58 2 v 0 []∧Below w.heap.size w w':=by
 have h1:decide ((n:Int)<0)=false:=by simp
 have h2:IntKind.i64.wrap ((n:Int) - 0)=(n:Int):=by rw [Int.sub_zero];exact IntWalk.i64_in _ (by omega)
 by_cases h0:n=0
 ·subst h0
  go_enter Tryz.func176,Tryz.ntmps176
  go_wp2
  go_ret
  exact⟨_,rfl,World.ownsRow_nil _ _ _ _,Below.refl _ _⟩
 ·obtain⟨i0,hi,hz0',hz1',hz2'⟩:=info_parts ptInfo
  have h3:decide ((n:Int)>0)=true:=by simp;omega
  have hrz:=fun ty=>Lib.run_append_nil_zeros (P:=Tryz.prog) w 23 3 ty 58 i0 (.agg #[.int .i64 0,.int .i64 0]) .i64 .i64 Tryz.underlying23 Tryz.underlying3 hi hz0' n (by omega) (by rw [hz1'];omega) (by omega) (by rw [hz2'];omega)
  have hG:=grownCap_le_maxLen w n 0 58 (by unfold maxLen;omega)
  have hG2:=grownCap_ge w n 0 58
  obtain⟨G,hGe⟩:∃ G,G=grownCap w n 0 58:=⟨_,rfl⟩
  rw [← hGe] at hrz hG hG2
  have hz:Builtin.zeroCells (Value.cells (.agg #[.int .i64 0,.int .i64 0])) n++Builtin.zeroCells (Value.cells (.agg #[.int .i64 0,.int .i64 0])) (G - n)=Builtin.zeroCells (Value.cells (.agg #[.int .i64 0,.int .i64 0])) n++Builtin.zeroCells (Value.cells (.agg #[.int .i64 0,.int .i64 0])) (G - n):=rfl
  have hsz:(Builtin.zeroCells (Value.cells (.agg #[.int .i64 0,.int .i64 0])) n++Builtin.zeroCells (Value.cells (.agg #[.int .i64 0,.int .i64 0])) (G - n)).size=G*2:=by
   simp [Builtin.zeroCells,Value.cells];omega
  have hown:=World.ownsRow_made (e:=58) (size:=2) (base:=w.heap.size) w.drew (Builtin.zeroCells (Value.cells (.agg #[.int .i64 0,.int .i64 0])) n++Builtin.zeroCells (Value.cells (.agg #[.int .i64 0,.int .i64 0])) (G - n)) G (Nat.le_refl _) hG hsz
  have hB:=((Below.refl w.heap.size w).drew).alloc (Nat.le_refl _) (.cells (Builtin.zeroCells (Value.cells (.agg #[.int .i64 0,.int .i64 0])) n++Builtin.zeroCells (Value.cells (.agg #[.int .i64 0,.int .i64 0])) (G - n)) 58)
  generalize Builtin.zeroCells (Value.cells (.agg #[.int .i64 0,.int .i64 0])) n++Builtin.zeroCells (Value.cells (.agg #[.int .i64 0,.int .i64 0])) (G - n)=zz at *
  have HO:=Lib.hid (And.intro hown hB)
  clear hown hB hz hsz hGe
  unfold maxLen at hG
  go_enter Tryz.func176,Tryz.ntmps176
  go_wp2_with (at_builtin;refine Lib.wpList_append_run _ rfl _ _ _ _ rfl _ _ rfl rfl _ _ (hrz _) ?_)
  all_goals (go_ret;exact⟨_,rfl,HO.out.1,HO.out.2⟩)
theorem run_append_no {P:Program} {w:World} (base:Nat) (t ty e:TypeId) (i:TypeInfo) (size:Nat) (ht:P.underlying t=some (.slice e)) (hi:P.info? e=some i)
  (v:Value) (n:Nat) (xs:List Value) (hown:w.ownsRow base e size v n xs) (c:Nat):(Builtin.append_ #[t,t] ty #[v,.slice none 0 c]).run P w=.ok v w:=by
 rcases hown.2 with⟨rfl,rfl⟩ | ⟨g,cap,cur,rfl,_,_,hnc,_⟩
 ·simp [Builtin.append_,run_underlying ht,sizeOf,typeInfo,hi,Builtin.lenOf,Builtin.firstCells]
 ·simp [Builtin.append_,run_underlying ht,sizeOf,typeInfo,hi,Builtin.lenOf,Builtin.firstCells,hnc,storeCells]
theorem wpList_append_no {P:Program} {w:World} {ops:Array Oper} {rest:List Oper} {o:Oper} {a:Act} {Q:Exit→Act→World→Prop} (hgd:o.guard=none) (s x:Operand) (t:TypeId)
  (ho:o.op=.call { callee:=.builtin .append,args:=#[s,x],argTypes:=#[t,t] })
  (base:Nat) (e:TypeId) (i:TypeInfo) (size:Nat) (ht:P.underlying t=some (.slice e)) (hi:P.info? e=some i)
  (v:Value) (n:Nat) (xs:List Value) (hs:a.eval s=v) (hown:w.ownsRow base e size v n xs) (c:Nat) (hx:a.eval x=.slice none 0 c)
  (h:wpList P ops Q rest (a.put o.dst v) w):wpList P ops Q (o::rest) a w:=by
 refine wpList_plain hgd fun K hK=>?_
 have hrun:=run_append_no (P:=P) (w:=w) base t o.type e i size ht hi v n xs hown c
 unfold Oper.wp
 simp [execOp,ho,resolve,invoke,builtin,hs,hx,hrun,Result.andThen]
 exact hK _ _ h
def sumTo (ls:List (List Pt)):Nat→Nat
 | 0=>0
 | k+1=>sumTo ls k+(rk ls k).length
def catTo (ls:List (List Pt)):Nat→List Pt
 | 0=>[]
 | k+1=>catTo ls k++rk ls k
theorem catTo_len (ls:List (List Pt)):∀ k,(catTo ls k).length=sumTo ls k
 | 0=>rfl
 | k+1=>by simp [catTo,sumTo,catTo_len ls k]
theorem sumTo_le (ls:List (List Pt)) {N:Nat} (h:∀ j,(rk ls j).length≤N):∀ k,sumTo ls k≤k*N
 | 0=>by simp [sumTo]
 | k + 1 => by
  have:=sumTo_le ls h k
  have:=h k
  simp only [sumTo,Nat.add_mul]
  omega
set_option linter.unusedSimpArgs false in
set_option maxRecDepth 4000 in
set_option maxHeartbeats 1600000 in
theorem concat_any (v : Value) (ls : List (List Pt)) (w : World) (hr : RocksAt w.heap.size w v ls) (hl : ls.length ≤ 10) (hn : ∀ j, (rk ls j).length ≤ 20000) :
  Calls Tryz.prog 126 #[v] w (PtsQ (catTo ls ls.length) w):=by
 obtain⟨_,a,cap,rfl,hc⟩:=hr
 have HC:=Lib.hid hc
 have HN:=Lib.hid hn
 obtain⟨i0,hi,hz0',hz1',hz2'⟩:=info_parts ptInfo
 have hs:=fun k=>sumTo_le ls hn k
 have HS:=Lib.hid hs
 clear hc hn hs
 go_enter Tryz.func126,Tryz.ntmps126
 go_wp2
 go_loopw [3,11] (fun s i wr=>∃ k:Nat,k≤ls.length∧i=.int .i64 (k:Int)∧s=.int .i64 (sumTo ls k:Int)∧Below w.heap.size w wr) (fun _ i _=>ls.length - (intOf i).toNat)
 case atStart=>exact⟨0,by omega,rfl,rfl,Below.refl _ _⟩
 case round =>
  obtain⟨k,hk,rfl,rfl,hB⟩:=hrel
  have hzB:=hB.size
  have hsk:=HS.out k
  by_cases hlt:k<ls.length
  ·obtain⟨b,o,rfl,hb,hcc⟩:∃ b o,a=some ⟨b,o,none⟩∧b<w.heap.size∧∀ j,j<ls.length→∃ u,w.cell? ⟨b,o+j,none⟩=some u∧PtsAt w.heap.size w u (rk ls j):=by
    rcases HC.out with h | h
    ·rw [h] at hlt;simp at hlt
    ·exact h
   obtain⟨u,hu,hpu⟩:=hcc k hlt
   obtain⟨au,cu,rfl⟩:=hpu.len
   have e0:=(hB.cell (p:=⟨b,o+k,none⟩) hb).trans hu
   have hnk:=HN.out k
   have hst:Hid ((sumTo ls (k+1):Int)=(sumTo ls k:Int)+((rk ls k).length:Int)):=by show _=_;simp [sumTo]
   have dk:decide ((k:Int)<(ls.length:Int))=true:=by simp;omega
   have kl:(k:Int)<ls.length:=by omega
   have k0:(0:Int)≤k:=by omega
   have m1:IntKind.i64.wrap ((sumTo ls k:Int)+((rk ls k).length:Int))=(sumTo ls k:Int)+((rk ls k).length:Int):=IntWalk.i64_in _ (by omega)
   have d1:decide ((sumTo ls k:Int)+((rk ls k).length:Int)<0)=false:=by simp;omega
   have hBB:=Lib.hid hB
   clear hcc hu hpu hB
   generalize (sumTo ls k:Int)=S at *
   go_wp2
   go_roundw
   case rel=>exact⟨k+1,by omega,by go_num,by rw [hst.out],hBB.out⟩
   case measure=>simp [intOf];omega
  ·obtain rfl:k=ls.length:=by omega
   have dk:decide ((ls.length:Int)<(ls.length:Int))=false:=by simp
   have hg:=Lib.hid (grow_nil (sumTo ls ls.length) (by omega) wr)
   have hBB:=Lib.hid hB
   clear hB
   obtain⟨wq,rfl⟩:∃ x,x=wr:=⟨_,rfl⟩
   go_wp2_with fail
   refine hg.out.mono ?_
   rintro e w2 ⟨vg,rfl,hown,hb2⟩
   have HO:=Lib.hid hown
   have H2:=Lib.hid hb2
   clear hown hb2
   go_wp2
   go_loopw [6,27] (fun v i wr=>∃ k:Nat,k≤ls.length∧i=.int .i64 (k:Int)∧wr.ownsRow wq.heap.size 58 2 v (catTo ls k).length (ptCells (catTo ls k))∧Below wq.heap.size wq wr) (fun _ i _=>ls.length - (intOf i).toNat)
   case atStart=>exact⟨0,by omega,rfl,HO.out,H2.out⟩
   case round =>
    obtain⟨k,hk2,rfl,hrow,hZ⟩:=hrel
    have hzz:=hZ.size
    have BZ:=hBB.out.trans (hZ.mono hBB.out.size)
    by_cases hlt2:k<ls.length
    ·obtain⟨b,o,rfl,hb,hcc⟩:∃ b o,a=some ⟨b,o,none⟩∧b<w.heap.size∧∀ j,j<ls.length→∃ u,w.cell? ⟨b,o+j,none⟩=some u∧PtsAt w.heap.size w u (rk ls j):=by
      rcases HC.out with h | h
      ·rw [h] at hlt2;simp at hlt2
      ·exact h
     obtain⟨u,hu,hpu⟩:=hcc k hlt2
     have hpz:=hpu.below BZ
     have e0:=(BZ.cell (p:=⟨b,o+k,none⟩) hb).trans hu
     have hnk:=HN.out k
     have hcl:=catTo_len ls k
     have hsk2:=HS.out k
     have dk2:decide ((k:Int)<(ls.length:Int))=true:=by simp;omega
     have kl:(k:Int)<ls.length:=by omega
     have k0:(0:Int)≤k:=by omega
     have HZ:=Lib.hid hZ
     have HR:=Lib.hid hrow
     obtain⟨_,au,cu,rfl,hcu⟩:=hpz
     have hsz1:wq.heap.size≤wr.heap.size:=hzz
     have HCU:=Lib.hid hcu
     clear hcc hu hpu hZ hrow hcu BZ
     rcases au with _ | ⟨bu,ou,su⟩
     ·have h0:rk ls k=[]:=by
       rcases HCU.out with h | ⟨_,_,h,_⟩
       ·exact h
       ·cases h
      have hcat:Hid (catTo ls (k+1)=catTo ls k):=by show catTo ls k++rk ls k=_;rw [h0,List.append_nil]
      rw [h0] at e0 hnk
      have e0':wr.cell? ⟨b,o+k,none⟩=some (.slice none 0 cu):=by simpa using e0
      have HR':=HR.out
      clear e0 HCU h0
      go_wp2_with (at_builtin;refine wpList_append_no rfl _ _ 23 rfl wq.heap.size 58 i0 2 Tryz.underlying23 hi _ _ _ rfl HR.out cu rfl ?_)
      go_roundw
      case rel=>exact⟨k+1,by omega,by go_num,by rw [hcat.out];exact HR.out,HZ.out⟩
      case measure=>simp [intOf];omega
     ·obtain⟨hsu,hcu⟩:(rk ls k=[]∨su=none)∧(∀ j u,(ptCells (rk ls k))[j]?=some u→wr.cell? ((⟨bu,ou,su⟩:Addr).add j)=some u):=by
       rcases HCU.out with h | ⟨b',o',h,_,h2⟩
       ·rw [h];exact⟨.inl rfl,fun j u hu=>by simp [ptCells] at hu⟩
       ·cases h
        exact⟨.inr rfl,pt_add h2⟩
      go_wp2_with (at_builtin;refine wpList_append_own _ rfl _ _ 23 rfl wq.heap.size 58 i0 (.agg #[.int .i64 0,.int .i64 0]) 2 16 Tryz.underlying23 hi hz0' hz1' hz2' rfl (by decide) _ _ _ rfl HR.out ⟨bu,ou,su⟩ (rk ls k).length ((rk ls k).length+cu) (ptCells (rk ls k)) rfl (ptCells_len _) hcu (ptCells_one _) (by unfold maxLen;omega) (by omega) (by omega) ?_;intro v' w4 hown' hgrow _)
      go_roundw
      case rel =>
       have hb0:Below wq.heap.size wr w4:=(Below.refl wq.heap.size wr).grown hgrow (by omega) (fun j ej=>(HR.out.lt j ej).1)
       refine⟨k+1,by omega,by go_num,?_,HZ.out.trans hb0⟩
       simp only [catTo,List.length_append,ptCells_append]
       exact hown'
      case measure=>simp [intOf];omega
    ·obtain rfl:k=ls.length:=by omega
     have dk2:decide ((ls.length:Int)<(ls.length:Int))=false:=by simp
     have hcl:=catTo_len ls ls.length
     have HI:=Lib.hid (PtsAt.own hrow (by omega))
     have HZ:=Lib.hid BZ
     clear hrow hZ BZ
     go_wp2
     go_ret
     exact⟨_,rfl,HI.out,HZ.out⟩
end Go.Proofs.YtpimbaaahcemhaaGreat
namespace Go.Proofs.YtpimbaaahcemhaaGreat
open Go.RowKit
attribute [local irreducible] wpQuiet
noncomputable def sharedP (l m:List Pt):List Pt:=cornersP l m++cornersP m l++crossP l m
theorem shared_cat (l m:List Pt):catTo [cornersP l m,cornersP m l,crossP l m] 3=sharedP l m:=by simp [catTo,rk,sharedP]
theorem sidesL_len (l:List Pt):(sidesL l).length=l.length:=by simp [sidesL,upto]
theorem crossP_len {l m:List Pt} (hl:l.length≤64) (hm:m.length≤64):(crossP l m).length≤16384:=by
 have h:=crossL_len (sidesL m) (sidesL l)
 rw [sidesL_len,sidesL_len] at h
 have:4*m.length*l.length≤256*64:=Nat.mul_le_mul (show 4*m.length≤256 by omega) hl
 unfold crossP
 omega
theorem cornersP_len (l m:List Pt):(cornersP l m).length≤l.length:=cornersTo_len l m l.length
theorem rocks_three {W:World} {u0 u1 u2:Value} {l0 l1 l2:List Pt} (h0:PtsAt W.heap.size W u0 l0) (h1:PtsAt W.heap.size W u1 l1) (h2:PtsAt W.heap.size W u2 l2) :
  RocksAt (W.heap.size+1) (W.alloc (.cells #[u0,u1,u2] 23)) (.slice (some ⟨W.heap.size,0,none⟩) 3 3) [l0,l1,l2]:=by
 have hB:=(Below.refl W.heap.size W).alloc (Nat.le_refl _) (.cells #[u0,u1,u2] 23)
 have hN:=Has.new W #[u0,u1,u2] 23
 refine⟨by simp,_,0,rfl,.inr ⟨W.heap.size,0,rfl,by omega,fun j hj=>?_⟩⟩
 match j,hj with
 | 0,_=>exact⟨u0,hN.cell (i:=0) rfl,(h0.below hB).mono (by omega)⟩
 | 1,_=>exact⟨u1,hN.cell (i:=1) rfl,(h1.below hB).mono (by omega)⟩
 | 2,_=>exact⟨u2,hN.cell (i:=2) rfl,(h2.below hB).mono (by omega)⟩
set_option linter.unusedSimpArgs false in
set_option maxRecDepth 4000 in
set_option maxHeartbeats 800000 in
theorem shared_any (vp vq:Value) (l m:List Pt) (w:World) (hp:PtsAt w.heap.size w vp l) (hq:PtsAt w.heap.size w vq m) (hl:goValid l=true) (hm:goValid m=true) :
  Calls Tryz.prog 191 #[vp,vq] w (PtsQ (sharedP l m) w):=by
 have GL:GoValid l:=by simpa [goValid] using hl
 have GM:GoValid m:=by simpa [goValid] using hm
 have l64:=GL.2.1
 have m64:=GM.2.1
 have f1:=fun w1 (B:Below w.heap.size w w1)=>corners_any vp vq l m w1 ((hp.below B).mono B.size) ((hq.below B).mono B.size) (by omega)
 have f2:=fun w1 (B:Below w.heap.size w w1)=>corners_any vq vp m l w1 ((hq.below B).mono B.size) ((hp.below B).mono B.size) (by omega)
 have f3:=fun w1 (B:Below w.heap.size w w1)=>crossings_any vp vq l m w1 ((hp.below B).mono B.size) ((hq.below B).mono B.size) hl hm
 have hlen:∀ j,(rk [cornersP l m,cornersP m l,crossP l m] j).length≤20000:=by
  intro j
  have a1:=cornersP_len l m
  have a2:=cornersP_len m l
  have a3:=crossP_len l64 m64
  match j with
  | 0=>show (cornersP l m).length≤_;omega
  | 1=>show (cornersP m l).length≤_;omega
  | 2=>show (crossP l m).length≤_;omega
  | j+3=>simp [rk]
 have f4:=fun v w1 (h:RocksAt w1.heap.size w1 v [cornersP l m,cornersP m l,crossP l m])=>concat_any v _ w1 h (by simp) hlen
 have HF:=Lib.hid (And.intro f1 (And.intro f2 (And.intro f3 f4)))
 obtain⟨ap,capp,rfl⟩:=hp.len
 obtain⟨aq,capq,rfl⟩:=hq.len
 clear GL GM f1 f2 f3 f4 hp hq hlen
 go_enter Tryz.func191,Tryz.ntmps191
 go_wp2_with fail
 refine (HF.out.1 _ (Below.refl _ _)).mono ?_
 rintro e w1 ⟨u1,rfl,I1,hb1⟩
 have B1:=Lib.hid hb1
 have J1:=Lib.hid I1
 clear I1 hb1
 obtain⟨a1,c1,rfl⟩:=J1.out.len
 go_wp2_with fail
 refine (HF.out.2.1 _ B1.out).mono ?_
 rintro e w2 ⟨u2,rfl,I2,hb2⟩
 have B2:=Lib.hid (B1.out.trans (hb2.mono B1.out.size))
 have K1:=Lib.hid ((J1.out.below hb2).mono hb2.size)
 have K2:=Lib.hid I2
 clear I2 hb2
 obtain⟨a2,c2,rfl⟩:=K2.out.len
 go_wp2_with fail
 refine (HF.out.2.2.1 _ B2.out).mono ?_
 rintro e w3 ⟨u3,rfl,I3,hb3⟩
 have B3:=Lib.hid (B2.out.trans (hb3.mono B2.out.size))
 have L1:=(K1.out.below hb3).mono hb3.size
 have L2:=(K2.out.below hb3).mono hb3.size
 have L3:=I3
 obtain⟨a3,c3,rfl⟩:=L3.len
 have R:=Lib.hid (rocks_three L1 L2 L3)
 have B4:=Lib.hid (B3.out.alloc B3.out.size (.cells #[.slice a1 (cornersP l m).length ((cornersP l m).length+c1),.slice a2 (cornersP m l).length ((cornersP m l).length+c2),.slice a3 (crossP l m).length ((crossP l m).length+c3)] 23))
 clear I3 hb3 L1 L2 L3
 go_wp2_with fail
 refine (HF.out.2.2.2 _ _ (by simpa using R.out)).mono ?_
 rintro e w5 ⟨u5,rfl,I5,hb5⟩
 rw [show ([cornersP l m,cornersP m l,crossP l m]:List (List Pt)).length=3 from rfl,shared_cat] at I5
 have HI:=Lib.hid I5
 have B5:=Lib.hid (B4.out.trans (hb5.mono B4.out.size))
 clear I5 hb5
 go_wp2
 go_ret
 exact⟨_,rfl,HI.out,B5.out⟩
noncomputable def apartB (l m:List Pt):Bool:=goValid l && goValid m && decide ((sharedP l m).length=0)
noncomputable def bothE (l m:List Pt):Int:=if (goValid l && goValid m)=true then 0 else 1
set_option linter.unusedSimpArgs false in
set_option maxRecDepth 4000 in
set_option maxHeartbeats 800000 in
theorem apart_any (vp vq : Value) (l m : List Pt) (w : World) (hp : PtsAt w.heap.size w vp l) (hq : PtsAt w.heap.size w vq m) :
  Calls Tryz.prog 165 #[vp,vq] w fun e w'=>e=.returned (.tuple #[.bool (apartB l m),.int .i64 (bothE l m)])∧Below w.heap.size w w':=by
 have f1:=Lib.hid (fun w1 (B:Below w.heap.size w w1)=>hullValid_any vp l w1 ((hp.below B).mono B.size))
 have f2:=Lib.hid (fun w1 (B:Below w.heap.size w w1)=>hullValid_any vq m w1 ((hq.below B).mono B.size))
 have f3:=Lib.hid (fun w1 (B:Below w.heap.size w w1)=>shared_any vp vq l m w1 ((hp.below B).mono B.size) ((hq.below B).mono B.size))
 obtain⟨ap,capp,rfl⟩:=hp.len
 obtain⟨aq,capq,rfl⟩:=hq.len
 unfold apartB bothE
 clear hp hq
 cases hl:goValid l
 ·rw [hl] at f1
  clear hl
  go_enter Tryz.func165,Tryz.ntmps165
  go_wp2_with fail
  refine (f1.out _ (Below.refl _ _)).mono ?_
  rintro e w1 ⟨rfl,hb1⟩
  have B1:=Lib.hid hb1
  clear hb1
  go_wp2
  go_ret2
  exact⟨rfl,B1.out⟩
 ·rw [hl] at f1
  cases hm:goValid m
  ·rw [hm] at f2
   clear hl hm
   go_enter Tryz.func165,Tryz.ntmps165
   go_wp2_with fail
   refine (f1.out _ (Below.refl _ _)).mono ?_
   rintro e w1 ⟨rfl,hb1⟩
   have B1:=Lib.hid hb1
   clear hb1
   go_wp2_with fail
   refine (f2.out _ B1.out).mono ?_
   rintro e w2 ⟨rfl,hb2⟩
   have B2:=Lib.hid (B1.out.trans (hb2.mono B1.out.size))
   clear hb2
   go_wp2
   go_ret2
   exact⟨rfl,B2.out⟩
  ·rw [hm] at f2
   have HV:=Lib.hid (And.intro hl hm)
   clear hl hm
   go_enter Tryz.func165,Tryz.ntmps165
   go_wp2_with fail
   refine (f1.out _ (Below.refl _ _)).mono ?_
   rintro e w1 ⟨rfl,hb1⟩
   have B1:=Lib.hid hb1
   clear hb1
   go_wp2_with fail
   refine (f2.out _ B1.out).mono ?_
   rintro e w2 ⟨rfl,hb2⟩
   have B2:=Lib.hid (B1.out.trans (hb2.mono B1.out.size))
   clear hb2
   go_wp2_with fail
   refine (f3.out _ B2.out HV.out.1 HV.out.2).mono ?_
   rintro e w3 ⟨u3,rfl,I3,hb3⟩
   have B3:=Lib.hid (B2.out.trans (hb3.mono B2.out.size))
   obtain⟨a3,c3,rfl⟩:=I3.len
   clear I3 hb3
   by_cases hd:(sharedP l m).length=0
   ·have hd2:(((sharedP l m).length:Int) == 0)=true:=by rw [beq_iff_eq];omega
    have HD:=Lib.hid (decide_eq_true hd)
    clear hd
    go_wp2
    go_ret2
    have HH:=HD.out;exact⟨by simp_all,B3.out⟩
   ·have hd2:(((sharedP l m).length:Int) == 0)=false:=by rw [beq_eq_false_iff_ne];omega
    have HD:=Lib.hid (decide_eq_false hd)
    clear hd
    go_wp2
    go_ret2
    have HH:=HD.out;exact⟨by simp_all,B3.out⟩
noncomputable def touchB (l m:List Pt):Bool:=goValid l && goValid m && !decide ((sharedP l m).length=0)
theorem touching_any (vp:Value) (l:List Pt) (w:World) (hp:PtsAt w.heap.size w vp l) :
  Calls Tryz.prog 100 #[vp] w fun e w'=>e=.returned (.func (.func 164) #[] #[.pointer (some ⟨w.heap.size,0,none⟩)])∧w.alloc (.cells #[vp] 23)=w':=by
 obtain⟨ap,capp,rfl⟩:=hp.len
 go_enter Tryz.func100,Tryz.ntmps100
 go_wp2
 go_ret
 exact⟨rfl,rfl⟩
set_option linter.unusedSimpArgs false in
set_option maxRecDepth 4000 in
theorem touching1_any (Bc:Nat) (vp vq:Value) (l m:List Pt) (w:World) (hc:w.cell? ⟨Bc,0,none⟩=some vp) (hp:PtsAt w.heap.size w vp l) (hq:PtsAt w.heap.size w vq m) :
  Calls Tryz.prog 164 #[vq,.pointer (some ⟨Bc,0,none⟩)] w fun e w'=>e=.returned (.bool (touchB l m))∧Below w.heap.size w w':=by
 have f1:=Lib.hid (apart_any vp vq l m w hp hq)
 have hR:touchB l m=(decide (bothE l m=0) && !apartB l m):=by
  unfold touchB bothE apartB
  cases goValid l <;> cases goValid m <;> simp
 rw [hR]
 obtain⟨ap,capp,rfl⟩:=hp.len
 obtain⟨aq,capq,rfl⟩:=hq.len
 have hE:bothE l m=0∨bothE l m=1:=by unfold bothE;split <;> simp
 clear hp hq hR
 generalize apartB l m=ab at *
 generalize bothE l m=be at *
 rcases hE with rfl | rfl
 all_goals
  go_enter Tryz.func164,Tryz.ntmps164
  go_wp2_with fail
  refine f1.out.mono ?_
  rintro e w1 ⟨rfl,hb1⟩
  go_wp2
  go_ret
  exact⟨by simp,hb1⟩
end Go.Proofs.YtpimbaaahcemhaaGreat
namespace Go.Proofs.YtpimbaaahcemhaaGreat
open Go.RowKit
theorem wpList_append_pts {w : World} {ops : Array Oper} {rest : List Oper} {o : Oper} {a : Act} {Q : Exit → Act → World → Prop} (hgd : o.guard = none) (s x : Operand)
  (ho:o.op=.call { callee:=.builtin .append,args:=#[s,x],argTypes:=#[23,23] })
  (base:Nat) (v:Value) (n:Nat) (xs:List Value) (hs:a.eval s=v) (hown:w.ownsRow base 58 2 v n xs)
  (vx:Value) (l:List Pt) (hx:a.eval x=vx) (hp:PtsAt w.heap.size w vx l) (h63:n+l.length≤1000000) (hbase:base≤w.heap.size)
  (h:∀ v' w',w'.ownsRow base 58 2 v' (n+l.length) (xs++ptCells l)→w.grownBy w' v.ownBlock→(v'.ownBlock=v.ownBlock∨v'.ownBlock=some w.heap.size)→wpList Tryz.prog ops Q rest (a.put o.dst v') w') :
  wpList Tryz.prog ops Q (o::rest) a w:=by
 obtain⟨i0,hi,hz0',hz1',hz2'⟩:=info_parts ptInfo
 obtain⟨_,au,cu,rfl,hcu⟩:=hp
 rcases au with _ | ⟨bu,ou,su⟩
 ·have h0:l=[]:=by
   rcases hcu with h | ⟨_,_,h,_⟩
   ·exact h
   ·cases h
  subst h0
  refine wpList_append_no hgd s x 23 ho base 58 i0 2 Tryz.underlying23 hi v n xs hs hown cu (by simpa using hx) ?_
  exact h v w (by simpa [ptCells] using hown) ⟨rfl,rfl,rfl,Nat.le_refl _,fun _ _ _=>rfl⟩ (.inl rfl)
 ·obtain⟨hsu,hcu⟩:(l=[]∨su=none)∧(∀ j u,(ptCells l)[j]?=some u→w.cell? ((⟨bu,ou,su⟩:Addr).add j)=some u):=by
   rcases hcu with h | ⟨b',o',h,_,h2⟩
   ·rw [h];exact⟨.inl rfl,fun j u hu=>by simp [ptCells] at hu⟩
   ·cases h
    exact⟨.inr rfl,pt_add h2⟩
  exact wpList_append_own_at w hgd s x 23 ho base 58 i0 (.agg #[.int .i64 0,.int .i64 0]) 2 16 Tryz.underlying23 hi hz0' hz1' hz2' rfl (by decide) v n xs hs hown ⟨bu,ou,su⟩ l.length (l.length+cu) (ptCells l) hx (ptCells_len _) hcu (ptCells_one _) (by unfold maxLen;omega) (by omega) hbase
   fun v' w' h1 h2 _ h4=>h v' w' h1 h2 h4
theorem app_below {w w':World} {base n:Nat} {t:TypeId} {size:Nat} {v:Value} {xs:List Value} (hown:w.ownsRow base t size v n xs) (hg:w.grownBy w' v.ownBlock) {b0:Nat} (h0:b0≤base) (hb:b0≤w.heap.size):Below b0 w w' :=
 (Below.refl b0 w).grown hg hb fun j ej=>Nat.le_trans h0 (hown.lt j ej).1
theorem pts_lit {W:World} {B:Nat} {l:List Pt} (h:Has W B (ptCells l).toArray 58) (hl:l.length≤1000):PtsAt W.heap.size W (.slice (some ⟨B,0,none⟩) l.length l.length) l:=by
 refine⟨by omega,some ⟨B,0,none⟩,0,rfl,.inr ⟨B,0,rfl,h.lt,fun j hj=>?_⟩⟩
 obtain⟨f0,f1⟩:=ptCells_get l j hj
 rw [Nat.zero_add]
 exact⟨h.cell (i:=j*2) (by simpa using f0),h.cell (i:=j*2+1) (by simpa using f1)⟩
end Go.Proofs.YtpimbaaahcemhaaGreat
namespace Go.Proofs.YtpimbaaahcemhaaGreat
open Go.RowKit
attribute [local irreducible] wpQuiet
noncomputable def withinB (l m:List Pt):Bool:=goValid l && (goValid m && decide ((cornersP l m).length=l.length))
set_option maxHeartbeats 800000 in
theorem within_any (vp vq : Value) (l m : List Pt) (w : World) (hp : PtsAt w.heap.size w vp l) (hq : PtsAt w.heap.size w vq m) :
  Calls Tryz.prog 49 #[vp,vq] w fun e w'=>e=.returned (.tuple #[.bool (withinB l m),.int .i64 (bothE l m)])∧Below w.heap.size w w':=by
 have f1:=Lib.hid (fun w1 (B:Below w.heap.size w w1)=>hullValid_any vp l w1 ((hp.below B).mono B.size))
 have f2:=Lib.hid (fun w1 (B:Below w.heap.size w w1)=>hullValid_any vq m w1 ((hq.below B).mono B.size))
 have f3:=Lib.hid (fun w1 (B:Below w.heap.size w w1) hs=>corners_any vp vq l m w1 ((hp.below B).mono B.size) ((hq.below B).mono B.size) hs)
 obtain⟨ap,capp,rfl⟩:=hp.len
 obtain⟨aq,capq,rfl⟩:=hq.len
 unfold withinB bothE
 clear hp hq
 cases hl:goValid l
 ·rw [hl] at f1
  clear hl
  go_enter Tryz.func49,Tryz.ntmps49
  go_wp2_with fail
  refine (f1.out _ (Below.refl _ _)).mono ?_
  rintro e w1 ⟨rfl,hb1⟩
  have B1:=Lib.hid hb1
  clear hb1
  go_wp2
  go_ret2
  exact⟨rfl,B1.out⟩
 ·rw [hl] at f1
  cases hm:goValid m
  ·rw [hm] at f2
   clear hl hm
   go_enter Tryz.func49,Tryz.ntmps49
   go_wp2_with fail
   refine (f1.out _ (Below.refl _ _)).mono ?_
   rintro e w1 ⟨rfl,hb1⟩
   have B1:=Lib.hid hb1
   clear hb1
   go_wp2_with fail
   refine (f2.out _ B1.out).mono ?_
   rintro e w2 ⟨rfl,hb2⟩
   have B2:=Lib.hid (B1.out.trans (hb2.mono B1.out.size))
   clear hb2
   go_wp2
   go_ret2
   exact⟨rfl,B2.out⟩
  ·rw [hm] at f2
   have hs:l.length≤1000000:=by have V:GoValid l:=by { simpa [goValid] using hl };have:=V.2.1;omega
   replace f3:=Lib.hid (fun w1 B=>f3.out w1 B hs)
   have HV:=Lib.hid (And.intro hl hm)
   clear hl hm hs
   go_enter Tryz.func49,Tryz.ntmps49
   go_wp2_with fail
   refine (f1.out _ (Below.refl _ _)).mono ?_
   rintro e w1 ⟨rfl,hb1⟩
   have B1:=Lib.hid hb1
   clear hb1
   go_wp2_with fail
   refine (f2.out _ B1.out).mono ?_
   rintro e w2 ⟨rfl,hb2⟩
   have B2:=Lib.hid (B1.out.trans (hb2.mono B1.out.size))
   clear hb2
   go_wp2_with fail
   refine (f3.out _ B2.out).mono ?_
   rintro e w3 ⟨u3,rfl,I3,hb3⟩
   have B3:=Lib.hid (B2.out.trans (hb3.mono B2.out.size))
   obtain⟨a3,c3,rfl⟩:=I3.len
   clear I3 hb3
   by_cases hd:(cornersP l m).length=l.length
   ·have d0:(((cornersP l m).length:Int) == (l.length:Int))=true:=by simp [hd]
    have HD:=Lib.hid (decide_eq_true hd)
    clear hd
    go_wp2
    go_ret2
    have HH:=HD.out;exact⟨by simp_all,B3.out⟩
   ·have d0:(((cornersP l m).length:Int) == (l.length:Int))=false:=by rw [beq_eq_false_iff_ne];omega
    have HD:=Lib.hid (decide_eq_false hd)
    clear hd
    go_wp2
    go_ret2
    have HH:=HD.out;exact⟨by simp_all,B3.out⟩
end Go.Proofs.YtpimbaaahcemhaaGreat
namespace Go.Proofs.YtpimbaaahcemhaaGreat
open Go.RowKit
theorem rkInfo:(Tryz.prog.info? 23).map (fun i=>(i.zero,i.size,i.bytes))=some (some (.slice none 0 0),1,24):=by kernel_rfl
def RksR (n0:Nat) (W:World) (us:List Value) (ls:List (List Pt)):Prop:=us.length=ls.length∧∀ j,j<ls.length→∃ u,us[j]?=some u∧PtsAt n0 W u (rk ls j)
section
variable {n0 n1:Nat} {A B W:World} {us us':List Value} {ls ls':List (List Pt)}
theorem RksR.below (h:RksR n0 A us ls) (hb:Below n0 A B):RksR n0 B us ls:=⟨h.1,fun j hj=>by obtain⟨u,a,b⟩:=h.2 j hj;exact⟨u,a,b.below hb⟩⟩
theorem RksR.mono (h:RksR n0 W us ls) (hn:n0≤n1):RksR n1 W us ls:=⟨h.1,fun j hj=>by obtain⟨u,a,b⟩:=h.2 j hj;exact⟨u,a,b.mono hn⟩⟩
theorem RksR.nil:RksR n0 W [] []:=⟨rfl,fun j hj=>by simp at hj⟩
theorem RksR.one {u:Value} {l:List Pt} (h:PtsAt n0 W u l):RksR n0 W [u] [l]:=⟨rfl,fun j hj=>by obtain rfl:j=0:=(by simp at hj;omega);exact⟨u,rfl,h⟩⟩
theorem RksR.app (h:RksR n0 W us ls) (h':RksR n0 W us' ls'):RksR n0 W (us++us') (ls++ls'):=by
 refine⟨by rw [List.length_append,List.length_append,h.1,h'.1],fun j hj=>?_⟩
 rw [List.length_append] at hj
 by_cases e:j<ls.length
 ·obtain⟨u,a,b⟩:=h.2 j e
  have er:rk (ls++ls') j=rk ls j:=by simp only [rk,List.getD_eq_getElem?_getD];rw [List.getElem?_append_left e]
  exact⟨u,by rw [List.getElem?_append_left (by rw [h.1];exact e)];exact a,by rw [er];exact b⟩
 ·obtain⟨u,a,b⟩:=h'.2 (j - ls.length) (by omega)
  have er:rk (ls++ls') j=rk ls' (j - ls.length):=by simp only [rk,List.getD_eq_getElem?_getD];rw [List.getElem?_append_right (by omega)]
  exact⟨u,by rw [List.getElem?_append_right (by rw [h.1];omega),h.1];exact a,by rw [er];exact b⟩
theorem RksR.rocks {base:Nat} {v:Value} (hr:RksR W.heap.size W us ls) (h:W.ownsRow base 23 1 v ls.length us) (hl:ls.length≤70368744177663):RocksAt W.heap.size W v ls:=by
 refine⟨hl,?_⟩
 rcases h.2 with⟨rfl,h0⟩ | ⟨g,cap,cur,rfl,_,hg,hc,_⟩
 ·exact⟨none,0,by rw [h0],.inl (List.eq_nil_of_length_eq_zero h0)⟩
 ·refine⟨some ⟨g,0,none⟩,cap - ls.length,by rw [show ls.length+(cap - ls.length)=cap by omega],.inr ⟨g,0,rfl,(Array.getElem?_eq_some_iff.1 hg).1,fun j hj=>?_⟩⟩
  obtain⟨u,h1,h2⟩:=hr.2 j hj
  rw [Nat.zero_add]
  exact⟨u,(h.cellAt j (by omega)).trans h1,h2⟩
theorem add_off (b o j:Nat):(⟨b,o,none⟩:Addr).add j=⟨b,o+j,none⟩:=by unfold Addr.add;split <;> simp_all
theorem RocksAt.rows {w : World} {ad : Addr} {n c : Nat} {l : List (List Pt)} (hp : RocksAt n0 w (.slice (some ad) n c) l) :
  ∃ news,RksR n0 w news l∧news.length=l.length∧(∀ j u,news[j]?=some u→w.cell? (ad.add j)=some u)∧∀ u ∈ news,u.oneCell'=true:=by
 obtain⟨-,a,cap,e,hc⟩:=hp
 rcases hc with rfl | ⟨b,o,rfl,hb,hc⟩
 ·exact⟨[],RksR.nil,rfl,fun j u h=>by simp at h,fun u h=>by simp at h⟩
 ·obtain rfl:ad=⟨b,o,none⟩:=by injection e with e1;exact Option.some.inj e1
  have hf:∀ j,∃ u,j<l.length→w.cell? ⟨b,o+j,none⟩=some u∧PtsAt n0 w u (rk l j):=fun j=>by
   by_cases hj:j<l.length
   ·obtain⟨u,h⟩:=hc j hj;exact⟨u,fun _=>h⟩
   ·exact⟨.slice none 0 0,fun h=>absurd h hj⟩
  obtain⟨f,hg⟩:∃ f:Nat→Value,∀ j,j<l.length→w.cell? ⟨b,o+j,none⟩=some (f j)∧PtsAt n0 w (f j) (rk l j):=⟨fun j=>(hf j).choose,fun j=>(hf j).choose_spec⟩
  clear hf
  refine⟨(List.range l.length).map f,⟨by simp,fun j hj=>⟨f j,by simp [hj],(hg j hj).2⟩⟩,by simp,fun j u hu=>?_,fun u hu=>?_⟩
  ·by_cases hj:j<l.length
   ·simp [hj] at hu
    rw [← hu,add_off]
    exact (hg j hj).1
   ·simp [hj] at hu
  ·obtain⟨j,hj,rfl⟩:=List.mem_map.1 hu
   obtain⟨-,a1,c1,e1,-⟩:=(hg j (List.mem_range.1 hj)).2
   rw [e1]
   rfl
theorem rk_takeK {k j:Nat} (h:j<k):rk (ls.take k) j=rk ls j:=by simp [rk,List.getD,h]
theorem rk_dropK {k j:Nat}:rk (ls.drop k) j=rk ls (k+j):=by simp [rk,List.getD,List.getElem?_drop]
theorem RocksAt.takeK {b o c c' k:Nat} (h:RocksAt n0 W (.slice (some ⟨b,o,none⟩) ls.length c) ls) (hk:k≤ls.length) (hc':k≤c'):RocksAt n0 W (.slice (some ⟨b,o,none⟩) k c') (ls.take k):=by
 obtain⟨hl,a,cap,e,hc⟩:=h
 have e1:(ls.take k).length=k:=by rw [List.length_take];omega
 refine⟨by omega,some ⟨b,o,none⟩,c' - k,by rw [e1,show k+(c' - k)=c' by omega],?_⟩
 rcases hc with rfl | ⟨b',o',rfl,hb,hc⟩
 ·exact .inl (by simp)
 ·obtain⟨rfl,rfl⟩:b=b'∧o=o':=by injection e with e2;injection e2 with e3;injection e3 with e4 e5;exact⟨e4,e5⟩
  refine .inr ⟨b,o,rfl,hb,fun j hj=>?_⟩
  rw [rk_takeK (by omega)]
  exact hc j (by omega)
theorem RocksAt.dropK {b o c c' k n:Nat} (h:RocksAt n0 W (.slice (some ⟨b,o,none⟩) ls.length c) ls) (hk:k+n=ls.length) (hc':n≤c'):RocksAt n0 W (.slice (some ⟨b,o+k,none⟩) n c') (ls.drop k):=by
 obtain⟨hl,a,cap,e,hc⟩:=h
 have e1:(ls.drop k).length=n:=by rw [List.length_drop];omega
 refine⟨by omega,some ⟨b,o+k,none⟩,c' - n,by rw [e1,show n+(c' - n)=c' by omega],?_⟩
 rcases hc with rfl | ⟨b',o',rfl,hb,hc⟩
 ·exact .inl (by simp)
 ·obtain⟨rfl,rfl⟩:b=b'∧o=o':=by injection e with e2;injection e2 with e3;injection e3 with e4 e5;exact⟨e4,e5⟩
  refine .inr ⟨b,o+k,rfl,hb,fun j hj=>?_⟩
  rw [rk_dropK,Nat.add_assoc]
  exact hc (k+j) (by omega)
end
theorem run_append_rocks {w:World} {n:Nat}
  {n0:Nat} {ad:Addr} {l:List (List Pt)} {k c:Nat} (hk:l.length=k) (hp:RocksAt n0 w (.slice (some ad) k c) l) (h63:n+k≤5864062014635) :
  ∃ news i0,Tryz.prog.info? 23=some i0∧i0.zero=some (.slice none 0 0)∧i0.size=1∧i0.bytes=24∧RksR n0 w news l∧news.length=k*1∧(∀ j u,news[j]?=some u→w.cell? (ad.add j)=some u)∧(∀ u ∈ news,u.oneCell'=true)∧n+k≤maxLen∧(n+k)*24≤140737488355328:=by
 obtain⟨i0,hi,hz0',hz1',hz2'⟩:=info_parts rkInfo
 obtain⟨news,n1,n2,n3,n4⟩:=hp.rows
 exact⟨news,i0,hi,hz0',hz1',hz2',n1,by omega,n3,n4,by unfold maxLen;omega,by omega⟩
theorem wpList_append_rocks {w:World} {ops:Array Oper} {rest:List Oper} {o:Oper} {a:Act} {Q:Exit→Act→World→Prop} (hgd:o.guard=none) (s x:Operand)
  (ho:o.op=.call { callee:=.builtin .append,args:=#[s,x],argTypes:=#[24,24] })
  (base:Nat) (v:Value) (n:Nat) (xs:List Value) (hs:a.eval s=v) (hown:w.ownsRow base 23 1 v n xs)
  (vx:Value) (l:List (List Pt)) (hx:a.eval x=vx) (n0:Nat) (hp:RocksAt n0 w vx l) (h63:n+l.length≤5864062014635) (hbase:base≤w.heap.size)
  (h:∀ news v' w',RksR n0 w news l→w'.ownsRow base 23 1 v' (n+l.length) (xs++news)→w.grownBy w' v.ownBlock→(v'.ownBlock=v.ownBlock∨v'.ownBlock=some w.heap.size)→wpList Tryz.prog ops Q rest (a.put o.dst v') w') :
  wpList Tryz.prog ops Q (o::rest) a w:=by
 obtain⟨_,au,cu,rfl,hcu⟩:=id hp
 rcases au with _ | ad
 ·have h0:l=[]:=by
   rcases hcu with h | ⟨_,_,h,_⟩
   ·exact h
   ·cases h
  subst h0
  obtain⟨i0,hi,hz0',hz1',hz2'⟩:=info_parts rkInfo
  refine wpList_append_no hgd s x 24 ho base 23 i0 1 Tryz.underlying24 hi v n xs hs hown cu (by simpa using hx) ?_
  exact h [] v w RksR.nil (by simpa using hown) ⟨rfl,rfl,rfl,Nat.le_refl _,fun _ _ _=>rfl⟩ (.inl rfl)
 ·obtain⟨news,i0,hi,hz0',hz1',hz2',n1,n2,n3,n4,b1,b2⟩:=run_append_rocks rfl hp h63
  exact wpList_append_own_at w hgd s x 24 ho base 23 i0 (.slice none 0 0) 1 24 Tryz.underlying24 hi hz0' hz1' hz2' rfl (by decide) v n xs hs hown ad l.length (l.length+cu) news hx n2 n3 n4 b1 b2 hbase
   fun v' w' h1 h2 _ h4=>h news v' w' n1 h1 h2 h4
theorem wpList_append_rock {w0:World} {u:Value} {ops:Array Oper} {rest:List Oper} {o:Oper} {a:Act} {Q:Exit→Act→World→Prop} (hu:u.oneCell'=true) (hgd:o.guard=none) (s x:Operand)
  (ho:o.op=.call { callee:=.builtin .append,args:=#[s,x],argTypes:=#[24,24] })
  (base:Nat) (v:Value) (n:Nat) (xs:List Value) (hs:a.eval s=v) (hown:w0.ownsRow base 23 1 v n xs)
  (hx:a.eval x=.slice (some ⟨w0.heap.size,0,none⟩) 1 1) (h63:n+1≤5864062014635) (hbase:base≤w0.heap.size)
  (h:∀ v' w',w'.ownsRow base 23 1 v' (n+1) (xs++[u])→Below base w0 w'→wpList Tryz.prog ops Q rest (a.put o.dst v') w') :
  wpList Tryz.prog ops Q (o::rest) a (w0.alloc (.cells #[u] 23)):=by
 obtain⟨i0,hi,hz0',hz1',hz2'⟩:=info_parts rkInfo
 refine wpList_append_own_at _ hgd s x 24 ho base 23 i0 (.slice none 0 0) 1 24 Tryz.underlying24 hi hz0' hz1' hz2' rfl (by decide) v n xs hs (hown.alloc _) ⟨w0.heap.size,0,none⟩ 1 1 [u] hx rfl (cell_one_new w0 u _) (by simpa using hu) (by unfold maxLen;omega) (by omega) (by simp;omega) ?_
 intro v' w' h1 h2 _ _
 exact h v' w' h1 (((Below.refl base w0).alloc hbase _).grown h2 (by simp;omega) fun j ej=>(hown.lt j ej).1)
theorem okOp_append_rocks {ops:Array Oper} {i:Nat} {o:Oper} {a:Act} {w:World} {K:Act→World→Prop} (hi:ops[i]?=some o) (hg:o.guard=none) (s x:Operand)
  (hop:o.op=Op.call { callee:=Callee.builtin Builtin.append,args:=#[s,x],argTypes:=#[24,24] })
  (base:Nat) (v:Value) (k:Nat) (xs:List Value) (hs:a.eval s=v) (hown:w.ownsRow base 23 1 v k xs) (ad:Addr) (m c:Nat) (hx:a.eval x=.slice (some ad) m c)
  (n0:Nat) (l:List (List Pt)) (hl:l.length=m) (hp:RocksAt n0 w (.slice (some ad) m c) l) (h63:k+m≤5864062014635) (b3:base≤w.heap.size)
  (hK:∀ news v' w',RksR n0 w news l→w'.ownsRow base 23 1 v' (k+m) (xs++news)→Below base w w'→K (a.put o.dst v') w'):okOp Tryz.prog ops i K a w:=by
 obtain⟨news,i0,e1,hz0',hz1',hz2',n1,n2,n3,n4,b1,b2⟩:=run_append_rocks hl hp h63
 exact okOp_append hi hg s x 24 hop base 23 i0 (.slice none 0 0) 1 24 Tryz.underlying24 e1 hz0' hz1' hz2' rfl (by decide) v k xs hs hown ad m c news hx n2 n3 n4 b1 b2 b3
  fun v' w' h1 h2 _=>hK news v' w' n1 h1 ((Below.refl base w).grown h2 b3 fun j ej=>(hown.lt j ej).1)
theorem row_slice' {W:World} {b:Nat} {t:TypeId} {s n:Nat} {v:Value} {xs:List Value} (h:W.ownsRow b t s v n xs):∃ a c,v=.slice a n c:=by
 rcases h.2 with⟨e,e0⟩ | ⟨g,cap,cur,e,-⟩
 ·exact⟨none,0,by rw [e,e0]⟩
 ·exact⟨_,_,e⟩
end Go.Proofs.YtpimbaaahcemhaaGreat
