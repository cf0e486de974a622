/- slices.Concat of lists of points; package cut: shared, Apart. | A list of points appended to one of the call's own; points in a literal. | package .. -/
import Derived.Lib.AppendZeros
import Derived.Lib.SliceRun
import Derived.Laws.AppendOwnNone
import Derived.Test.YtcfkhkgldboddaaGreatBin19
set_option linter.unusedSimpArgs false
set_option maxRecDepth 8000
set_option maxHeartbeats 1600000
namespace Go.Proofs.YtcfkhkgldboddaaGreat
section
attribute [local irreducible] wpQuiet
open Go.RowKit
theorem Zaz (n:Nat) (hn:n≤1000000) (w:World):Calls Tryz.prog 164 #[.slice none 0 0,.int .i64 (n:Int)] w fun e w'=>∃ v,e=.returned v∧w'.ownsRow w.heap.size 41 2 v 0 []∧Below w.heap.size w w':=by
 have h1:decide ((n:Int)<0)=false:=by simp
 have h2:IntKind.i64.wrap ((n:Int)-0)=(n:Int):=by rw [Int.sub_zero];exact zW2
 by_cases h0:n=0
 ·subst h0
  go_enter Tryz.func164,Tryz.ntmps164;go_wp2;go_ret;exact⟨_,rfl,World.ownsRow_nil _ _ _ _,Below.refl _ _⟩
 ·obtain⟨i0,hi,hz0',hz1',hz2'⟩:=info_parts ptInfo
  have h3:decide ((n:Int)>0)=true:=by simp;omega
  have hrz:=fun ty=>Lib.run_append_nil_zeros (P:=Tryz.prog) w 23 3 ty 41 i0 (.agg #[.int .i64 0,.int .i64 0]) .i64 .i64 Tryz.underlying23 Tryz.underlying3 hi hz0' n (by omega) (by rw [hz1'];omega) (by omega) (by rw [hz2'];omega)
  have hG:=grownCap_le_maxLen w n 0 41 (by unfold maxLen;omega)
  have hG2:=grownCap_ge w n 0 41;obtain⟨G,hGe⟩:∃ G,G=grownCap w n 0 41:=⟨_,rfl⟩;rw [← hGe] at hrz hG hG2;have hz:Builtin.zeroCells (Value.cells (.agg #[.int .i64 0,.int .i64 0])) n++Builtin.zeroCells (Value.cells (.agg #[.int .i64 0,.int .i64 0])) (G-n)=Builtin.zeroCells (Value.cells (.agg #[.int .i64 0,.int .i64 0])) n++Builtin.zeroCells (Value.cells (.agg #[.int .i64 0,.int .i64 0])) (G-n):=rfl;have hsz:(Builtin.zeroCells (Value.cells (.agg #[.int .i64 0,.int .i64 0])) n++Builtin.zeroCells (Value.cells (.agg #[.int .i64 0,.int .i64 0])) (G-n)).size=G*2:=by
   simp [Builtin.zeroCells,Value.cells];omega
  have hown:=World.ownsRow_made (e:=41) (size:=2) (base:=w.heap.size) w.drew (Builtin.zeroCells (Value.cells (.agg #[.int .i64 0,.int .i64 0])) n++Builtin.zeroCells (Value.cells (.agg #[.int .i64 0,.int .i64 0])) (G-n)) G (Nat.le_refl _) hG hsz;have hB:=((Below.refl w.heap.size w).drew).alloc (Nat.le_refl _) (.cells (Builtin.zeroCells (Value.cells (.agg #[.int .i64 0,.int .i64 0])) n++Builtin.zeroCells (Value.cells (.agg #[.int .i64 0,.int .i64 0])) (G-n)) 41);generalize Builtin.zeroCells (Value.cells (.agg #[.int .i64 0,.int .i64 0])) n++Builtin.zeroCells (Value.cells (.agg #[.int .i64 0,.int .i64 0])) (G-n)=zz at *;have HO:=Lib.hid (And.intro hown hB);clear hown hB hz hsz hGe;unfold maxLen at hG;go_enter Tryz.func164,Tryz.ntmps164;go_wp2_with (at_builtin;refine Lib.wpList_append_run _ rfl _ _ _ _ rfl _ _ rfl rfl _ _ (hrz _) ?_)
  all_goals (go_ret;exact⟨_,rfl,HO.out.1,HO.out.2⟩)
theorem Z4q {P:Program} {w:World} (base:Nat) (t ty e:TypeId) (i:TypeInfo) (size:Nat) (ht:P.underlying t=some (.slice e)) (hi:P.info? e=some i)
  (v:Value) (n:Nat) (xs:List Value) (hown:w.ownsRow base e size v n xs) (c:Nat):(Builtin.append_ #[t,t] ty #[v,.slice none 0 c]).run P w=.ok v w:=by
 rcases hown.2 with⟨rfl,rfl⟩ | ⟨g,cap,cur,rfl,_,_,hnc,_⟩
 ·simp [Builtin.append_,run_underlying ht,sizeOf,typeInfo,hi,Builtin.lenOf,Builtin.firstCells]
 ·simp [Builtin.append_,run_underlying ht,sizeOf,typeInfo,hi,Builtin.lenOf,Builtin.firstCells,hnc,storeCells]
theorem Z0Y {P:Program} {w:World} {ops:Array Oper} {rest:List Oper} {o:Oper} {a:Act} {Q:Exit→Act→World→Prop} (hgd:o.guard=none) (s x:Operand) (t:TypeId)
  (ho:o.op=.call { callee:=.builtin .append,args:=#[s,x],argTypes:=#[t,t] })
  (base:Nat) (e:TypeId) (i:TypeInfo) (size:Nat) (ht:P.underlying t=some (.slice e)) (hi:P.info? e=some i)
  (v:Value) (n:Nat) (xs:List Value) (hs:a.eval s=v) (hown:w.ownsRow base e size v n xs) (c:Nat) (hx:a.eval x=.slice none 0 c)
  (h:wpList P ops Q rest (a.put o.dst v) w):wpList P ops Q (o::rest) a w:=by
 refine wpList_plain hgd fun K hK=>?_
 have hrun:=Z4q (P:=P) (w:=w) base t o.type e i size ht hi v n xs hown c;unfold Oper.wp;simp [execOp,ho,resolve,invoke,builtin,hs,hx,hrun,Result.andThen];exact hK _ _ h
def sumTo (ls:List (List Pt)):Nat→Nat
 | 0=>0
 | k+1=>sumTo ls k+(rk ls k).length
def catTo (ls:List (List Pt)):Nat→List Pt
 | 0=>[]
 | k+1=>catTo ls k++rk ls k
theorem Z3u (ls:List (List Pt)):∀ k,(catTo ls k).length=sumTo ls k
 | 0=>rfl
 | k+1=>by simp [catTo,sumTo,Z3u ls k]
theorem Z6w (ls:List (List Pt)) {N:Nat} (h:∀ j,(rk ls j).length≤N):∀ k,sumTo ls k≤k*N
 | 0=>by simp [sumTo]
 | k + 1 => by
  have:=Z6w ls h k;have:=h k;simp only [sumTo,Nat.add_mul];omega
theorem Z4e (v : Value) (ls : List (List Pt)) (w : World) (hr : Z7 w.heap.size w v ls) (hl : ls.length ≤ 10) (hn : ∀ j, (rk ls j).length ≤ 20000) :
  Calls Tryz.prog 144 #[v] w (PtsQ (catTo ls ls.length) w):=by
 obtain⟨_,a,cap,rfl,hc⟩:=hr;have HC:=Lib.hid hc;have HN:=Lib.hid hn;obtain⟨i0,hi,hz0',hz1',hz2'⟩:=info_parts ptInfo;have hs:=fun k=>Z6w ls hn k
 have HS:=Lib.hid hs;clear hc hn hs;go_enter Tryz.func144,Tryz.ntmps144;go_wp2
 go_loopw [3,11] (fun s i wr=>∃ k:Nat,k≤ls.length∧i=.int .i64 (k:Int)∧s=.int .i64 (sumTo ls k:Int)∧Below w.heap.size w wr) (fun _ i _=>ls.length-(intOf i).toNat)
 case atStart=>exact⟨0,by omega,rfl,rfl,Below.refl _ _⟩
 case round =>
  obtain⟨k,hk,rfl,rfl,hB⟩:=hrel;have hzB:=hB.size;have hsk:=HS.out k;by_cases hlt:k<ls.length
  ·obtain⟨b,o,rfl,hb,hcc⟩:∃ b o,a=some ⟨b,o,none⟩∧b<w.heap.size∧∀ j,j<ls.length→∃ u,w.cell? ⟨b,o+j,none⟩=some u∧Z8 w.heap.size w u (rk ls j):=by
    rcases HC.out with h | h
    ·rw [h] at hlt;simp at hlt
    ·exact h
   obtain⟨u,hu,hpu⟩:=hcc k hlt;obtain⟨au,cu,rfl⟩:=hpu.len;have e0:=(hB.cell (p:=⟨b,o+k,none⟩) hb).trans hu;have hnk:=HN.out k;have hst:Hid ((sumTo ls (k+1):Int)=(sumTo ls k:Int)+((rk ls k).length:Int)):=by show _=_;simp [sumTo]
   have dk:decide ((k:Int)<(ls.length:Int))=true:=by simp;omega
   have kl:(k:Int)<ls.length:=by omega
   have k0:(0:Int)≤k:=by omega
   have m1:IntKind.i64.wrap ((sumTo ls k:Int)+((rk ls k).length:Int))=(sumTo ls k:Int)+((rk ls k).length:Int):=zW2;have d1:decide ((sumTo ls k:Int)+((rk ls k).length:Int)<0)=false:=by simp;omega
   have hBB:=Lib.hid hB;clear hcc hu hpu hB;generalize (sumTo ls k:Int)=S at *;go_wp2;go_roundw
   case rel=>exact⟨k+1,by omega,by go_num,by rw [hst.out],hBB.out⟩
   case measure=>simp [intOf];omega
  ·obtain rfl:k=ls.length:=by omega
   have dk:decide ((ls.length:Int)<(ls.length:Int))=false:=by simp
   have hg:=Lib.hid (Zaz (sumTo ls ls.length) (by omega) wr)
   have hBB:=Lib.hid hB;clear hB;obtain⟨wq,rfl⟩:∃ x,x=wr:=⟨_,rfl⟩;go_wp2_with fail;refine hg.out.mono ?_;rintro e w2 ⟨vg,rfl,hown,hb2⟩;have HO:=Lib.hid hown;have H2:=Lib.hid hb2;clear hown hb2;go_wp2
   go_loopw [6,27] (fun v i wr=>∃ k:Nat,k≤ls.length∧i=.int .i64 (k:Int)∧wr.ownsRow wq.heap.size 41 2 v (catTo ls k).length (Za (catTo ls k))∧Below wq.heap.size wq wr) (fun _ i _=>ls.length-(intOf i).toNat)
   case atStart=>exact⟨0,by omega,rfl,HO.out,H2.out⟩
   case round =>
    obtain⟨k,hk2,rfl,hrow,hZ⟩:=hrel;have hzz:=hZ.size;have BZ:=hBB.out.trans (hZ.mono hBB.out.size);by_cases hlt2:k<ls.length
    ·obtain⟨b,o,rfl,hb,hcc⟩:∃ b o,a=some ⟨b,o,none⟩∧b<w.heap.size∧∀ j,j<ls.length→∃ u,w.cell? ⟨b,o+j,none⟩=some u∧Z8 w.heap.size w u (rk ls j):=by
      rcases HC.out with h | h
      ·rw [h] at hlt2;simp at hlt2
      ·exact h
     obtain⟨u,hu,hpu⟩:=hcc k hlt2;have hpz:=hpu.below BZ;have e0:=(BZ.cell (p:=⟨b,o+k,none⟩) hb).trans hu;have hnk:=HN.out k;have hcl:=Z3u ls k;have hsk2:=HS.out k;have dk2:decide ((k:Int)<(ls.length:Int))=true:=by simp;omega
     have kl:(k:Int)<ls.length:=by omega
     have k0:(0:Int)≤k:=by omega
     have HZ:=Lib.hid hZ;have HR:=Lib.hid hrow;obtain⟨_,au,cu,rfl,hcu⟩:=hpz;have hsz1:wq.heap.size≤wr.heap.size:=hzz;have HCU:=Lib.hid hcu;clear hcc hu hpu hZ hrow hcu BZ;rcases au with _ | ⟨bu,ou,su⟩
     ·have h0:rk ls k=[]:=by
       rcases HCU.out with h | ⟨_,_,h,_⟩
       ·exact h
       ·cases h
      have hcat:Hid (catTo ls (k+1)=catTo ls k):=by show catTo ls k++rk ls k=_;rw [h0,List.append_nil]
      rw [h0] at e0 hnk;have e0':wr.cell? ⟨b,o+k,none⟩=some (.slice none 0 cu):=by simpa using e0
      have HR':=HR.out;clear e0 HCU h0;go_wp2_with (at_builtin;refine Z0Y rfl _ _ 23 rfl wq.heap.size 41 i0 2 Tryz.underlying23 hi _ _ _ rfl HR.out cu rfl ?_)
      go_roundw
      case rel=>exact⟨k+1,by omega,by go_num,by rw [hcat.out];exact HR.out,HZ.out⟩
      case measure=>simp [intOf];omega
     ·obtain⟨hsu,hcu⟩:(rk ls k=[]∨su=none)∧(∀ j u,(Za (rk ls k))[j]?=some u→wr.cell? ((⟨bu,ou,su⟩:Addr).add j)=some u):=by
       rcases HCU.out with h | ⟨b',o',h,_,h2⟩
       ·rw [h];exact⟨.inl rfl,fun j u hu=>by simp [Za] at hu⟩
       ·cases h
        exact⟨.inr rfl,Z3T h2⟩
      go_wp2_with (at_builtin;refine wpList_append_own _ rfl _ _ 23 rfl wq.heap.size 41 i0 (.agg #[.int .i64 0,.int .i64 0]) 2 16 Tryz.underlying23 hi hz0' hz1' hz2' rfl (by decide) _ _ _ rfl HR.out ⟨bu,ou,su⟩ (rk ls k).length ((rk ls k).length+cu) (Za (rk ls k)) rfl (Zr _) hcu (Z01 _) (by unfold maxLen;omega) (by omega) (by omega) ?_;intro v' w4 hown' hgrow _)
      go_roundw
      case rel =>
       have hb0:Below wq.heap.size wr w4:=(Below.refl wq.heap.size wr).grown hgrow (by omega) (fun j ej=>(HR.out.lt j ej).1)
       refine⟨k+1,by omega,by go_num,?_,HZ.out.trans hb0⟩
       simp only [catTo,List.length_append,Zu];exact hown'
      case measure=>simp [intOf];omega
    ·obtain rfl:k=ls.length:=by omega
     have dk2:decide ((ls.length:Int)<(ls.length:Int))=false:=by simp
     have hcl:=Z3u ls ls.length;have HI:=Lib.hid (Z8.own hrow (by omega))
     have HZ:=Lib.hid BZ;clear hrow hZ BZ;go_wp2;go_ret;exact⟨_,rfl,HI.out,HZ.out⟩
end
section
open Go.RowKit
theorem ZV {w : World} {ops : Array Oper} {rest : List Oper} {o : Oper} {a : Act} {Q : Exit → Act → World → Prop} (hgd : o.guard = none) (s x : Operand)
  (ho:o.op=.call { callee:=.builtin .append,args:=#[s,x],argTypes:=#[23,23] })
  (base:Nat) (v:Value) (n:Nat) (xs:List Value) (hs:a.eval s=v) (hown:w.ownsRow base 41 2 v n xs)
  (vx:Value) (l:List Pt) (hx:a.eval x=vx) (hp:Z8 w.heap.size w vx l) (h63:n+l.length≤1000000) (hbase:base≤w.heap.size)
  (h:∀ v' w',w'.ownsRow base 41 2 v' (n+l.length) (xs++Za l)→w.grownBy w' v.ownBlock→(v'.ownBlock=v.ownBlock∨v'.ownBlock=some w.heap.size)→wpList Tryz.prog ops Q rest (a.put o.dst v') w') :
  wpList Tryz.prog ops Q (o::rest) a w:=by
 obtain⟨i0,hi,hz0',hz1',hz2'⟩:=info_parts ptInfo;obtain⟨_,au,cu,rfl,hcu⟩:=hp;rcases au with _ | ⟨bu,ou,su⟩
 ·have h0:l=[]:=by
   rcases hcu with h | ⟨_,_,h,_⟩
   ·exact h
   ·cases h
  subst h0;refine Z0Y hgd s x 23 ho base 41 i0 2 Tryz.underlying23 hi v n xs hs hown cu (by simpa using hx) ?_
  exact h v w (by simpa [Za] using hown) ⟨rfl,rfl,rfl,Nat.le_refl _,fun _ _ _=>rfl⟩ (.inl rfl)
 ·obtain⟨hsu,hcu⟩:(l=[]∨su=none)∧(∀ j u,(Za l)[j]?=some u→w.cell? ((⟨bu,ou,su⟩:Addr).add j)=some u):=by
   rcases hcu with h | ⟨b',o',h,_,h2⟩
   ·rw [h];exact⟨.inl rfl,fun j u hu=>by simp [Za] at hu⟩
   ·cases h
    exact⟨.inr rfl,Z3T h2⟩
  exact wpList_append_own_at w hgd s x 23 ho base 41 i0 (.agg #[.int .i64 0,.int .i64 0]) 2 16 Tryz.underlying23 hi hz0' hz1' hz2' rfl (by decide) v n xs hs hown ⟨bu,ou,su⟩ l.length (l.length+cu) (Za l) hx (Zr _) hcu (Z01 _) (by unfold maxLen;omega) (by omega) hbase
   fun v' w' h1 h2 _ h4=>h v' w' h1 h2 h4
theorem Z24 {w w':World} {base n:Nat} {t:TypeId} {size:Nat} {v:Value} {xs:List Value} (hown:w.ownsRow base t size v n xs) (hg:w.grownBy w' v.ownBlock) {b0:Nat} (h0:b0≤base) (hb:b0≤w.heap.size):Below b0 w w' :=
 (Below.refl b0 w).grown hg hb fun j ej=>Nat.le_trans h0 (hown.lt j ej).1
theorem Z5W {W:World} {B:Nat} {l:List Pt} (h:Has W B (Za l).toArray 41) (hl:l.length≤1000):Z8 W.heap.size W (.slice (some ⟨B,0,none⟩) l.length l.length) l:=by
 refine⟨by omega,some ⟨B,0,none⟩,0,rfl,.inr ⟨B,0,rfl,h.lt,fun j hj=>?_⟩⟩
 obtain⟨f0,f1⟩:=Z02 l j hj;rw [Nat.zero_add];exact⟨h.cell (i:=j*2) (by simpa using f0),h.cell (i:=j*2+1) (by simpa using f1)⟩
end
section
attribute [local irreducible] wpQuiet
open Go.RowKit
noncomputable def sharedP (l m:List Pt):List Pt:=cornersP l m++cornersP m l++crossP l m
theorem Z7e (l m:List Pt):catTo [cornersP l m,cornersP m l,crossP l m] 3=sharedP l m:=by simp [catTo,rk,sharedP]
theorem Z3L (l:List Pt):(sidesL l).length=l.length:=by simp [sidesL,upto]
theorem Z7X {l m:List Pt} (hl:l.length≤64) (hm:m.length≤64):(crossP l m).length≤16384:=by
 have h:=Z1t (sidesL m) (sidesL l);rw [Z3L,Z3L] at h;have:4*m.length*l.length≤256*64:=Nat.mul_le_mul (show 4*m.length≤256 by omega) hl
 unfold crossP;omega
theorem Z06 (l m:List Pt):(cornersP l m).length≤l.length:=ZY l m l.length
theorem Z5P {W:World} {u0 u1 u2:Value} {l0 l1 l2:List Pt} (h0:Z8 W.heap.size W u0 l0) (h1:Z8 W.heap.size W u1 l1) (h2:Z8 W.heap.size W u2 l2) :
  Z7 (W.heap.size+1) (W.alloc (.cells #[u0,u1,u2] 23)) (.slice (some ⟨W.heap.size,0,none⟩) 3 3) [l0,l1,l2]:=by
 have hB:=(Below.refl W.heap.size W).alloc (Nat.le_refl _) (.cells #[u0,u1,u2] 23);have hN:=Has.new W #[u0,u1,u2] 23;refine⟨by simp,_,0,rfl,.inr ⟨W.heap.size,0,rfl,by omega,fun j hj=>?_⟩⟩
 match j,hj with
 | 0,_=>exact⟨u0,hN.cell (i:=0) rfl,(h0.below hB).mono (by omega)⟩
 | 1,_=>exact⟨u1,hN.cell (i:=1) rfl,(h1.below hB).mono (by omega)⟩
 | 2,_=>exact⟨u2,hN.cell (i:=2) rfl,(h2.below hB).mono (by omega)⟩
theorem Z7f (vp vq:Value) (l m:List Pt) (w:World) (hp:Z8 w.heap.size w vp l) (hq:Z8 w.heap.size w vq m) (hl:Zb l=true) (hm:Zb m=true) :
  Calls Tryz.prog 165 #[vp,vq] w (PtsQ (sharedP l m) w):=by
 have GL:GoValid l:=by simpa [Zb] using hl
 have GM:GoValid m:=by simpa [Zb] using hm
 have l64:=GL.2.1;have m64:=GM.2.1;have f1:=fun w1 (B:Below w.heap.size w w1)=>Z1I vp vq l m w1 ((hp.below B).mono B.size) ((hq.below B).mono B.size) (by omega)
 have f2:=fun w1 (B:Below w.heap.size w w1)=>Z1I vq vp m l w1 ((hq.below B).mono B.size) ((hp.below B).mono B.size) (by omega)
 have f3:=fun w1 (B:Below w.heap.size w w1)=>Z4I vp vq l m w1 ((hp.below B).mono B.size) ((hq.below B).mono B.size) hl hm
 have hlen:∀ j,(rk [cornersP l m,cornersP m l,crossP l m] j).length≤20000:=by
  intro j;have a1:=Z06 l m;have a2:=Z06 m l;have a3:=Z7X l64 m64
  match j with
  | 0=>show (cornersP l m).length≤_;omega
  | 1=>show (cornersP m l).length≤_;omega
  | 2=>show (crossP l m).length≤_;omega
  | j+3=>simp [rk]
 have f4:=fun v w1 (h:Z7 w1.heap.size w1 v [cornersP l m,cornersP m l,crossP l m])=>Z4e v _ w1 h (by simp) hlen
 have HF:=Lib.hid (And.intro f1 (And.intro f2 (And.intro f3 f4)));obtain⟨ap,capp,rfl⟩:=hp.len;obtain⟨aq,capq,rfl⟩:=hq.len;clear GL GM f1 f2 f3 f4 hp hq hlen;go_enter Tryz.func165,Tryz.ntmps165;go_wp2_with fail;refine (HF.out.1 _ (Below.refl _ _)).mono ?_;rintro e w1 ⟨u1,rfl,I1,hb1⟩;have B1:=Lib.hid hb1;have J1:=Lib.hid I1;clear I1 hb1;obtain⟨a1,c1,rfl⟩:=J1.out.len;go_wp2_with fail;refine (HF.out.2.1 _ B1.out).mono ?_;rintro e w2 ⟨u2,rfl,I2,hb2⟩;have B2:=zAi B1 hb2;have K1:=Lib.hid ((J1.out.below hb2).mono hb2.size);have K2:=Lib.hid I2;clear I2 hb2;obtain⟨a2,c2,rfl⟩:=K2.out.len;go_wp2_with fail;refine (HF.out.2.2.1 _ B2.out).mono ?_;rintro e w3 ⟨u3,rfl,I3,hb3⟩;have B3:=zAi B2 hb3;have L1:=(K1.out.below hb3).mono hb3.size;have L2:=(K2.out.below hb3).mono hb3.size;have L3:=I3;obtain⟨a3,c3,rfl⟩:=L3.len;have R:=Lib.hid (Z5P L1 L2 L3);have B4:=Lib.hid (B3.out.alloc B3.out.size (.cells #[.slice a1 (cornersP l m).length ((cornersP l m).length+c1),.slice a2 (cornersP m l).length ((cornersP m l).length+c2),.slice a3 (crossP l m).length ((crossP l m).length+c3)] 23));clear I3 hb3 L1 L2 L3;go_wp2_with fail;refine (HF.out.2.2.2 _ _ (by simpa using R.out)).mono ?_
 rintro e w5 ⟨u5,rfl,I5,hb5⟩;rw [show ([cornersP l m,cornersP m l,crossP l m]:List (List Pt)).length=3 from rfl,Z7e] at I5
 have HI:=Lib.hid I5;have B5:=zAi B4 hb5;clear I5 hb5;go_wp2;go_ret;exact⟨_,rfl,HI.out,B5.out⟩
noncomputable def apartB (l m:List Pt):Bool:=Zb l && Zb m && decide ((sharedP l m).length=0)
noncomputable def bothE (l m:List Pt):Int:=if (Zb l && Zb m)=true then 0 else 1
theorem Z9T (vp vq : Value) (l m : List Pt) (w : World) (hp : Z8 w.heap.size w vp l) (hq : Z8 w.heap.size w vq m) :
  Calls Tryz.prog 146 #[vp,vq] w fun e w'=>e=.returned (.tuple #[.bool (apartB l m),.int .i64 (bothE l m)])∧Below w.heap.size w w':=by
 have f1:=Lib.hid (fun w1 (B:Below w.heap.size w w1)=>Zv vp l w1 ((hp.below B).mono B.size))
 have f2:=Lib.hid (fun w1 (B:Below w.heap.size w w1)=>Zv vq m w1 ((hq.below B).mono B.size))
 have f3:=Lib.hid (fun w1 (B:Below w.heap.size w w1)=>Z7f vp vq l m w1 ((hp.below B).mono B.size) ((hq.below B).mono B.size))
 obtain⟨ap,capp,rfl⟩:=hp.len;obtain⟨aq,capq,rfl⟩:=hq.len;unfold apartB bothE;clear hp hq;cases hl:Zb l
 ·rw [hl] at f1
  clear hl;go_enter Tryz.func146,Tryz.ntmps146;go_wp2_with fail;refine (f1.out _ (Below.refl _ _)).mono ?_;rintro e w1 ⟨rfl,hb1⟩;have B1:=Lib.hid hb1;clear hb1;go_wp2;go_ret2;exact⟨rfl,B1.out⟩
 ·rw [hl] at f1
  cases hm:Zb m
  ·rw [hm] at f2
   clear hl hm;go_enter Tryz.func146,Tryz.ntmps146;go_wp2_with fail;refine (f1.out _ (Below.refl _ _)).mono ?_;rintro e w1 ⟨rfl,hb1⟩;have B1:=Lib.hid hb1;clear hb1;go_wp2_with fail;refine (f2.out _ B1.out).mono ?_;rintro e w2 ⟨rfl,hb2⟩;have B2:=zAi B1 hb2;clear hb2;go_wp2;go_ret2;exact⟨rfl,B2.out⟩
  ·rw [hm] at f2
   have HV:=Lib.hid (And.intro hl hm);clear hl hm;go_enter Tryz.func146,Tryz.ntmps146;go_wp2_with fail;refine (f1.out _ (Below.refl _ _)).mono ?_;rintro e w1 ⟨rfl,hb1⟩;have B1:=Lib.hid hb1;clear hb1;go_wp2_with fail;refine (f2.out _ B1.out).mono ?_;rintro e w2 ⟨rfl,hb2⟩;have B2:=zAi B1 hb2;clear hb2;go_wp2_with fail;refine (f3.out _ B2.out HV.out.1 HV.out.2).mono ?_;rintro e w3 ⟨u3,rfl,I3,hb3⟩;have B3:=zAi B2 hb3;obtain⟨a3,c3,rfl⟩:=I3.len;clear I3 hb3;by_cases hd:(sharedP l m).length=0
   ·have hd2:(((sharedP l m).length:Int) == 0)=true:=by rw [beq_iff_eq];omega
    have HD:=Lib.hid (decide_eq_true hd);clear hd;go_wp2;go_ret2;have HH:=HD.out;exact⟨by simp_all,B3.out⟩
   ·have hd2:(((sharedP l m).length:Int) == 0)=false:=by rw [beq_eq_false_iff_ne];omega
    have HD:=Lib.hid (decide_eq_false hd);clear hd;go_wp2;go_ret2;have HH:=HD.out;exact⟨by simp_all,B3.out⟩
noncomputable def touchB (l m:List Pt):Bool:=Zb l && Zb m && !decide ((sharedP l m).length=0)
theorem Z4O (vp:Value) (l:List Pt) (w:World) (hp:Z8 w.heap.size w vp l) :
  Calls Tryz.prog 115 #[vp] w fun e w'=>e=.returned (.func (.func 145) #[] #[.pointer (some ⟨w.heap.size,0,none⟩)])∧w.alloc (.cells #[vp] 23)=w':=by
 obtain⟨ap,capp,rfl⟩:=hp.len;go_enter Tryz.func115,Tryz.ntmps115;go_wp2;go_ret;exact⟨rfl,rfl⟩
theorem Z4l (Bc:Nat) (vp vq:Value) (l m:List Pt) (w:World) (hc:w.cell? ⟨Bc,0,none⟩=some vp) (hp:Z8 w.heap.size w vp l) (hq:Z8 w.heap.size w vq m) :
  Calls Tryz.prog 145 #[vq,.pointer (some ⟨Bc,0,none⟩)] w fun e w'=>e=.returned (.bool (touchB l m))∧Below w.heap.size w w':=by
 have f1:=Lib.hid (Z9T vp vq l m w hp hq);have hR:touchB l m=(decide (bothE l m=0) && !apartB l m):=by
  unfold touchB bothE apartB;cases Zb l <;> cases Zb m <;> simp
 rw [hR];obtain⟨ap,capp,rfl⟩:=hp.len;obtain⟨aq,capq,rfl⟩:=hq.len;have hE:bothE l m=0∨bothE l m=1:=by unfold bothE;split <;> simp
 clear hp hq hR;generalize apartB l m=ab at *;generalize bothE l m=be at *;rcases hE with rfl | rfl
 all_goals
  go_enter Tryz.func145,Tryz.ntmps145;go_wp2_with fail;refine f1.out.mono ?_;rintro e w1 ⟨rfl,hb1⟩;go_wp2;go_ret;exact⟨by simp,hb1⟩
noncomputable def withinB (l m:List Pt):Bool:=Zb l && (Zb m && decide ((cornersP l m).length=l.length))
theorem Z79 (vp vq : Value) (l m : List Pt) (w : World) (hp : Z8 w.heap.size w vp l) (hq : Z8 w.heap.size w vq m) :
  Calls Tryz.prog 31 #[vp,vq] w fun e w'=>e=.returned (.tuple #[.bool (withinB l m),.int .i64 (bothE l m)])∧Below w.heap.size w w':=by
 have f1:=Lib.hid (fun w1 (B:Below w.heap.size w w1)=>Zv vp l w1 ((hp.below B).mono B.size))
 have f2:=Lib.hid (fun w1 (B:Below w.heap.size w w1)=>Zv vq m w1 ((hq.below B).mono B.size))
 have f3:=Lib.hid (fun w1 (B:Below w.heap.size w w1) hs=>Z1I vp vq l m w1 ((hp.below B).mono B.size) ((hq.below B).mono B.size) hs)
 obtain⟨ap,capp,rfl⟩:=hp.len;obtain⟨aq,capq,rfl⟩:=hq.len;unfold withinB bothE;clear hp hq;cases hl:Zb l
 ·rw [hl] at f1
  clear hl;go_enter Tryz.func31,Tryz.ntmps31;go_wp2_with fail;refine (f1.out _ (Below.refl _ _)).mono ?_;rintro e w1 ⟨rfl,hb1⟩;have B1:=Lib.hid hb1;clear hb1;go_wp2;go_ret2;exact⟨rfl,B1.out⟩
 ·rw [hl] at f1
  cases hm:Zb m
  ·rw [hm] at f2
   clear hl hm;go_enter Tryz.func31,Tryz.ntmps31;go_wp2_with fail;refine (f1.out _ (Below.refl _ _)).mono ?_;rintro e w1 ⟨rfl,hb1⟩;have B1:=Lib.hid hb1;clear hb1;go_wp2_with fail;refine (f2.out _ B1.out).mono ?_;rintro e w2 ⟨rfl,hb2⟩;have B2:=zAi B1 hb2;clear hb2;go_wp2;go_ret2;exact⟨rfl,B2.out⟩
  ·rw [hm] at f2
   have hs:l.length≤1000000:=by have V:GoValid l:=by { simpa [Zb] using hl };have:=V.2.1;omega
   replace f3:=Lib.hid (fun w1 B=>f3.out w1 B hs)
   have HV:=Lib.hid (And.intro hl hm);clear hl hm hs;go_enter Tryz.func31,Tryz.ntmps31;go_wp2_with fail;refine (f1.out _ (Below.refl _ _)).mono ?_;rintro e w1 ⟨rfl,hb1⟩;have B1:=Lib.hid hb1;clear hb1;go_wp2_with fail;refine (f2.out _ B1.out).mono ?_;rintro e w2 ⟨rfl,hb2⟩;have B2:=zAi B1 hb2;clear hb2;go_wp2_with fail;refine (f3.out _ B2.out).mono ?_;rintro e w3 ⟨u3,rfl,I3,hb3⟩;have B3:=zAi B2 hb3;obtain⟨a3,c3,rfl⟩:=I3.len;clear I3 hb3;by_cases hd:(cornersP l m).length=l.length
   ·have d0:(((cornersP l m).length:Int) == (l.length:Int))=true:=by simp [hd]
    have HD:=Lib.hid (decide_eq_true hd);clear hd;go_wp2;go_ret2;have HH:=HD.out;exact⟨by simp_all,B3.out⟩
   ·have d0:(((cornersP l m).length:Int) == (l.length:Int))=false:=by rw [beq_eq_false_iff_ne];omega
    have HD:=Lib.hid (decide_eq_false hd);clear hd;go_wp2;go_ret2;have HH:=HD.out;exact⟨by simp_all,B3.out⟩
end
end Go.Proofs.YtcfkhkgldboddaaGreat
