/- slices.Concat of lists of points; package cut: shared, Apart. | A list of points appended to one of the call's own; points in a literal. | package .. -/
import Derived.Lib.AppendZeros
import Derived.Lib.SliceRun
import Derived.Laws.AppendOwnNone
import Derived.Test.YtdolkgihppgpcaaGreatBin17
set_option linter.unusedSimpArgs false
set_option maxRecDepth 8000
set_option maxHeartbeats 3000000
namespace Go.Proofs.YtdolkgihppgpcaaGreat
section
attribute [local irreducible] wpQuiet
open Go.RowKit
theorem Z9c (n:Nat) (hn:n≤1000000) (w:World):Calls Tryz.prog 118 #[.slice none 0 0,.int .i64 (n:Int)] w fun e w'=>∃ v,e=.returned v∧w'.ownsRow w.heap.size 31 2 v 0 []∧Below w.heap.size w w':=by
 have h1:decide ((n:Int)<0)=false:=by simp
 have h2:IntKind.i64.wrap ((n:Int)-0)=(n:Int):=by rw [Int.sub_zero];exact zW2
 by_cases h0:n=0
 ·subst h0
  go_enter Tryz.func118,Tryz.ntmps118;go_wp2;go_ret;exact⟨_,rfl,World.ownsRow_nil _ _ _ _,Below.refl _ _⟩
 ·obtain⟨i0,hi,hz0',hz1',hz2'⟩:=info_parts ptInfo
  have h3:decide ((n:Int)>0)=true:=by simp;omega
  have hrz:=fun ty=>Lib.run_append_nil_zeros (P:=Tryz.prog) w 23 3 ty 31 i0 (.agg #[.int .i64 0,.int .i64 0]) .i64 .i64 Tryz.underlying23 Tryz.underlying3 hi hz0' n (by omega) (by rw [hz1'];omega) (by omega) (by rw [hz2'];omega)
  have hG:=grownCap_le_maxLen w n 0 31 (by unfold maxLen;omega)
  have hG2:=grownCap_ge w n 0 31;obtain⟨G,hGe⟩:∃ G,G=grownCap w n 0 31:=⟨_,rfl⟩;rw [← hGe] at hrz hG hG2;have hz:Builtin.zeroCells (Value.cells (.agg #[.int .i64 0,.int .i64 0])) n++Builtin.zeroCells (Value.cells (.agg #[.int .i64 0,.int .i64 0])) (G-n)=Builtin.zeroCells (Value.cells (.agg #[.int .i64 0,.int .i64 0])) n++Builtin.zeroCells (Value.cells (.agg #[.int .i64 0,.int .i64 0])) (G-n):=rfl;have hsz:(Builtin.zeroCells (Value.cells (.agg #[.int .i64 0,.int .i64 0])) n++Builtin.zeroCells (Value.cells (.agg #[.int .i64 0,.int .i64 0])) (G-n)).size=G*2:=by
   simp [Builtin.zeroCells,Value.cells];omega
  have hown:=World.ownsRow_made (e:=31) (size:=2) (base:=w.heap.size) w.drew (Builtin.zeroCells (Value.cells (.agg #[.int .i64 0,.int .i64 0])) n++Builtin.zeroCells (Value.cells (.agg #[.int .i64 0,.int .i64 0])) (G-n)) G (Nat.le_refl _) hG hsz;have hB:=((Below.refl w.heap.size w).drew).alloc (Nat.le_refl _) (.cells (Builtin.zeroCells (Value.cells (.agg #[.int .i64 0,.int .i64 0])) n++Builtin.zeroCells (Value.cells (.agg #[.int .i64 0,.int .i64 0])) (G-n)) 31);generalize Builtin.zeroCells (Value.cells (.agg #[.int .i64 0,.int .i64 0])) n++Builtin.zeroCells (Value.cells (.agg #[.int .i64 0,.int .i64 0])) (G-n)=zz at *;have HO:=Lib.hid (And.intro hown hB);clear hown hB hz hsz hGe;unfold maxLen at hG;go_enter Tryz.func118,Tryz.ntmps118;go_wp2_with (at_builtin;refine Lib.wpList_append_run _ rfl _ _ _ _ rfl _ _ rfl rfl _ _ (hrz _) ?_)
  all_goals (go_ret;exact⟨_,rfl,HO.out.1,HO.out.2⟩)
theorem Z3z {P:Program} {w:World} (base:Nat) (t ty e:TypeId) (i:TypeInfo) (size:Nat) (ht:P.underlying t=some (.slice e)) (hi:P.info? e=some i)
  (v:Value) (n:Nat) (xs:List Value) (hown:w.ownsRow base e size v n xs) (c:Nat):(Builtin.append_ #[t,t] ty #[v,.slice none 0 c]).run P w=.ok v w:=by
 rcases hown.2 with⟨rfl,rfl⟩ | ⟨g,cap,cur,rfl,_,_,hnc,_⟩
 ·simp [Builtin.append_,run_underlying ht,sizeOf,typeInfo,hi,Builtin.lenOf,Builtin.firstCells]
 ·simp [Builtin.append_,run_underlying ht,sizeOf,typeInfo,hi,Builtin.lenOf,Builtin.firstCells,hnc,storeCells]
theorem Z0E {P:Program} {w:World} {ops:Array Oper} {rest:List Oper} {o:Oper} {a:Act} {Q:Exit→Act→World→Prop} (hgd:o.guard=none) (s x:Operand) (t:TypeId)
  (ho:o.op=.call { callee:=.builtin .append,args:=#[s,x],argTypes:=#[t,t] })
  (base:Nat) (e:TypeId) (i:TypeInfo) (size:Nat) (ht:P.underlying t=some (.slice e)) (hi:P.info? e=some i)
  (v:Value) (n:Nat) (xs:List Value) (hs:a.eval s=v) (hown:w.ownsRow base e size v n xs) (c:Nat) (hx:a.eval x=.slice none 0 c)
  (h:wpList P ops Q rest (a.put o.dst v) w):wpList P ops Q (o::rest) a w:=by
 refine wpList_plain hgd fun K hK=>?_
 have hrun:=Z3z (P:=P) (w:=w) base t o.type e i size ht hi v n xs hown c;unfold Oper.wp;simp [execOp,ho,resolve,invoke,builtin,hs,hx,hrun,Result.andThen];exact hK _ _ h
def sumTo (ls:List (List Pt)):Nat→Nat
 | 0=>0
 | k+1=>sumTo ls k+(rk ls k).length
def catTo (ls:List (List Pt)):Nat→List Pt
 | 0=>[]
 | k+1=>catTo ls k++rk ls k
theorem Z2N (ls:List (List Pt)):∀ k,(catTo ls k).length=sumTo ls k
 | 0=>rfl
 | k+1=>by simp [catTo,sumTo,Z2N ls k]
theorem Z5I (ls:List (List Pt)) {N:Nat} (h:∀ j,(rk ls j).length≤N):∀ k,sumTo ls k≤k*N
 | 0=>by simp [sumTo]
 | k + 1 => by
  have:=Z5I ls h k;have:=h k;simp only [sumTo,Nat.add_mul];omega
theorem Z3n (v : Value) (ls : List (List Pt)) (w : World) (hr : Z7 w.heap.size w v ls) (hl : ls.length ≤ 10) (hn : ∀ j, (rk ls j).length ≤ 20000) :
  Calls Tryz.prog 95 #[v] w (PtsQ (catTo ls ls.length) w):=by
 obtain⟨_,a,cap,rfl,hc⟩:=hr;have HC:=Lib.hid hc;have HN:=Lib.hid hn;obtain⟨i0,hi,hz0',hz1',hz2'⟩:=info_parts ptInfo;have hs:=fun k=>Z5I ls hn k
 have HS:=Lib.hid hs;clear hc hn hs;go_enter Tryz.func95,Tryz.ntmps95;go_wp2
 go_loopw [3,11] (fun s i wr=>∃ k:Nat,k≤ls.length∧i=.int .i64 (k:Int)∧s=.int .i64 (sumTo ls k:Int)∧Below w.heap.size w wr) (fun _ i _=>ls.length-(intOf i).toNat)
 case atStart=>exact⟨0,by omega,rfl,rfl,Below.refl _ _⟩
 case round =>
  obtain⟨k,hk,rfl,rfl,hB⟩:=hrel;have hzB:=hB.size;have hsk:=HS.out k;by_cases hlt:k<ls.length
  ·obtain⟨b,o,rfl,hb,hcc⟩:∃ b o,a=some ⟨b,o,none⟩∧b<w.heap.size∧∀ j,j<ls.length→∃ u,w.cell? ⟨b,o+j,none⟩=some u∧Z8 w.heap.size w u (rk ls j):=by
    rcases HC.out with h | h
    ·rw [h] at hlt;simp at hlt
    ·exact h
   obtain⟨u,hu,hpu⟩:=hcc k hlt;obtain⟨au,cu,rfl⟩:=hpu.len;have e0:=(hB.cell (p:=⟨b,o+k,none⟩) hb).trans hu;have hnk:=HN.out k;have hst:Hid ((sumTo ls (k+1):Int)=(sumTo ls k:Int)+((rk ls k).length:Int)):=by show _=_;simp [sumTo]
   have dk:decide ((k:Int)<(ls.length:Int))=true:=by simp;omega
   have kl:(k:Int)<ls.length:=by omega
   have k0:(0:Int)≤k:=by omega
   have m1:IntKind.i64.wrap ((sumTo ls k:Int)+((rk ls k).length:Int))=(sumTo ls k:Int)+((rk ls k).length:Int):=zW2;have d1:decide ((sumTo ls k:Int)+((rk ls k).length:Int)<0)=false:=by simp;omega
   have hBB:=Lib.hid hB;clear hcc hu hpu hB;generalize (sumTo ls k:Int)=S at *;go_wp2;go_roundw
   case rel=>exact⟨k+1,by omega,by go_num,by rw [hst.out],hBB.out⟩
   case measure=>simp [intOf];omega
  ·obtain rfl:k=ls.length:=by omega
   have dk:decide ((ls.length:Int)<(ls.length:Int))=false:=by simp
   have hg:=Lib.hid (Z9c (sumTo ls ls.length) (by omega) wr)
   have hBB:=Lib.hid hB;clear hB;obtain⟨wq,rfl⟩:∃ x,x=wr:=⟨_,rfl⟩;go_wp2_with fail;refine hg.out.mono ?_;rintro e w2 ⟨vg,rfl,hown,hb2⟩;have HO:=Lib.hid hown;have H2:=Lib.hid hb2;clear hown hb2;go_wp2
   go_loopw [6,27] (fun v i wr=>∃ k:Nat,k≤ls.length∧i=.int .i64 (k:Int)∧wr.ownsRow wq.heap.size 31 2 v (catTo ls k).length (Za (catTo ls k))∧Below wq.heap.size wq wr) (fun _ i _=>ls.length-(intOf i).toNat)
   case atStart=>exact⟨0,by omega,rfl,HO.out,H2.out⟩
   case round =>
    obtain⟨k,hk2,rfl,hrow,hZ⟩:=hrel;have hzz:=hZ.size;have BZ:=hBB.out.trans (hZ.mono hBB.out.size);by_cases hlt2:k<ls.length
    ·obtain⟨b,o,rfl,hb,hcc⟩:∃ b o,a=some ⟨b,o,none⟩∧b<w.heap.size∧∀ j,j<ls.length→∃ u,w.cell? ⟨b,o+j,none⟩=some u∧Z8 w.heap.size w u (rk ls j):=by
      rcases HC.out with h | h
      ·rw [h] at hlt2;simp at hlt2
      ·exact h
     obtain⟨u,hu,hpu⟩:=hcc k hlt2;have hpz:=hpu.below BZ;have e0:=(BZ.cell (p:=⟨b,o+k,none⟩) hb).trans hu;have hnk:=HN.out k;have hcl:=Z2N ls k;have hsk2:=HS.out k;have dk2:decide ((k:Int)<(ls.length:Int))=true:=by simp;omega
     have kl:(k:Int)<ls.length:=by omega
     have k0:(0:Int)≤k:=by omega
     have HZ:=Lib.hid hZ;have HR:=Lib.hid hrow;obtain⟨_,au,cu,rfl,hcu⟩:=hpz;have hsz1:wq.heap.size≤wr.heap.size:=hzz;have HCU:=Lib.hid hcu;clear hcc hu hpu hZ hrow hcu BZ;rcases au with _ | ⟨bu,ou,su⟩
     ·have h0:rk ls k=[]:=by
       rcases HCU.out with h | ⟨_,_,h,_⟩
       ·exact h
       ·cases h
      have hcat:Hid (catTo ls (k+1)=catTo ls k):=by show catTo ls k++rk ls k=_;rw [h0,List.append_nil]
      rw [h0] at e0 hnk;have e0':wr.cell? ⟨b,o+k,none⟩=some (.slice none 0 cu):=by simpa using e0
      have HR':=HR.out;clear e0 HCU h0;go_wp2_with (at_builtin;refine Z0E rfl _ _ 23 rfl wq.heap.size 31 i0 2 Tryz.underlying23 hi _ _ _ rfl HR.out cu rfl ?_)
      go_roundw
      case rel=>exact⟨k+1,by omega,by go_num,by rw [hcat.out];exact HR.out,HZ.out⟩
      case measure=>simp [intOf];omega
     ·obtain⟨hsu,hcu⟩:(rk ls k=[]∨su=none)∧(∀ j u,(Za (rk ls k))[j]?=some u→wr.cell? ((⟨bu,ou,su⟩:Addr).add j)=some u):=by
       rcases HCU.out with h | ⟨b',o',h,_,h2⟩
       ·rw [h];exact⟨.inl rfl,fun j u hu=>by simp [Za] at hu⟩
       ·cases h
        exact⟨.inr rfl,Z5P h2⟩
      go_wp2_with (at_builtin;refine wpList_append_own _ rfl _ _ 23 rfl wq.heap.size 31 i0 (.agg #[.int .i64 0,.int .i64 0]) 2 16 Tryz.underlying23 hi hz0' hz1' hz2' rfl (by decide) _ _ _ rfl HR.out ⟨bu,ou,su⟩ (rk ls k).length ((rk ls k).length+cu) (Za (rk ls k)) rfl (Zt _) hcu (Z0w _) (by unfold maxLen;omega) (by omega) (by omega) ?_;intro v' w4 hown' hgrow _)
      go_roundw
      case rel =>
       have hb0:Below wq.heap.size wr w4:=(Below.refl wq.heap.size wr).grown hgrow (by omega) (fun j ej=>(HR.out.lt j ej).1)
       refine⟨k+1,by omega,by go_num,?_,HZ.out.trans hb0⟩
       simp only [catTo,List.length_append,ZL];exact hown'
      case measure=>simp [intOf];omega
    ·obtain rfl:k=ls.length:=by omega
     have dk2:decide ((ls.length:Int)<(ls.length:Int))=false:=by simp
     have hcl:=Z2N ls ls.length;have HI:=Lib.hid (Z8.own hrow (by omega))
     have HZ:=Lib.hid BZ;clear hrow hZ BZ;go_wp2;go_ret;exact⟨_,rfl,HI.out,HZ.out⟩
end
section
open Go.RowKit
theorem Z1G {w : World} {ops : Array Oper} {rest : List Oper} {o : Oper} {a : Act} {Q : Exit → Act → World → Prop} (hgd : o.guard = none) (s x : Operand)
  (ho:o.op=.call { callee:=.builtin .append,args:=#[s,x],argTypes:=#[23,23] })
  (base:Nat) (v:Value) (n:Nat) (xs:List Value) (hs:a.eval s=v) (hown:w.ownsRow base 31 2 v n xs)
  (vx:Value) (l:List Pt) (hx:a.eval x=vx) (hp:Z8 w.heap.size w vx l) (h63:n+l.length≤1000000) (hbase:base≤w.heap.size)
  (h:∀ v' w',w'.ownsRow base 31 2 v' (n+l.length) (xs++Za l)→w.grownBy w' v.ownBlock→(v'.ownBlock=v.ownBlock∨v'.ownBlock=some w.heap.size)→wpList Tryz.prog ops Q rest (a.put o.dst v') w') :
  wpList Tryz.prog ops Q (o::rest) a w:=by
 obtain⟨i0,hi,hz0',hz1',hz2'⟩:=info_parts ptInfo;obtain⟨_,au,cu,rfl,hcu⟩:=hp;rcases au with _ | ⟨bu,ou,su⟩
 ·have h0:l=[]:=by
   rcases hcu with h | ⟨_,_,h,_⟩
   ·exact h
   ·cases h
  subst h0;refine Z0E hgd s x 23 ho base 31 i0 2 Tryz.underlying23 hi v n xs hs hown cu (by simpa using hx) ?_
  exact h v w (by simpa [Za] using hown) ⟨rfl,rfl,rfl,Nat.le_refl _,fun _ _ _=>rfl⟩ (.inl rfl)
 ·obtain⟨hsu,hcu⟩:(l=[]∨su=none)∧(∀ j u,(Za l)[j]?=some u→w.cell? ((⟨bu,ou,su⟩:Addr).add j)=some u):=by
   rcases hcu with h | ⟨b',o',h,_,h2⟩
   ·rw [h];exact⟨.inl rfl,fun j u hu=>by simp [Za] at hu⟩
   ·cases h
    exact⟨.inr rfl,Z5P h2⟩
  exact wpList_append_own_at w hgd s x 23 ho base 31 i0 (.agg #[.int .i64 0,.int .i64 0]) 2 16 Tryz.underlying23 hi hz0' hz1' hz2' rfl (by decide) v n xs hs hown ⟨bu,ou,su⟩ l.length (l.length+cu) (Za l) hx (Zt _) hcu (Z0w _) (by unfold maxLen;omega) (by omega) hbase
   fun v' w' h1 h2 _ h4=>h v' w' h1 h2 h4
theorem Z8x {w w':World} {base n:Nat} {t:TypeId} {size:Nat} {v:Value} {xs:List Value} (hown:w.ownsRow base t size v n xs) (hg:w.grownBy w' v.ownBlock) {b0:Nat} (h0:b0≤base) (hb:b0≤w.heap.size):Below b0 w w' :=
 (Below.refl b0 w).grown hg hb fun j ej=>Nat.le_trans h0 (hown.lt j ej).1
theorem Z9S {W:World} {B:Nat} {l:List Pt} (h:Has W B (Za l).toArray 31) (hl:l.length≤1000):Z8 W.heap.size W (.slice (some ⟨B,0,none⟩) l.length l.length) l:=by
 refine⟨by omega,some ⟨B,0,none⟩,0,rfl,.inr ⟨B,0,rfl,h.lt,fun j hj=>?_⟩⟩
 obtain⟨f0,f1⟩:=ZZ l j hj;rw [Nat.zero_add];exact⟨h.cell (i:=j*2) (by simpa using f0),h.cell (i:=j*2+1) (by simpa using f1)⟩
end
section
attribute [local irreducible] wpQuiet
open Go.RowKit
noncomputable def sharedP (l m:List Pt):List Pt:=cornersP l m++cornersP m l++crossP l m
theorem Z6o (l m:List Pt):catTo [cornersP l m,cornersP m l,crossP l m] 3=sharedP l m:=by simp [catTo,rk,sharedP]
theorem Z33 (l:List Pt):(sidesL l).length=l.length:=by simp [sidesL,upto]
theorem Z3m {l m:List Pt} (hl:l.length≤64) (hm:m.length≤64):(crossP l m).length≤16384:=by
 have h:=Z17 (sidesL m) (sidesL l);rw [Z33,Z33] at h;have:4*m.length*l.length≤256*64:=Nat.mul_le_mul (show 4*m.length≤256 by omega) hl
 unfold crossP;omega
theorem Z0R (l m:List Pt):(cornersP l m).length≤l.length:=Z0g l m l.length
theorem Z2r {W:World} {u0 u1 u2:Value} {l0 l1 l2:List Pt} (h0:Z8 W.heap.size W u0 l0) (h1:Z8 W.heap.size W u1 l1) (h2:Z8 W.heap.size W u2 l2) :
  Z7 (W.heap.size+1) (W.alloc (.cells #[u0,u1,u2] 23)) (.slice (some ⟨W.heap.size,0,none⟩) 3 3) [l0,l1,l2]:=by
 have hB:=(Below.refl W.heap.size W).alloc (Nat.le_refl _) (.cells #[u0,u1,u2] 23);have hN:=Has.new W #[u0,u1,u2] 23;refine⟨by simp,_,0,rfl,.inr ⟨W.heap.size,0,rfl,by omega,fun j hj=>?_⟩⟩
 match j,hj with
 | 0,_=>exact⟨u0,hN.cell (i:=0) rfl,(h0.below hB).mono (by omega)⟩
 | 1,_=>exact⟨u1,hN.cell (i:=1) rfl,(h1.below hB).mono (by omega)⟩
 | 2,_=>exact⟨u2,hN.cell (i:=2) rfl,(h2.below hB).mono (by omega)⟩
theorem Z6p (vp vq:Value) (l m:List Pt) (w:World) (hp:Z8 w.heap.size w vp l) (hq:Z8 w.heap.size w vq m) (hl:Zb l=true) (hm:Zb m=true) :
  Calls Tryz.prog 159 #[vp,vq] w (PtsQ (sharedP l m) w):=by
 have GL:GoValid l:=by simpa [Zb] using hl
 have GM:GoValid m:=by simpa [Zb] using hm
 have l64:=GL.2.1;have m64:=GM.2.1;have f1:=fun w1 (B:Below w.heap.size w w1)=>Z02 vp vq l m w1 ((hp.below B).mono B.size) ((hq.below B).mono B.size) (by omega)
 have f2:=fun w1 (B:Below w.heap.size w w1)=>Z02 vq vp m l w1 ((hq.below B).mono B.size) ((hp.below B).mono B.size) (by omega)
 have f3:=fun w1 (B:Below w.heap.size w w1)=>Z1D vp vq l m w1 ((hp.below B).mono B.size) ((hq.below B).mono B.size) hl hm
 have hlen:∀ j,(rk [cornersP l m,cornersP m l,crossP l m] j).length≤20000:=by
  intro j;have a1:=Z0R l m;have a2:=Z0R m l;have a3:=Z3m l64 m64
  match j with
  | 0=>show (cornersP l m).length≤_;omega
  | 1=>show (cornersP m l).length≤_;omega
  | 2=>show (crossP l m).length≤_;omega
  | j+3=>simp [rk]
 have f4:=fun v w1 (h:Z7 w1.heap.size w1 v [cornersP l m,cornersP m l,crossP l m])=>Z3n v _ w1 h (by simp) hlen
 have HF:=Lib.hid (And.intro f1 (And.intro f2 (And.intro f3 f4)));obtain⟨ap,capp,rfl⟩:=hp.len;obtain⟨aq,capq,rfl⟩:=hq.len;clear GL GM f1 f2 f3 f4 hp hq hlen;go_enter Tryz.func159,Tryz.ntmps159;go_wp2_with fail;refine (HF.out.1 _ (Below.refl _ _)).mono ?_;rintro e w1 ⟨u1,rfl,I1,hb1⟩;have B1:=Lib.hid hb1;have J1:=Lib.hid I1;clear I1 hb1;obtain⟨a1,c1,rfl⟩:=J1.out.len;go_wp2_with fail;refine (HF.out.2.1 _ B1.out).mono ?_;rintro e w2 ⟨u2,rfl,I2,hb2⟩;have B2:=zAg B1 hb2;have K1:=Lib.hid ((J1.out.below hb2).mono hb2.size);have K2:=Lib.hid I2;clear I2 hb2;obtain⟨a2,c2,rfl⟩:=K2.out.len;go_wp2_with fail;refine (HF.out.2.2.1 _ B2.out).mono ?_;rintro e w3 ⟨u3,rfl,I3,hb3⟩;have B3:=zAg B2 hb3;have L1:=(K1.out.below hb3).mono hb3.size;have L2:=(K2.out.below hb3).mono hb3.size;have L3:=I3;obtain⟨a3,c3,rfl⟩:=L3.len;have R:=Lib.hid (Z2r L1 L2 L3);have B4:=Lib.hid (B3.out.alloc B3.out.size (.cells #[.slice a1 (cornersP l m).length ((cornersP l m).length+c1),.slice a2 (cornersP m l).length ((cornersP m l).length+c2),.slice a3 (crossP l m).length ((crossP l m).length+c3)] 23));clear I3 hb3 L1 L2 L3;go_wp2_with fail;refine (HF.out.2.2.2 _ _ (by simpa using R.out)).mono ?_
 rintro e w5 ⟨u5,rfl,I5,hb5⟩;rw [show ([cornersP l m,cornersP m l,crossP l m]:List (List Pt)).length=3 from rfl,Z6o] at I5
 have HI:=Lib.hid I5;have B5:=zAg B4 hb5;clear I5 hb5;go_wp2;go_ret;exact⟨_,rfl,HI.out,B5.out⟩
noncomputable def apartB (l m:List Pt):Bool:=Zb l && Zb m && decide ((sharedP l m).length=0)
noncomputable def bothE (l m:List Pt):Int:=if (Zb l && Zb m)=true then 0 else 1
theorem Z8y (vp vq : Value) (l m : List Pt) (w : World) (hp : Z8 w.heap.size w vp l) (hq : Z8 w.heap.size w vq m) :
  Calls Tryz.prog 143 #[vp,vq] w fun e w'=>e=.returned (.tuple #[.bool (apartB l m),.int .i64 (bothE l m)])∧Below w.heap.size w w':=by
 have f1:=Lib.hid (fun w1 (B:Below w.heap.size w w1)=>Zo vp l w1 ((hp.below B).mono B.size))
 have f2:=Lib.hid (fun w1 (B:Below w.heap.size w w1)=>Zo vq m w1 ((hq.below B).mono B.size))
 have f3:=Lib.hid (fun w1 (B:Below w.heap.size w w1)=>Z6p vp vq l m w1 ((hp.below B).mono B.size) ((hq.below B).mono B.size))
 obtain⟨ap,capp,rfl⟩:=hp.len;obtain⟨aq,capq,rfl⟩:=hq.len;unfold apartB bothE;clear hp hq;cases hl:Zb l
 ·rw [hl] at f1
  clear hl;go_enter Tryz.func143,Tryz.ntmps143;go_wp2_with fail;refine (f1.out _ (Below.refl _ _)).mono ?_;rintro e w1 ⟨rfl,hb1⟩;have B1:=Lib.hid hb1;clear hb1;go_wp2;go_ret2;exact⟨rfl,B1.out⟩
 ·rw [hl] at f1
  cases hm:Zb m
  ·rw [hm] at f2
   clear hl hm;go_enter Tryz.func143,Tryz.ntmps143;go_wp2_with fail;refine (f1.out _ (Below.refl _ _)).mono ?_;rintro e w1 ⟨rfl,hb1⟩;have B1:=Lib.hid hb1;clear hb1;go_wp2_with fail;refine (f2.out _ B1.out).mono ?_;rintro e w2 ⟨rfl,hb2⟩;have B2:=zAg B1 hb2;clear hb2;go_wp2;go_ret2;exact⟨rfl,B2.out⟩
  ·rw [hm] at f2
   have HV:=Lib.hid (And.intro hl hm);clear hl hm;go_enter Tryz.func143,Tryz.ntmps143;go_wp2_with fail;refine (f1.out _ (Below.refl _ _)).mono ?_;rintro e w1 ⟨rfl,hb1⟩;have B1:=Lib.hid hb1;clear hb1;go_wp2_with fail;refine (f2.out _ B1.out).mono ?_;rintro e w2 ⟨rfl,hb2⟩;have B2:=zAg B1 hb2;clear hb2;go_wp2_with fail;refine (f3.out _ B2.out HV.out.1 HV.out.2).mono ?_;rintro e w3 ⟨u3,rfl,I3,hb3⟩;have B3:=zAg B2 hb3;obtain⟨a3,c3,rfl⟩:=I3.len;clear I3 hb3;by_cases hd:(sharedP l m).length=0
   ·have hd2:(((sharedP l m).length:Int) == 0)=true:=by rw [beq_iff_eq];omega
    have HD:=Lib.hid (decide_eq_true hd);clear hd;go_wp2;go_ret2;have HH:=HD.out;exact⟨by simp_all,B3.out⟩
   ·have hd2:(((sharedP l m).length:Int) == 0)=false:=by rw [beq_eq_false_iff_ne];omega
    have HD:=Lib.hid (decide_eq_false hd);clear hd;go_wp2;go_ret2;have HH:=HD.out;exact⟨by simp_all,B3.out⟩
noncomputable def touchB (l m:List Pt):Bool:=Zb l && Zb m && !decide ((sharedP l m).length=0)
theorem Z1Y (vp:Value) (l:List Pt) (w:World) (hp:Z8 w.heap.size w vp l) :
  Calls Tryz.prog 130 #[vp] w fun e w'=>e=.returned (.func (.func 142) #[] #[.pointer (some ⟨w.heap.size,0,none⟩)])∧w.alloc (.cells #[vp] 23)=w':=by
 obtain⟨ap,capp,rfl⟩:=hp.len;go_enter Tryz.func130,Tryz.ntmps130;go_wp2;go_ret;exact⟨rfl,rfl⟩
theorem Z1l (Bc:Nat) (vp vq:Value) (l m:List Pt) (w:World) (hc:w.cell? ⟨Bc,0,none⟩=some vp) (hp:Z8 w.heap.size w vp l) (hq:Z8 w.heap.size w vq m) :
  Calls Tryz.prog 142 #[vq,.pointer (some ⟨Bc,0,none⟩)] w fun e w'=>e=.returned (.bool (touchB l m))∧Below w.heap.size w w':=by
 have f1:=Lib.hid (Z8y vp vq l m w hp hq);have hR:touchB l m=(decide (bothE l m=0) && !apartB l m):=by
  unfold touchB bothE apartB;cases Zb l <;> cases Zb m <;> simp
 rw [hR];obtain⟨ap,capp,rfl⟩:=hp.len;obtain⟨aq,capq,rfl⟩:=hq.len;have hE:bothE l m=0∨bothE l m=1:=by unfold bothE;split <;> simp
 clear hp hq hR;generalize apartB l m=ab at *;generalize bothE l m=be at *;rcases hE with rfl | rfl
 all_goals
  go_enter Tryz.func142,Tryz.ntmps142;go_wp2_with fail;refine f1.out.mono ?_;rintro e w1 ⟨rfl,hb1⟩;go_wp2;go_ret;exact⟨by simp,hb1⟩
theorem Z4F (ax ay bx by':Int) (w:World) :
  Calls Tryz.prog 144 #[.agg #[.int .i64 ax,.int .i64 ay],.agg #[.int .i64 bx,.int .i64 by']] w fun e w'=>e=.returned (.int .i64 (cmpV ax ay bx by'))∧Below w.heap.size w w':=by
 go_enter Tryz.func144,Tryz.ntmps144;go_wp2
 go_region_held3 (fun w'=>w'.cell? ⟨w.heap.size,0,none⟩=some (.int .i64 ax)∧w'.cell? ⟨w.heap.size,1,none⟩=some (.int .i64 ay)∧w'.cell? ⟨w.heap.size+1,0,none⟩=some (.int .i64 bx)∧w'.cell? ⟨w.heap.size+1,1,none⟩=some (.int .i64 by'))
  (go_keep)
  (first | (go_at_call 120;refine (Z0S _ _ _).mono ?_;rintro e w' ⟨rfl,rfl⟩) | (go_at_call 119;refine Calls.mono (Z7m (w.heap.size+1+1) (cmpI ax bx) (cmpI ay by') _ ?c0 ?c1) ?_;(case c0=>simp [go_sem]);(case c1=>simp [go_sem]);rintro e w' ⟨rfl,rfl⟩))
 all_goals go_wp2
 go_ret;exact⟨rfl,zB2⟩
def minTo (l:List Pt):Nat→Pt
 | 0=>nth l 0
 | k+1=>if cmpP (nth l (k+1)) (minTo l k)<0 then nth l (k+1) else minTo l k
theorem Z58 (v : Value) (l : List Pt) (w : World) (hp : Z8 w.heap.size w v l) (h1 : 0 < l.length) :
  Calls Tryz.prog 146 #[v,.func (.func 144) #[] #[]] w fun e w'=>e=.returned (.agg #[.int .i64 (minTo l (l.length-1)).x,.int .i64 (minTo l (l.length-1)).y])∧Below w.heap.size w w':=by
 obtain⟨hll,a,cap,rfl,hc⟩:=hp;obtain⟨b,o,rfl,hb,hc⟩:∃ b o,a=some ⟨b,o,none⟩∧b<w.heap.size∧∀ j,j<l.length→w.cell? ⟨b,o+j*2,none⟩=some (.int .i64 (nth l j).x)∧w.cell? ⟨b,o+j*2+1,none⟩=some (.int .i64 (nth l j).y):=by
  rcases hc with h | h
  ·rw [h] at h1;simp at h1
  ·exact h
 obtain⟨q0,q1⟩:=hc 0 h1;rw [Nat.zero_mul,Nat.add_zero] at q0 q1;have hA:=(Below.refl w.heap.size w).alloc (Nat.le_refl _) (.cells #[.int .i64 0,.int .i64 0] 31);have e0:=(hA.cell (p:=⟨b,o,none⟩) hb).trans q0;have e1:=(hA.cell (p:=⟨b,o+1,none⟩) hb).trans q1;have HC:=Lib.hid hc;have hm0:Hid (minTo l 0=⟨(nth l 0).x,(nth l 0).y⟩):=rfl;have d1:decide ((l.length:Int)<1)=false:=by simp;omega
 have i0:(0:Int)<l.length:=by omega
 have h4:=(Has.new w #[.int .i64 0,.int .i64 0] 31).below ((Below.refl (w.heap.size+1) _).alloc (by simp) (.cells #[.int .i64 (nth l 0).x,.int .i64 (nth l 0).y] 31)) (by omega)
 have h5:=Has.new (w.alloc (.cells #[.int .i64 0,.int .i64 0] 31)) #[.int .i64 (nth l 0).x,.int .i64 (nth l 0).y] 31;rw [World.size_alloc] at h5;have hB:=hA.alloc hA.size (.cells #[.int .i64 (nth l 0).x,.int .i64 (nth l 0).y] 31);have HS:=Lib.hid (And.intro h4 (And.intro h5 hB));clear hc q0 q1 h4 h5 hB hA;go_enter Tryz.func146,Tryz.ntmps146;go_wp2
 go_loopw [6] (fun i wr=>∃ k:Nat,k<l.length∧i=.int .i64 ((k:Int)+1)∧Has wr w.heap.size #[.int .i64 0,.int .i64 0] 31∧Has wr (w.heap.size+1) #[.int .i64 (minTo l k).x,.int .i64 (minTo l k).y] 31∧Below w.heap.size w wr) (fun i _=>l.length+1-(intOf i).toNat)
 case atStart=>exact⟨0,h1,rfl,HS.out.1,HS.out.2.1,HS.out.2.2⟩
 case round =>
  obtain⟨k,hk,rfl,g4,g5,hB⟩:=hrel;have hzB:=hB.size;have l5:=g5.lt;by_cases hlt:k+1<l.length
  ·obtain⟨q0,q1⟩:=HC.out (k+1) hlt
   have f0:=(hB.cell (p:=⟨b,o+(k+1)*2,none⟩) hb).trans q0;have f1:=(hB.cell (p:=⟨b,o+(k+1)*2+1,none⟩) hb).trans q1;have hst:Hid (minTo l (k+1)=if cmpV (nth l (k+1)).x (nth l (k+1)).y (minTo l k).x (minTo l k).y<0 then ⟨(nth l (k+1)).x,(nth l (k+1)).y⟩ else ⟨(minTo l k).x,(minTo l k).y⟩):=rfl
   have hcm:=Lib.hid (fun w1=>Z4F (nth l (k+1)).x (nth l (k+1)).y (minTo l k).x (minTo l k).y w1)
   have dk:decide ((k:Int)+1<(l.length:Int))=true:=by simp;omega
   have kl:(k:Int)+1<l.length:=by omega
   have k0:(0:Int)≤(k:Int)+1:=by omega
   have kn:((k:Int)+1).toNat=k+1:=by omega
   have HG:=Lib.hid (And.intro g4 (And.intro g5 hB));generalize (nth l (k+1)).x=px at *;generalize (nth l (k+1)).y=py at *;generalize (minTo l k).x=mx at *;generalize (minTo l k).y=my at *;have m0:=Low.fact (g5.cell (i:=0) rfl:wr.cell? ⟨w.heap.size+1,0,none⟩=some (.int .i64 mx));have m1:=Low.fact (g5.cell (i:=1) rfl:wr.cell? ⟨w.heap.size+1,1,none⟩=some (.int .i64 my));have p0:=Low.fact f0;have p1:=Low.fact f1;clear q0 q1 g4 g5 hB;by_cases hcmp:cmpV px py mx my<0
   ·have dc:decide (cmpV px py mx my<0)=true:=by simpa using hcmp
    rw [if_pos hcmp] at hst;clear hcmp;go_wp2
    (refine Zh (by kernel_rfl) (by kernel_rfl) ?_;(iterate 8 (apply Zf;(case hw=>rfl);(case hval=>(intro w1 hw1;have hcx:=Low.cells hw1;simp only [Oper.quietAt];go_simp;first | done | (first | (go_at_call 144;exact Low.calls hw1 (hcm.out _))) | rfl | exact⟨rfl,rfl⟩));simp only [Act.put,zq4,zr4,zs4]));refine wpQuiet_nil ?_;intro w2 hw2)
    obtain⟨g4,g5,hB⟩:=HG.out;have G4:=g4.below hw2.out (by omega)
    have G5:=g5.below hw2.out (by omega)
    have B2:=hB.trans (hw2.out.mono (by omega))
    have x0:w2.cell? ⟨w.heap.size+1,0,none⟩=some (.int .i64 mx):=G5.cell (i:=0) rfl;have x1:w2.cell? ⟨w.heap.size+1,1,none⟩=some (.int .i64 my):=G5.cell (i:=1) rfl;have y0:=Ze G5 0;have y1:=Ze G5 1;have r0:=(hw2.out.cell (p:=⟨b,o+(k+1)*2,none⟩) (by show b<wr.heap.size;omega)).trans f0
    have r1:=(hw2.out.cell (p:=⟨b,o+(k+1)*2+1,none⟩) (by show b<wr.heap.size;omega)).trans f1
    have HZ:=Lib.hid (And.intro (((G4.other ⟨w.heap.size+1,0,none⟩ (.int .i64 px) (by simp)).other ⟨w.heap.size+1,1,none⟩ (.int .i64 py) (by simp))) (And.intro ((G5.set 0 (.int .i64 px)).set 1 (.int .i64 py)) ((B2.setCell (p:=⟨w.heap.size+1,0,none⟩) (by simp) (.int .i64 px)).setCell (p:=⟨w.heap.size+1,1,none⟩) (by simp) (.int .i64 py))))
    clear G4 G5 B2 g4 g5 hB hw2 m0 m1 p0 p1 f0 f1;go_wp2;go_roundw
    case rel=>exact⟨k+1,hlt,by go_num,HZ.out.1,by rw [hst.out];exact HZ.out.2.1,HZ.out.2.2⟩
    case measure=>simp [intOf];omega
   ·have dc:decide (cmpV px py mx my<0)=false:=by simpa using hcmp
    rw [if_neg hcmp] at hst;clear hcmp;go_wp2
    (refine Zh (by kernel_rfl) (by kernel_rfl) ?_;(iterate 8 (apply Zf;(case hw=>rfl);(case hval=>(intro w1 hw1;have hcx:=Low.cells hw1;simp only [Oper.quietAt];go_simp;first | done | (first | (go_at_call 144;exact Low.calls hw1 (hcm.out _))) | rfl | exact⟨rfl,rfl⟩));simp only [Act.put,zq4,zr4,zs4]));refine wpQuiet_nil ?_;intro w2 hw2)
    obtain⟨g4,g5,hB⟩:=HG.out;have HZ:=Lib.hid (And.intro (g4.below hw2.out (by omega)) (And.intro (g5.below hw2.out (by omega)) (hB.trans (hw2.out.mono (by omega)))))
    clear g4 g5 hB hw2 m0 m1 p0 p1 f0 f1;go_wp2;go_roundw
    case rel=>exact⟨k+1,hlt,by go_num,HZ.out.1,by rw [hst.out];exact HZ.out.2.1,HZ.out.2.2⟩
    case measure=>simp [intOf];omega
  ·obtain rfl:k=l.length-1:=by omega
   have dk:decide (((l.length-1:Nat):Int)+1<(l.length:Int))=false:=by simp;omega
   obtain⟨mx,hmx⟩:∃ mx,(minTo l (l.length-1)).x=mx:=⟨_,rfl⟩;obtain⟨my,hmy⟩:∃ my,(minTo l (l.length-1)).y=my:=⟨_,rfl⟩;rw [hmx,hmy] at g5;have HM:=Lib.hid (And.intro hmx hmy);clear hmx hmy;have m0:wr.cell? ⟨w.heap.size+1,0,none⟩=some (.int .i64 mx):=g5.cell (i:=0) rfl;have m1:wr.cell? ⟨w.heap.size+1,1,none⟩=some (.int .i64 my):=g5.cell (i:=1) rfl;have x0:wr.cell? ⟨w.heap.size,0,none⟩=some (.int .i64 0):=g4.cell (i:=0) rfl;have x1:wr.cell? ⟨w.heap.size,1,none⟩=some (.int .i64 0):=g4.cell (i:=1) rfl;have y0:=Ze g4 0;have y1:=Ze g4 1;have HZ:=(g4.set 0 (.int .i64 mx)).set 1 (.int .i64 my);have z0:((wr.setCell ⟨w.heap.size,0,none⟩ (.int .i64 mx)).setCell ⟨w.heap.size,1,none⟩ (.int .i64 my)).cell? ⟨w.heap.size,0,none⟩=some (.int .i64 mx):=HZ.cell (i:=0) rfl;have z1:((wr.setCell ⟨w.heap.size,0,none⟩ (.int .i64 mx)).setCell ⟨w.heap.size,1,none⟩ (.int .i64 my)).cell? ⟨w.heap.size,1,none⟩=some (.int .i64 my):=HZ.cell (i:=1) rfl;have BB:=Lib.hid ((hB.setCell (p:=⟨w.heap.size,0,none⟩) (by simp) (.int .i64 mx)).setCell (p:=⟨w.heap.size,1,none⟩) (by simp) (.int .i64 my))
   clear HZ g4 g5 hB;go_wp2;exact bodyPost_ret (v:=.agg #[.int .i64 mx,.int .i64 my]) (by simp [results,Tryz.f146,go_sem,z0,z1]) rfl ⟨by rw [HM.out.1,HM.out.2],BB.out⟩
noncomputable def comL (l m:List Pt) (i:Nat):List Pt:=if i=0 then cornersP l m else if i=1 then cornersP m l else cornersP (cornersP (crossP l m) l) m
noncomputable def comX (l m:List Pt):Option Pt:=if (comL l m 0).length≠0 then some (minTo (comL l m 0) ((comL l m 0).length-1)) else if (comL l m 1).length≠0 then some (minTo (comL l m 1) ((comL l m 1).length-1)) else if (comL l m 2).length≠0 then some (minTo (comL l m 2) ((comL l m 2).length-1)) else none
def optX (o:Option Pt):Int:=match o with | some p=>p.x | none=>0
def optY (o:Option Pt):Int:=match o with | some p=>p.y | none=>0
theorem Z8k (vp vq:Value) (l m:List Pt) (w:World) (hp:Z8 w.heap.size w vp l) (hq:Z8 w.heap.size w vq m) (hE:(Zb l && Zb m)=false) :
  Calls Tryz.prog 131 #[vp,vq] w fun e w'=>e=.returned (.tuple #[.agg #[.int .i64 0,.int .i64 0],.bool false,.int .i64 1])∧Below w.heap.size w w':=by
 have f1:=Lib.hid (fun w1 (B:Below w.heap.size w w1)=>Zo vp l w1 ((hp.below B).mono B.size))
 have f2:=Lib.hid (fun w1 (B:Below w.heap.size w w1)=>Zo vq m w1 ((hq.below B).mono B.size))
 obtain⟨ap,capp,rfl⟩:=hp.len;obtain⟨aq,capq,rfl⟩:=hq.len;have hA:=(Below.refl w.heap.size w).alloc (Nat.le_refl _) (.cells #[.int .i64 0,.int .i64 0] 31);have hN:=Lib.hid (Has.new w #[.int .i64 0,.int .i64 0] 31);have HA:=Lib.hid hA;have hs1:w.heap.size<(w.alloc (.cells #[.int .i64 0,.int .i64 0] 31)).heap.size:=by simp
 clear hp hq hA;cases hl:Zb l
 ·rw [hl] at f1
  clear hl hE;go_enter Tryz.func131,Tryz.ntmps131;go_wp2_with fail;refine (f1.out _ HA.out).mono ?_;rintro e w1 ⟨rfl,hb1⟩;have g1:=hN.out.below hb1 hs1;have B1:=zAg HA hb1;have x0:w1.cell? ⟨w.heap.size,0,none⟩=some (.int .i64 0):=g1.cell (i:=0) rfl;have x1:w1.cell? ⟨w.heap.size,1,none⟩=some (.int .i64 0):=g1.cell (i:=1) rfl;have y0:=Ze g1 0;have y1:=Ze g1 1;have HZ:=(g1.set 0 (.int .i64 0)).set 1 (.int .i64 0);have z0:((w1.setCell ⟨w.heap.size,0,none⟩ (.int .i64 0)).setCell ⟨w.heap.size,1,none⟩ (.int .i64 0)).cell? ⟨w.heap.size,0,none⟩=some (.int .i64 0):=HZ.cell (i:=0) rfl;have z1:((w1.setCell ⟨w.heap.size,0,none⟩ (.int .i64 0)).setCell ⟨w.heap.size,1,none⟩ (.int .i64 0)).cell? ⟨w.heap.size,1,none⟩=some (.int .i64 0):=HZ.cell (i:=1) rfl;have BB:=Lib.hid ((B1.out.setCell (p:=⟨w.heap.size,0,none⟩) (by simp) (.int .i64 0)).setCell (p:=⟨w.heap.size,1,none⟩) (by simp) (.int .i64 0))
  clear hb1 HZ g1;go_wp2;exact bodyPost_ret (v:=.tuple #[.agg #[.int .i64 0,.int .i64 0],.bool false,.int .i64 1]) (by simp [results,Tryz.f131,go_sem,z0,z1]) rfl ⟨rfl,BB.out⟩
 ·rw [hl] at f1
  have hm:Zb m=false:=by rw [hl] at hE;simpa using hE
  rw [hm] at f2;clear hl hE hm;go_enter Tryz.func131,Tryz.ntmps131;go_wp2_with fail;refine (f1.out _ HA.out).mono ?_;rintro e w0 ⟨rfl,hb0⟩;have g0:=Lib.hid (hN.out.below hb0 hs1);have B0:=zAg HA hb0;have hs0:=g0.out.lt;clear hb0;go_wp2_with fail;refine (f2.out _ B0.out).mono ?_;rintro e w1 ⟨rfl,hb1⟩;have g1:=g0.out.below hb1 hs0;have B1:=zAg B0 hb1;have x0:w1.cell? ⟨w.heap.size,0,none⟩=some (.int .i64 0):=g1.cell (i:=0) rfl;have x1:w1.cell? ⟨w.heap.size,1,none⟩=some (.int .i64 0):=g1.cell (i:=1) rfl;have y0:=Ze g1 0;have y1:=Ze g1 1;have HZ:=(g1.set 0 (.int .i64 0)).set 1 (.int .i64 0);have z0:((w1.setCell ⟨w.heap.size,0,none⟩ (.int .i64 0)).setCell ⟨w.heap.size,1,none⟩ (.int .i64 0)).cell? ⟨w.heap.size,0,none⟩=some (.int .i64 0):=HZ.cell (i:=0) rfl;have z1:((w1.setCell ⟨w.heap.size,0,none⟩ (.int .i64 0)).setCell ⟨w.heap.size,1,none⟩ (.int .i64 0)).cell? ⟨w.heap.size,1,none⟩=some (.int .i64 0):=HZ.cell (i:=1) rfl;have BB:=Lib.hid ((B1.out.setCell (p:=⟨w.heap.size,0,none⟩) (by simp) (.int .i64 0)).setCell (p:=⟨w.heap.size,1,none⟩) (by simp) (.int .i64 0))
  clear hb1 HZ g1;go_wp2;exact bodyPost_ret (v:=.tuple #[.agg #[.int .i64 0,.int .i64 0],.bool false,.int .i64 1]) (by simp [results,Tryz.f131,go_sem,z0,z1]) rfl ⟨rfl,BB.out⟩
theorem Zae (l m:List Pt):∀ k,k<3→rk [comL l m 0,comL l m 1,comL l m 2] k=comL l m k
 | 0,_=>rfl
 | 1,_=>rfl
 | 2,_=>rfl
theorem Z8m {l m:List Pt} {k:Nat} (hk:k<3) (h0:∀ j,j<k→(comL l m j).length=0) (h1:0<(comL l m k).length):comX l m=some (minTo (comL l m k) ((comL l m k).length-1)):=by
 unfold comX
 match k,hk with
 | 0,_=>rw [if_pos (by omega)]
 | 1, _ =>
  have a:=h0 0 (by omega)
  rw [if_neg (by omega),if_pos (by omega)]
 | 2, _ =>
  have a:=h0 0 (by omega)
  have b:=h0 1 (by omega)
  rw [if_neg (by omega),if_neg (by omega),if_pos (by omega)]
theorem Z8l {l m:List Pt} (h0:∀ j,j<3→(comL l m j).length=0):comX l m=none:=by
 have a:=h0 0 (by omega)
 have b:=h0 1 (by omega)
 have c:=h0 2 (by omega)
 unfold comX;rw [if_neg (by omega),if_neg (by omega),if_neg (by omega)]
theorem Z6L (vp vq : Value) (l m : List Pt) (w : World) (hp : Z8 w.heap.size w vp l) (hq : Z8 w.heap.size w vq m) (hl : Zb l = true) (hm : Zb m = true) :
  Calls Tryz.prog 131 #[vp,vq] w fun e w'=>e=.returned (.tuple #[.agg #[.int .i64 (optX (comX l m)),.int .i64 (optY (comX l m))],.bool (comX l m).isSome,.int .i64 0])∧Below w.heap.size w w':=by
 have GL:GoValid l:=by simpa [Zb] using hl
 have GM:GoValid m:=by simpa [Zb] using hm
 have l64:=GL.2.1;have m64:=GM.2.1;have clen:=Z3m l64 m64;have f1:=Lib.hid (fun w1 (B:Below w.heap.size w w1)=>hl ▸ Zo vp l w1 ((hp.below B).mono B.size))
 have f2:=Lib.hid (fun w1 (B:Below w.heap.size w w1)=>hm ▸ Zo vq m w1 ((hq.below B).mono B.size))
 have f3:=Lib.hid (fun w1 (B:Below w.heap.size w w1)=>Z02 vp vq l m w1 ((hp.below B).mono B.size) ((hq.below B).mono B.size) (by omega))
 have f4:=Lib.hid (fun w1 (B:Below w.heap.size w w1)=>Z02 vq vp m l w1 ((hq.below B).mono B.size) ((hp.below B).mono B.size) (by omega))
 have f5:=Lib.hid (fun w1 (B:Below w.heap.size w w1)=>Z1D vp vq l m w1 ((hp.below B).mono B.size) ((hq.below B).mono B.size) hl hm)
 have f6:=Lib.hid (fun u w1 (B:Below w.heap.size w w1) (h:Z8 w1.heap.size w1 u (crossP l m))=>Z02 u vp (crossP l m) l w1 h ((hp.below B).mono B.size) (by omega))
 have f7:=Lib.hid (fun u w1 (B:Below w.heap.size w w1) (h:Z8 w1.heap.size w1 u (cornersP (crossP l m) l))=>Z02 u vq (cornersP (crossP l m) l) m w1 h ((hq.below B).mono B.size) (by have:=Z0R (crossP l m) l;omega))
 obtain⟨ap,capp,rfl⟩:=hp.len;obtain⟨aq,capq,rfl⟩:=hq.len;have hA:=(Below.refl w.heap.size w).alloc (Nat.le_refl _) (.cells #[.int .i64 0,.int .i64 0] 31);have hN:=Lib.hid (Has.new w #[.int .i64 0,.int .i64 0] 31);have HA:=Lib.hid hA;have hs1:w.heap.size<(w.alloc (.cells #[.int .i64 0,.int .i64 0] 31)).heap.size:=by simp
 clear hp hq hA hl hm GL GM;go_enter Tryz.func131,Tryz.ntmps131;go_wp2_with fail;refine (f1.out _ HA.out).mono ?_;rintro e w0 ⟨rfl,hb0⟩;have g0:=Lib.hid (hN.out.below hb0 hs1);have B0:=zAg HA hb0;have hs0:=g0.out.lt;clear hb0;go_wp2_with fail;refine (f2.out _ B0.out).mono ?_;rintro e w1 ⟨rfl,hb1⟩;have g1:=Lib.hid (g0.out.below hb1 hs0);have B1:=zAg B0 hb1;have hs1:=g1.out.lt;clear hb1;go_wp2_with fail;refine (f3.out _ B1.out).mono ?_;rintro e w2 ⟨u0,rfl,I0,hb2⟩;have g2:=Lib.hid (g1.out.below hb2 hs1);have B2:=zAg B1 hb2;have hs2:=g2.out.lt;have J0:=Lib.hid I0;obtain⟨a0,c0,rfl⟩:=I0.len;clear hb2 I0;go_wp2_with fail;refine (f4.out _ B2.out).mono ?_;rintro e w3 ⟨u1,rfl,I1,hb3⟩;have g3:=Lib.hid (g2.out.below hb3 hs2);have B3:=zAg B2 hb3;have hs3:=g3.out.lt;have K0:=Lib.hid ((J0.out.below hb3).mono hb3.size);have K1:=Lib.hid I1;obtain⟨a1,c1,rfl⟩:=I1.len;clear hb3 I1;go_wp2_with fail;refine (f5.out _ B3.out).mono ?_;rintro e w4 ⟨u2,rfl,I2,hb4⟩;have g4:=Lib.hid (g3.out.below hb4 hs3);have B4:=zAg B3 hb4;have hs4:=g4.out.lt;have L0:=Lib.hid ((K0.out.below hb4).mono hb4.size);have L1:=Lib.hid ((K1.out.below hb4).mono hb4.size);have L2:=Lib.hid I2;obtain⟨a2,c2,rfl⟩:=I2.len;clear hb4 I2;go_wp2_with fail;refine (f6.out _ _ B4.out L2.out).mono ?_;rintro e w5 ⟨u3,rfl,I3,hb5⟩;have g5:=Lib.hid (g4.out.below hb5 hs4);have B5:=zAg B4 hb5;have hs5:=g5.out.lt;have M0:=Lib.hid ((L0.out.below hb5).mono hb5.size);have M1:=Lib.hid ((L1.out.below hb5).mono hb5.size);have M3:=Lib.hid I3;obtain⟨a3,c3,rfl⟩:=I3.len;clear hb5 I3;go_wp2_with fail;refine (f7.out _ _ B5.out M3.out).mono ?_;rintro e w6 ⟨u4,rfl,I4,hb6⟩;have g6:=g5.out.below hb6 hs5;have B6:=B5.out.trans (hb6.mono B5.out.size);have hs6:=g6.lt;have N0:=(M0.out.below hb6).mono hb6.size;have N1:=(M1.out.below hb6).mono hb6.size;obtain⟨a4,c4,rfl⟩:=I4.len;have R:=Z2r N0 N1 I4;have hBR:=(Below.refl w6.heap.size w6).alloc (Nat.le_refl _) (.cells #[.slice a0 (cornersP l m).length ((cornersP l m).length+c0),.slice a1 (cornersP m l).length ((cornersP m l).length+c1),.slice a4 (cornersP (cornersP (crossP l m) l) m).length ((cornersP (cornersP (crossP l m) l) m).length+c4)] 23);have g7:=Lib.hid (g6.below hBR hs6);have B7:=Lib.hid (B6.trans (hBR.mono B6.size));have hs7:w6.heap.size+1=(w6.alloc (.cells #[.slice a0 (cornersP l m).length ((cornersP l m).length+c0),.slice a1 (cornersP m l).length ((cornersP m l).length+c1),.slice a4 (cornersP (cornersP (crossP l m) l) m).length ((cornersP (cornersP (crossP l m) l) m).length+c4)] 23)).heap.size:=by simp
 change Z7 _ _ _ [comL l m 0,comL l m 1,comL l m 2] at R
 clear hb6 I4 g6 B6 N0 N1 hBR f1 f2 f3 f4 f5 f6 f7;obtain⟨W7,hW7⟩:∃ W7,w6.alloc (.cells #[.slice a0 (cornersP l m).length ((cornersP l m).length+c0),.slice a1 (cornersP m l).length ((cornersP m l).length+c1),.slice a4 (cornersP (cornersP (crossP l m) l) m).length ((cornersP (cornersP (crossP l m) l) m).length+c4)] 23)=W7:=⟨_,rfl⟩;rw [hW7] at R g7 B7 hs7;have HW7:=Lib.hid hW7;have HR:=Lib.hid R;have hs8:=g7.out.lt;clear R hW7;go_wp2;rw [HW7.out]
 go_loopw [34] (fun i wr=>∃ k:Nat,k≤3∧i=.int .i64 (k:Int)∧(∀ j,j<k→(comL l m j).length=0)∧Below W7.heap.size W7 wr) (fun i _=>3-(intOf i).toNat)
 case atStart=>exact⟨0,by omega,rfl,fun j h=>by omega,Below.refl _ _⟩
 case round =>
  obtain⟨k,hk,rfl,hall,hB⟩:=hrel;have G:=g7.out.below hB hs8;have BB:=B7.out.trans (hB.mono B7.out.size);have hzr:=hB.size;have HALL:=Lib.hid hall;clear hall;by_cases hlt:k<3
  ·obtain⟨u,hu,hpu⟩:∃ u,wr.cell? ⟨w6.heap.size,k,none⟩=some u∧Z8 wr.heap.size wr u (comL l m k):=by
    obtain⟨_,a,cap,e,h | ⟨b,o,e2,hb,hcc⟩⟩:=HR.out
    ·simp at h
    ·simp only [Value.slice.injEq] at e
     obtain⟨e3,_⟩:=e;rw [← e3] at e2;simp only [Option.some.injEq,Addr.mk.injEq,and_true] at e2;obtain⟨rfl,rfl⟩:=e2;obtain⟨u,hu,hpu⟩:=hcc k (by simpa using hlt)
     rw [Zae _ _ k hlt] at hpu;rw [hs7] at hpu;rw [Nat.zero_add] at hu;exact⟨u,(hB.cell (p:=⟨w6.heap.size,k,none⟩) (by show w6.heap.size<_;omega)).trans hu,(hpu.below hB).mono hB.size⟩
   obtain⟨au,cu,rfl⟩:=hpu.len;have dk:decide ((k:Int)<3)=true:=by simp;omega
   have kl:(k:Int)<3:=by omega
   have k0:(0:Int)≤k:=by omega
   have HB:=Lib.hid hB;have HBB:=Lib.hid BB;have HG:=Lib.hid G;have HP:=Lib.hid hpu;clear hB BB G hpu;by_cases hpos:0<(comL l m k).length
   ·have d1:decide (((comL l m k).length:Int)>0)=true:=by rw [decide_eq_true_eq];omega
    have hres:=Lib.hid (Z8m hlt HALL.out hpos);have hmf:=Lib.hid (Z58 _ _ _ HP.out hpos);generalize minTo (comL l m k) ((comL l m k).length-1)=mn at *;obtain⟨mx,my⟩:=mn;dsimp only at hmf;go_wp2_with fail;refine hmf.out.mono ?_;rintro e w8 ⟨rfl,hb8⟩;have G8:=HG.out.below hb8 HG.out.lt;have B8:=HBB.out.trans (hb8.mono HBB.out.size);have x0:w8.cell? ⟨w.heap.size,0,none⟩=some (.int .i64 0):=G8.cell (i:=0) rfl;have x1:w8.cell? ⟨w.heap.size,1,none⟩=some (.int .i64 0):=G8.cell (i:=1) rfl;have y0:=Ze G8 0;have y1:=Ze G8 1;have HZ:=(G8.set 0 (.int .i64 mx)).set 1 (.int .i64 my);have z0:((w8.setCell ⟨w.heap.size,0,none⟩ (.int .i64 mx)).setCell ⟨w.heap.size,1,none⟩ (.int .i64 my)).cell? ⟨w.heap.size,0,none⟩=some (.int .i64 mx):=HZ.cell (i:=0) rfl;have z1:((w8.setCell ⟨w.heap.size,0,none⟩ (.int .i64 mx)).setCell ⟨w.heap.size,1,none⟩ (.int .i64 my)).cell? ⟨w.heap.size,1,none⟩=some (.int .i64 my):=HZ.cell (i:=1) rfl;have BZ:=Lib.hid ((B8.setCell (p:=⟨w.heap.size,0,none⟩) (by simp) (.int .i64 mx)).setCell (p:=⟨w.heap.size,1,none⟩) (by simp) (.int .i64 my))
    clear hb8 HZ G8 B8;go_wp2;exact bodyPost_ret (v:=.tuple #[.agg #[.int .i64 mx,.int .i64 my],.bool true,.int .i64 0]) (by simp [results,Tryz.f131,go_sem,z0,z1]) rfl ⟨by rw [hres.out];rfl,BZ.out⟩
   ·have d1:decide (((comL l m k).length:Int)>0)=false:=by rw [decide_eq_false_iff_not];omega
    have hz0:(comL l m k).length=0:=by omega
    have HZ0:=Lib.hid hz0;have hnil:comL l m k=[]:=List.eq_nil_of_length_eq_zero hz0;have d2:decide (0<(comL l m k).length)=false:=by rw [decide_eq_false_iff_not];omega
    clear hz0;go_wp2;go_roundw
    case rel=>exact⟨k+1,by omega,by go_num,fun j hj=>(by
     by_cases e:j=k
     ·rw [e];exact HZ0.out
     ·exact HALL.out j (by omega)),HB.out⟩
    case measure=>simp [intOf];omega
  ·obtain rfl:k=3:=by omega
   have hres:=Lib.hid (Z8l HALL.out);have x0:wr.cell? ⟨w.heap.size,0,none⟩=some (.int .i64 0):=G.cell (i:=0) rfl;have x1:wr.cell? ⟨w.heap.size,1,none⟩=some (.int .i64 0):=G.cell (i:=1) rfl;have y0:=Ze G 0;have y1:=Ze G 1;have HZ:=(G.set 0 (.int .i64 0)).set 1 (.int .i64 0);have z0:((wr.setCell ⟨w.heap.size,0,none⟩ (.int .i64 0)).setCell ⟨w.heap.size,1,none⟩ (.int .i64 0)).cell? ⟨w.heap.size,0,none⟩=some (.int .i64 0):=HZ.cell (i:=0) rfl;have z1:((wr.setCell ⟨w.heap.size,0,none⟩ (.int .i64 0)).setCell ⟨w.heap.size,1,none⟩ (.int .i64 0)).cell? ⟨w.heap.size,1,none⟩=some (.int .i64 0):=HZ.cell (i:=1) rfl;have BZ:=Lib.hid ((BB.setCell (p:=⟨w.heap.size,0,none⟩) (by simp) (.int .i64 0)).setCell (p:=⟨w.heap.size,1,none⟩) (by simp) (.int .i64 0))
   clear HZ G BB hB;go_wp2;exact bodyPost_ret (v:=.tuple #[.agg #[.int .i64 0,.int .i64 0],.bool false,.int .i64 0]) (by simp [results,Tryz.f131,go_sem,z0,z1]) rfl ⟨by rw [hres.out];rfl,BZ.out⟩
noncomputable def withinB (l m:List Pt):Bool:=Zb l && (Zb m && decide ((cornersP l m).length=l.length))
theorem Z6i (vp vq : Value) (l m : List Pt) (w : World) (hp : Z8 w.heap.size w vp l) (hq : Z8 w.heap.size w vq m) :
  Calls Tryz.prog 71 #[vp,vq] w fun e w'=>e=.returned (.tuple #[.bool (withinB l m),.int .i64 (bothE l m)])∧Below w.heap.size w w':=by
 have f1:=Lib.hid (fun w1 (B:Below w.heap.size w w1)=>Zo vp l w1 ((hp.below B).mono B.size))
 have f2:=Lib.hid (fun w1 (B:Below w.heap.size w w1)=>Zo vq m w1 ((hq.below B).mono B.size))
 have f3:=Lib.hid (fun w1 (B:Below w.heap.size w w1) hs=>Z02 vp vq l m w1 ((hp.below B).mono B.size) ((hq.below B).mono B.size) hs)
 obtain⟨ap,capp,rfl⟩:=hp.len;obtain⟨aq,capq,rfl⟩:=hq.len;unfold withinB bothE;clear hp hq;cases hl:Zb l
 ·rw [hl] at f1
  clear hl;go_enter Tryz.func71,Tryz.ntmps71;go_wp2_with fail;refine (f1.out _ (Below.refl _ _)).mono ?_;rintro e w1 ⟨rfl,hb1⟩;have B1:=Lib.hid hb1;clear hb1;go_wp2;go_ret2;exact⟨rfl,B1.out⟩
 ·rw [hl] at f1
  cases hm:Zb m
  ·rw [hm] at f2
   clear hl hm;go_enter Tryz.func71,Tryz.ntmps71;go_wp2_with fail;refine (f1.out _ (Below.refl _ _)).mono ?_;rintro e w1 ⟨rfl,hb1⟩;have B1:=Lib.hid hb1;clear hb1;go_wp2_with fail;refine (f2.out _ B1.out).mono ?_;rintro e w2 ⟨rfl,hb2⟩;have B2:=zAg B1 hb2;clear hb2;go_wp2;go_ret2;exact⟨rfl,B2.out⟩
  ·rw [hm] at f2
   have hs:l.length≤1000000:=by have V:GoValid l:=by { simpa [Zb] using hl };have:=V.2.1;omega
   replace f3:=Lib.hid (fun w1 B=>f3.out w1 B hs)
   have HV:=Lib.hid (And.intro hl hm);clear hl hm hs;go_enter Tryz.func71,Tryz.ntmps71;go_wp2_with fail;refine (f1.out _ (Below.refl _ _)).mono ?_;rintro e w1 ⟨rfl,hb1⟩;have B1:=Lib.hid hb1;clear hb1;go_wp2_with fail;refine (f2.out _ B1.out).mono ?_;rintro e w2 ⟨rfl,hb2⟩;have B2:=zAg B1 hb2;clear hb2;go_wp2_with fail;refine (f3.out _ B2.out).mono ?_;rintro e w3 ⟨u3,rfl,I3,hb3⟩;have B3:=zAg B2 hb3;obtain⟨a3,c3,rfl⟩:=I3.len;clear I3 hb3;by_cases hd:(cornersP l m).length=l.length
   ·have d0:(((cornersP l m).length:Int) == (l.length:Int))=true:=by simp [hd]
    have HD:=Lib.hid (decide_eq_true hd);clear hd;go_wp2;go_ret2;have HH:=HD.out;exact⟨by simp_all,B3.out⟩
   ·have d0:(((cornersP l m).length:Int) == (l.length:Int))=false:=by rw [beq_eq_false_iff_ne];omega
    have HD:=Lib.hid (decide_eq_false hd);clear hd;go_wp2;go_ret2;have HH:=HD.out;exact⟨by simp_all,B3.out⟩
end
end Go.Proofs.YtdolkgihppgpcaaGreat
