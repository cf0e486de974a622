/- slices.Concat of lists of points; package cut: shared, Apart. | A list of points appended to one of the call's own; points in a literal. | package .. -/
import Derived.Lib.AppendZeros
import Derived.Lib.SliceRun
import Derived.Laws.AppendOwnNone
import Derived.Test.YthipcinibldgnaaGreatBin16
open Go.Value renaming int->O,slice->qS
open Go.Ending renaming returned->qR
open Go.Obj renaming cells->qC
open Go.IntKind renaming i64->qL
open Go.Lib renaming hid->qH
open Go.RowKit.Below renaming refl->qK
open Nat renaming le_refl->qN
open And renaming intro->qI
set_option linter.unusedSimpArgs false
set_option maxRecDepth 8000
set_option maxHeartbeats 3000000
namespace Go.Proofs.YthipcinibldgnaaGreat
section
attribute [local irreducible] wpQuiet
open Go.RowKit
theorem Zbh (n:Nat) (hn:n<=1000000) (w:World):Calls Tryz.prog 168 #[qS none 0 0,O qL (n:Int)] w fun e w'=>∃ v,e=qR v/\w'.ownsRow w.heap.size 36 2 v 0 []/\Below w.heap.size w w':=by
 have h1:decide ((n:Int)<0)=false:=by simp
 have h2:IntKind.i64.wrap ((n:Int)-0)=(n:Int):=by rw [Int.sub_zero];exact zW2
 by_cases h0:n=0
 ·subst h0
  go_enter Tryz.func168,Tryz.ntmps168;go_wp2;go_ret;exact⟨_,rfl,World.ownsRow_nil _ _ _ _,qK _ _⟩
 ·obtain⟨i0,hi,hz0',hz1',hz2'⟩:=info_parts ptInfo
  have h3:decide ((n:Int)>0)=true:=by simp;omega
  have hrz:=fun ty=>Lib.run_append_nil_zeros (P:=Tryz.prog) w 23 3 ty 36 i0 (.agg #[.int .i64 0,.int .i64 0]) .i64 .i64 Tryz.underlying23 Tryz.underlying3 hi hz0' n (by omega) (by rw [hz1'];omega) (by omega) (by rw [hz2'];omega)
  have hG:=grownCap_le_maxLen w n 0 36 (by unfold maxLen;omega)
  have hG2:=grownCap_ge w n 0 36;obtain⟨G,hGe⟩:∃ G,G=grownCap w n 0 36:=⟨_,rfl⟩;rw [<- hGe] at hrz hG hG2;have hz:Builtin.zeroCells (Value.cells (.agg #[O qL 0,O qL 0])) n++Builtin.zeroCells (Value.cells (.agg #[O qL 0,O qL 0])) (G-n)=Builtin.zeroCells (Value.cells (.agg #[O qL 0,O qL 0])) n++Builtin.zeroCells (Value.cells (.agg #[O qL 0,O qL 0])) (G-n):=rfl;have hsz:(Builtin.zeroCells (Value.cells (.agg #[O qL 0,O qL 0])) n++Builtin.zeroCells (Value.cells (.agg #[O qL 0,O qL 0])) (G-n)).size=G*2:=by
   simp [Builtin.zeroCells,Value.cells];omega
  have hown:=World.ownsRow_made (e:=36) (size:=2) (base:=w.heap.size) w.drew (Builtin.zeroCells (Value.cells (.agg #[O qL 0,O qL 0])) n++Builtin.zeroCells (Value.cells (.agg #[O qL 0,O qL 0])) (G-n)) G (qN _) hG hsz;have hB:=((qK w.heap.size w).drew).alloc (qN _) (qC (Builtin.zeroCells (Value.cells (.agg #[O qL 0,O qL 0])) n++Builtin.zeroCells (Value.cells (.agg #[O qL 0,O qL 0])) (G-n)) 36);generalize Builtin.zeroCells (Value.cells (.agg #[O qL 0,O qL 0])) n++Builtin.zeroCells (Value.cells (.agg #[O qL 0,O qL 0])) (G-n)=zz at *;have HO:=qH (qI hown hB);clear hown hB hz hsz hGe;unfold maxLen at hG;go_enter Tryz.func168,Tryz.ntmps168;go_wp2_with (at_builtin;refine Lib.wpList_append_run _ rfl _ _ _ _ rfl _ _ rfl rfl _ _ (hrz _) ?_)
  all_goals (go_ret;exact⟨_,rfl,HO.out.1,HO.out.2⟩)
theorem Z4G {P:Program} {w:World} (base:Nat) (t ty e:TypeId) (i:TypeInfo) (size:Nat) (ht:P.underlying t=some (.slice e)) (hi:P.info? e=some i)
  (v:Value) (n:Nat) (xs:List Value) (hown:w.ownsRow base e size v n xs) (c:Nat):(Builtin.append_ #[t,t] ty #[v,qS none 0 c]).run P w=.ok v w:=by
 rcases hown.2 with⟨rfl,rfl⟩ | ⟨g,cap,cur,rfl,_,_,hnc,_⟩
 ·simp [Builtin.append_,run_underlying ht,sizeOf,typeInfo,hi,Builtin.lenOf,Builtin.firstCells]
 ·simp [Builtin.append_,run_underlying ht,sizeOf,typeInfo,hi,Builtin.lenOf,Builtin.firstCells,hnc,storeCells]
theorem Z17 {P:Program} {w:World} {ops:Array Oper} {rest:List Oper} {o:Oper} {a:Act} {Q:Exit->Act->World->Prop} (hgd:o.guard=none) (s x:Operand) (t:TypeId)
  (ho:o.op=.call { callee:=.builtin .append,args:=#[s,x],argTypes:=#[t,t] })
  (base:Nat) (e:TypeId) (i:TypeInfo) (size:Nat) (ht:P.underlying t=some (.slice e)) (hi:P.info? e=some i)
  (v:Value) (n:Nat) (xs:List Value) (hs:a.eval s=v) (hown:w.ownsRow base e size v n xs) (c:Nat) (hx:a.eval x=qS none 0 c)
  (h:wpList P ops Q rest (a.put o.dst v) w):wpList P ops Q (o::rest) a w:=by
 refine wpList_plain hgd fun K hK=>?_
 have hrun:=Z4G (P:=P) (w:=w) base t o.type e i size ht hi v n xs hown c;unfold Oper.wp;simp [execOp,ho,resolve,invoke,builtin,hs,hx,hrun,Result.andThen];exact hK _ _ h
def sumTo (ls:List (List Pt)):Nat->Nat
 | 0=>0
 | k+1=>sumTo ls k+(rk ls k).length
def catTo (ls:List (List Pt)):Nat->List Pt
 | 0=>[]
 | k+1=>catTo ls k++rk ls k
theorem Z3K (ls:List (List Pt)):∀ k,(catTo ls k).length=sumTo ls k
 | 0=>rfl
 | k+1=>by simp [catTo,sumTo,Z3K ls k]
theorem Z77 (ls:List (List Pt)) {N:Nat} (h:∀ j,(rk ls j).length<=N):∀ k,sumTo ls k<=k*N
 | 0=>by simp [sumTo]
 | k + 1 => by
  have:=Z77 ls h k;have:=h k;simp only [sumTo,Nat.add_mul];omega
theorem Z4s (v : Value) (ls : List (List Pt)) (w : World) (hr : Z6 w.heap.size w v ls) (hl : ls.length <= 10) (hn : ∀ j, (rk ls j).length <= 20000) :
  Calls Tryz.prog 151 #[v] w (PtsQ (catTo ls ls.length) w):=by
 obtain⟨_,a,cap,rfl,hc⟩:=hr;have HC:=qH hc;have HN:=qH hn;obtain⟨i0,hi,hz0',hz1',hz2'⟩:=info_parts ptInfo;have hs:=fun k=>Z77 ls hn k
 have HS:=qH hs;clear hc hn hs;go_enter Tryz.func151,Tryz.ntmps151;go_wp2
 go_loopw [3,11] (fun s i wr=>∃ k:Nat,k<=ls.length/\i=O qL (k:Int)/\s=O qL (sumTo ls k:Int)/\Below w.heap.size w wr) (fun _ i _=>ls.length-(intOf i).toNat)
 case atStart=>exact⟨0,by omega,rfl,rfl,qK _ _⟩
 case round =>
  obtain⟨k,hk,rfl,rfl,hB⟩:=hrel;have hzB:=hB.size;have hsk:=HS.out k;by_cases hlt:k<ls.length
  ·obtain⟨b,o,rfl,hb,hcc⟩:∃ b o,a=some ⟨b,o,none⟩/\b<w.heap.size/\∀ j,j<ls.length->∃ u,w.cell? ⟨b,o+j,none⟩=some u/\Z7 w.heap.size w u (rk ls j):=by
    rcases HC.out with h | h
    ·rw [h] at hlt;simp at hlt
    ·exact h
   obtain⟨u,hu,hpu⟩:=hcc k hlt;obtain⟨au,cu,rfl⟩:=hpu.len;have e0:=(hB.cell (p:=⟨b,o+k,none⟩) hb).trans hu;have hnk:=HN.out k;have hst:Hid ((sumTo ls (k+1):Int)=(sumTo ls k:Int)+((rk ls k).length:Int)):=by show _=_;simp [sumTo]
   have dk:decide ((k:Int)<(ls.length:Int))=true:=by simp;omega
   have kl:(k:Int)<ls.length:=by omega
   have k0:(0:Int)<=k:=by omega
   have m1:IntKind.i64.wrap ((sumTo ls k:Int)+((rk ls k).length:Int))=(sumTo ls k:Int)+((rk ls k).length:Int):=zW2;have d1:decide ((sumTo ls k:Int)+((rk ls k).length:Int)<0)=false:=by simp;omega
   have hBB:=qH hB;clear hcc hu hpu hB;generalize (sumTo ls k:Int)=S at *;go_wp2;go_roundw
   case rel=>exact⟨k+1,by omega,by go_num,by rw [hst.out],hBB.out⟩
   case measure=>simp [intOf];omega
  ·obtain rfl:k=ls.length:=by omega
   have dk:decide ((ls.length:Int)<(ls.length:Int))=false:=by simp
   have hg:=qH (Zbh (sumTo ls ls.length) (by omega) wr)
   have hBB:=qH hB;clear hB;obtain⟨wq,rfl⟩:∃ x,x=wr:=⟨_,rfl⟩;go_wp2_with fail;refine hg.out.mono ?_;rintro e w2 ⟨vg,rfl,hown,hb2⟩;have HO:=qH hown;have H2:=qH hb2;clear hown hb2;go_wp2
   go_loopw [6,27] (fun v i wr=>∃ k:Nat,k<=ls.length/\i=O qL (k:Int)/\wr.ownsRow wq.heap.size 36 2 v (catTo ls k).length (Za (catTo ls k))/\Below wq.heap.size wq wr) (fun _ i _=>ls.length-(intOf i).toNat)
   case atStart=>exact⟨0,by omega,rfl,HO.out,H2.out⟩
   case round =>
    obtain⟨k,hk2,rfl,hrow,hZ⟩:=hrel;have hzz:=hZ.size;have BZ:=hBB.out.trans (hZ.mono hBB.out.size);by_cases hlt2:k<ls.length
    ·obtain⟨b,o,rfl,hb,hcc⟩:∃ b o,a=some ⟨b,o,none⟩/\b<w.heap.size/\∀ j,j<ls.length->∃ u,w.cell? ⟨b,o+j,none⟩=some u/\Z7 w.heap.size w u (rk ls j):=by
      rcases HC.out with h | h
      ·rw [h] at hlt2;simp at hlt2
      ·exact h
     obtain⟨u,hu,hpu⟩:=hcc k hlt2;have hpz:=hpu.below BZ;have e0:=(BZ.cell (p:=⟨b,o+k,none⟩) hb).trans hu;have hnk:=HN.out k;have hcl:=Z3K ls k;have hsk2:=HS.out k;have dk2:decide ((k:Int)<(ls.length:Int))=true:=by simp;omega
     have kl:(k:Int)<ls.length:=by omega
     have k0:(0:Int)<=k:=by omega
     have HZ:=qH hZ;have HR:=qH hrow;obtain⟨_,au,cu,rfl,hcu⟩:=hpz;have hsz1:wq.heap.size<=wr.heap.size:=hzz;have HCU:=qH hcu;clear hcc hu hpu hZ hrow hcu BZ;rcases au with _ | ⟨bu,ou,su⟩
     ·have h0:rk ls k=[]:=by
       rcases HCU.out with h | ⟨_,_,h,_⟩
       ·exact h
       ·cases h
      have hcat:Hid (catTo ls (k+1)=catTo ls k):=by show catTo ls k++rk ls k=_;rw [h0,List.append_nil]
      rw [h0] at e0 hnk;have e0':wr.cell? ⟨b,o+k,none⟩=some (qS none 0 cu):=by simpa using e0
      have HR':=HR.out;clear e0 HCU h0;go_wp2_with (at_builtin;refine Z17 rfl _ _ 23 rfl wq.heap.size 36 i0 2 Tryz.underlying23 hi _ _ _ rfl HR.out cu rfl ?_)
      go_roundw
      case rel=>exact⟨k+1,by omega,by go_num,by rw [hcat.out];exact HR.out,HZ.out⟩
      case measure=>simp [intOf];omega
     ·obtain⟨hsu,hcu⟩:(rk ls k=[]\/su=none)/\(∀ j u,(Za (rk ls k))[j]?=some u->wr.cell? ((⟨bu,ou,su⟩:Addr).add j)=some u):=by
       rcases HCU.out with h | ⟨b',o',h,_,h2⟩
       ·rw [h];exact⟨.inl rfl,fun j u hu=>by simp [Za] at hu⟩
       ·cases h
        exact⟨.inr rfl,Z7d h2⟩
      go_wp2_with (at_builtin;refine wpList_append_own _ rfl _ _ 23 rfl wq.heap.size 36 i0 (.agg #[.int .i64 0,.int .i64 0]) 2 16 Tryz.underlying23 hi hz0' hz1' hz2' rfl (by decide) _ _ _ rfl HR.out ⟨bu,ou,su⟩ (rk ls k).length ((rk ls k).length+cu) (Za (rk ls k)) rfl (Zx _) hcu (Z0Z _) (by unfold maxLen;omega) (by omega) (by omega) ?_;intro v' w4 hown' hgrow _)
      go_roundw
      case rel =>
       have hb0:Below wq.heap.size wr w4:=(qK wq.heap.size wr).grown hgrow (by omega) (fun j ej=>(HR.out.lt j ej).1)
       refine⟨k+1,by omega,by go_num,?_,HZ.out.trans hb0⟩
       simp only [catTo,List.length_append,ZR];exact hown'
      case measure=>simp [intOf];omega
    ·obtain rfl:k=ls.length:=by omega
     have dk2:decide ((ls.length:Int)<(ls.length:Int))=false:=by simp
     have hcl:=Z3K ls ls.length;have HI:=qH (Z7.own hrow (by omega))
     have HZ:=qH BZ;clear hrow hZ BZ;go_wp2;go_ret;exact⟨_,rfl,HI.out,HZ.out⟩
end
section
open Go.RowKit
theorem Z2g {w : World} {ops : Array Oper} {rest : List Oper} {o : Oper} {a : Act} {Q : Exit -> Act -> World -> Prop} (hgd : o.guard = none) (s x : Operand)
  (ho:o.op=.call { callee:=.builtin .append,args:=#[s,x],argTypes:=#[23,23] })
  (base:Nat) (v:Value) (n:Nat) (xs:List Value) (hs:a.eval s=v) (hown:w.ownsRow base 36 2 v n xs)
  (vx:Value) (l:List Pt) (hx:a.eval x=vx) (hp:Z7 w.heap.size w vx l) (h63:n+l.length<=1000000) (hbase:base<=w.heap.size)
  (h:∀ v' w',w'.ownsRow base 36 2 v' (n+l.length) (xs++Za l)->w.grownBy w' v.ownBlock->(v'.ownBlock=v.ownBlock\/v'.ownBlock=some w.heap.size)->wpList Tryz.prog ops Q rest (a.put o.dst v') w') :
  wpList Tryz.prog ops Q (o::rest) a w:=by
 obtain⟨i0,hi,hz0',hz1',hz2'⟩:=info_parts ptInfo;obtain⟨_,au,cu,rfl,hcu⟩:=hp;rcases au with _ | ⟨bu,ou,su⟩
 ·have h0:l=[]:=by
   rcases hcu with h | ⟨_,_,h,_⟩
   ·exact h
   ·cases h
  subst h0;refine Z17 hgd s x 23 ho base 36 i0 2 Tryz.underlying23 hi v n xs hs hown cu (by simpa using hx) ?_
  exact h v w (by simpa [Za] using hown) ⟨rfl,rfl,rfl,qN _,fun _ _ _=>rfl⟩ (.inl rfl)
 ·obtain⟨hsu,hcu⟩:(l=[]\/su=none)/\(∀ j u,(Za l)[j]?=some u->w.cell? ((⟨bu,ou,su⟩:Addr).add j)=some u):=by
   rcases hcu with h | ⟨b',o',h,_,h2⟩
   ·rw [h];exact⟨.inl rfl,fun j u hu=>by simp [Za] at hu⟩
   ·cases h
    exact⟨.inr rfl,Z7d h2⟩
  exact wpList_append_own_at w hgd s x 23 ho base 36 i0 (.agg #[.int .i64 0,.int .i64 0]) 2 16 Tryz.underlying23 hi hz0' hz1' hz2' rfl (by decide) v n xs hs hown ⟨bu,ou,su⟩ l.length (l.length+cu) (Za l) hx (Zx _) hcu (Z0Z _) (by unfold maxLen;omega) (by omega) hbase
   fun v' w' h1 h2 _ h4=>h v' w' h1 h2 h4
theorem Z6b {w w':World} {base n:Nat} {t:TypeId} {size:Nat} {v:Value} {xs:List Value} (hown:w.ownsRow base t size v n xs) (hg:w.grownBy w' v.ownBlock) {b0:Nat} (h0:b0<=base) (hb:b0<=w.heap.size):Below b0 w w' :=
 (qK b0 w).grown hg hb fun j ej=>Nat.le_trans h0 (hown.lt j ej).1
theorem Zc8 {W:World} {B:Nat} {l:List Pt} (h:Has W B (Za l).toArray 36) (hl:l.length<=1000):Z7 W.heap.size W (qS (some ⟨B,0,none⟩) l.length l.length) l:=by
 refine⟨by omega,some ⟨B,0,none⟩,0,rfl,.inr ⟨B,0,rfl,h.lt,fun j hj=>?_⟩⟩
 obtain⟨f0,f1⟩:=Z09 l j hj;rw [Nat.zero_add];exact⟨h.cell (i:=j*2) (by simpa using f0),h.cell (i:=j*2+1) (by simpa using f1)⟩
end
section
attribute [local irreducible] wpQuiet
open Go.RowKit
noncomputable def sharedP (l m:List Pt):List Pt:=cornersP l m++cornersP m l++crossP l m
theorem Z84 (l m:List Pt):catTo [cornersP l m,cornersP m l,crossP l m] 3=sharedP l m:=by simp [catTo,rk,sharedP]
theorem Z45 (l:List Pt):(sidesL l).length=l.length:=by simp [sidesL,upto]
theorem Z4q {l m:List Pt} (hl:l.length<=64) (hm:m.length<=64):(crossP l m).length<=16384:=by
 have h:=Z1D (sidesL m) (sidesL l);rw [Z45,Z45] at h;have:4*m.length*l.length<=256*64:=Nat.mul_le_mul (show 4*m.length<=256 by omega) hl
 unfold crossP;omega
theorem Z1l (l m:List Pt):(cornersP l m).length<=l.length:=Z0u l m l.length
theorem Z3e {W:World} {u0 u1 u2:Value} {l0 l1 l2:List Pt} (h0:Z7 W.heap.size W u0 l0) (h1:Z7 W.heap.size W u1 l1) (h2:Z7 W.heap.size W u2 l2) :
  Z6 (W.heap.size+1) (W.alloc (qC #[u0,u1,u2] 23)) (qS (some ⟨W.heap.size,0,none⟩) 3 3) [l0,l1,l2]:=by
 have hB:=(qK W.heap.size W).alloc (qN _) (qC #[u0,u1,u2] 23);have hN:=Has.new W #[u0,u1,u2] 23;refine⟨by simp,_,0,rfl,.inr ⟨W.heap.size,0,rfl,by omega,fun j hj=>?_⟩⟩
 match j,hj with
 | 0,_=>exact⟨u0,hN.cell (i:=0) rfl,(h0.below hB).mono (by omega)⟩
 | 1,_=>exact⟨u1,hN.cell (i:=1) rfl,(h1.below hB).mono (by omega)⟩
 | 2,_=>exact⟨u2,hN.cell (i:=2) rfl,(h2.below hB).mono (by omega)⟩
theorem Z85 (vp vq:Value) (l m:List Pt) (w:World) (hp:Z7 w.heap.size w vp l) (hq:Z7 w.heap.size w vq m) (hl:Zb l=true) (hm:Zb m=true) :
  Calls Tryz.prog 169 #[vp,vq] w (PtsQ (sharedP l m) w):=by
 have GL:GoValid l:=by simpa [Zb] using hl
 have GM:GoValid m:=by simpa [Zb] using hm
 have l64:=GL.2.1;have m64:=GM.2.1;have f1:=fun w1 (B:Below w.heap.size w w1)=>Z0a vp vq l m w1 ((hp.below B).mono B.size) ((hq.below B).mono B.size) (by omega)
 have f2:=fun w1 (B:Below w.heap.size w w1)=>Z0a vq vp m l w1 ((hq.below B).mono B.size) ((hp.below B).mono B.size) (by omega)
 have f3:=fun w1 (B:Below w.heap.size w w1)=>Z2d vp vq l m w1 ((hp.below B).mono B.size) ((hq.below B).mono B.size) hl hm
 have hlen:∀ j,(rk [cornersP l m,cornersP m l,crossP l m] j).length<=20000:=by
  intro j;have a1:=Z1l l m;have a2:=Z1l m l;have a3:=Z4q l64 m64
  match j with
  | 0=>show (cornersP l m).length<=_;omega
  | 1=>show (cornersP m l).length<=_;omega
  | 2=>show (crossP l m).length<=_;omega
  | j+3=>simp [rk]
 have f4:=fun v w1 (h:Z6 w1.heap.size w1 v [cornersP l m,cornersP m l,crossP l m])=>Z4s v _ w1 h (by simp) hlen
 have HF:=qH (qI f1 (qI f2 (qI f3 f4)));obtain⟨ap,capp,rfl⟩:=hp.len;obtain⟨aq,capq,rfl⟩:=hq.len;clear GL GM f1 f2 f3 f4 hp hq hlen;go_enter Tryz.func169,Tryz.ntmps169;go_wp2_with fail;refine (HF.out.1 _ (qK _ _)).mono ?_;rintro e w1 ⟨u1,rfl,I1,hb1⟩;have B1:=qH hb1;have J1:=qH I1;clear I1 hb1;obtain⟨a1,c1,rfl⟩:=J1.out.len;go_wp2_with fail;refine (HF.out.2.1 _ B1.out).mono ?_;rintro e w2 ⟨u2,rfl,I2,hb2⟩;have B2:=zAf B1 hb2;have K1:=qH ((J1.out.below hb2).mono hb2.size);have K2:=qH I2;clear I2 hb2;obtain⟨a2,c2,rfl⟩:=K2.out.len;go_wp2_with fail;refine (HF.out.2.2.1 _ B2.out).mono ?_;rintro e w3 ⟨u3,rfl,I3,hb3⟩;have B3:=zAf B2 hb3;have L1:=(K1.out.below hb3).mono hb3.size;have L2:=(K2.out.below hb3).mono hb3.size;have L3:=I3;obtain⟨a3,c3,rfl⟩:=L3.len;have R:=qH (Z3e L1 L2 L3);have B4:=qH (B3.out.alloc B3.out.size (qC #[qS a1 (cornersP l m).length ((cornersP l m).length+c1),qS a2 (cornersP m l).length ((cornersP m l).length+c2),qS a3 (crossP l m).length ((crossP l m).length+c3)] 23));clear I3 hb3 L1 L2 L3;go_wp2_with fail;refine (HF.out.2.2.2 _ _ (by simpa using R.out)).mono ?_
 rintro e w5 ⟨u5,rfl,I5,hb5⟩;rw [show ([cornersP l m,cornersP m l,crossP l m]:List (List Pt)).length=3 from rfl,Z84] at I5
 have HI:=qH I5;have B5:=zAf B4 hb5;clear I5 hb5;go_wp2;go_ret;exact⟨_,rfl,HI.out,B5.out⟩
noncomputable def apartB (l m:List Pt):Bool:=Zb l && Zb m && decide ((sharedP l m).length=0)
noncomputable def bothE (l m:List Pt):Int:=if (Zb l && Zb m)=true then 0 else 1
theorem Zaz (vp vq : Value) (l m : List Pt) (w : World) (hp : Z7 w.heap.size w vp l) (hq : Z7 w.heap.size w vq m) :
  Calls Tryz.prog 154 #[vp,vq] w fun e w'=>e=qR (.tuple #[.bool (apartB l m),O qL (bothE l m)])/\Below w.heap.size w w':=by
 have f1:=qH (fun w1 (B:Below w.heap.size w w1)=>Zp vp l w1 ((hp.below B).mono B.size))
 have f2:=qH (fun w1 (B:Below w.heap.size w w1)=>Zp vq m w1 ((hq.below B).mono B.size))
 have f3:=qH (fun w1 (B:Below w.heap.size w w1)=>Z85 vp vq l m w1 ((hp.below B).mono B.size) ((hq.below B).mono B.size))
 obtain⟨ap,capp,rfl⟩:=hp.len;obtain⟨aq,capq,rfl⟩:=hq.len;unfold apartB bothE;clear hp hq;cases hl:Zb l
 ·rw [hl] at f1
  clear hl;go_enter Tryz.func154,Tryz.ntmps154;go_wp2_with fail;refine (f1.out _ (qK _ _)).mono ?_;rintro e w1 ⟨rfl,hb1⟩;have B1:=qH hb1;clear hb1;go_wp2;go_ret2;exact⟨rfl,B1.out⟩
 ·rw [hl] at f1
  cases hm:Zb m
  ·rw [hm] at f2
   clear hl hm;go_enter Tryz.func154,Tryz.ntmps154;go_wp2_with fail;refine (f1.out _ (qK _ _)).mono ?_;rintro e w1 ⟨rfl,hb1⟩;have B1:=qH hb1;clear hb1;go_wp2_with fail;refine (f2.out _ B1.out).mono ?_;rintro e w2 ⟨rfl,hb2⟩;have B2:=zAf B1 hb2;clear hb2;go_wp2;go_ret2;exact⟨rfl,B2.out⟩
  ·rw [hm] at f2
   have HV:=qH (qI hl hm);clear hl hm;go_enter Tryz.func154,Tryz.ntmps154;go_wp2_with fail;refine (f1.out _ (qK _ _)).mono ?_;rintro e w1 ⟨rfl,hb1⟩;have B1:=qH hb1;clear hb1;go_wp2_with fail;refine (f2.out _ B1.out).mono ?_;rintro e w2 ⟨rfl,hb2⟩;have B2:=zAf B1 hb2;clear hb2;go_wp2_with fail;refine (f3.out _ B2.out HV.out.1 HV.out.2).mono ?_;rintro e w3 ⟨u3,rfl,I3,hb3⟩;have B3:=zAf B2 hb3;obtain⟨a3,c3,rfl⟩:=I3.len;clear I3 hb3;by_cases hd:(sharedP l m).length=0
   ·have hd2:(((sharedP l m).length:Int) == 0)=true:=by rw [beq_iff_eq];omega
    have HD:=qH (decide_eq_true hd);clear hd;go_wp2;go_ret2;have HH:=HD.out;exact⟨by simp_all,B3.out⟩
   ·have hd2:(((sharedP l m).length:Int) == 0)=false:=by rw [beq_eq_false_iff_ne];omega
    have HD:=qH (decide_eq_false hd);clear hd;go_wp2;go_ret2;have HH:=HD.out;exact⟨by simp_all,B3.out⟩
noncomputable def touchB (l m:List Pt):Bool:=Zb l && Zb m && !decide ((sharedP l m).length=0)
theorem Z2A (vp:Value) (l:List Pt) (w:World) (hp:Z7 w.heap.size w vp l) :
  Calls Tryz.prog 106 #[vp] w fun e w'=>e=qR (.func (.func 153) #[] #[.pointer (some ⟨w.heap.size,0,none⟩)])/\w.alloc (qC #[vp] 23)=w':=by
 obtain⟨ap,capp,rfl⟩:=hp.len;go_enter Tryz.func106,Tryz.ntmps106;go_wp2;go_ret;exact⟨rfl,rfl⟩
theorem Z1U (Bc:Nat) (vp vq:Value) (l m:List Pt) (w:World) (hc:w.cell? ⟨Bc,0,none⟩=some vp) (hp:Z7 w.heap.size w vp l) (hq:Z7 w.heap.size w vq m) :
  Calls Tryz.prog 153 #[vq,.pointer (some ⟨Bc,0,none⟩)] w fun e w'=>e=qR (.bool (touchB l m))/\Below w.heap.size w w':=by
 have f1:=qH (Zaz vp vq l m w hp hq);have hR:touchB l m=(decide (bothE l m=0) && !apartB l m):=by
  unfold touchB bothE apartB;cases Zb l <;> cases Zb m <;> simp
 rw [hR];obtain⟨ap,capp,rfl⟩:=hp.len;obtain⟨aq,capq,rfl⟩:=hq.len;have hE:bothE l m=0\/bothE l m=1:=by unfold bothE;split <;> simp
 clear hp hq hR;generalize apartB l m=ab at *;generalize bothE l m=be at *;rcases hE with rfl | rfl
 all_goals
  go_enter Tryz.func153,Tryz.ntmps153;go_wp2_with fail;refine f1.out.mono ?_;rintro e w1 ⟨rfl,hb1⟩;go_wp2;go_ret;exact⟨by simp,hb1⟩
theorem Z67 (ax ay bx by':Int) (w:World) :
  Calls Tryz.prog 173 #[.agg #[O qL ax,O qL ay],.agg #[O qL bx,O qL by']] w fun e w'=>e=qR (O qL (cmpV ax ay bx by'))/\Below w.heap.size w w':=by
 go_enter Tryz.func173,Tryz.ntmps173;go_wp2
 go_region_held3 (fun w'=>w'.cell? ⟨w.heap.size,0,none⟩=some (O qL ax)/\w'.cell? ⟨w.heap.size,1,none⟩=some (O qL ay)/\w'.cell? ⟨w.heap.size+1,0,none⟩=some (O qL bx)/\w'.cell? ⟨w.heap.size+1,1,none⟩=some (O qL by'))
  (go_keep)
  (first | (go_at_call 158;refine (Z1n _ _ _).mono ?_;rintro e w' ⟨rfl,rfl⟩) | (go_at_call 157;refine Calls.mono (Z9f (w.heap.size+1+1) (cmpI ax bx) (cmpI ay by') _ ?c0 ?c1) ?_;(case c0=>simp [go_sem]);(case c1=>simp [go_sem]);rintro e w' ⟨rfl,rfl⟩))
 all_goals go_wp2
 go_ret;exact⟨rfl,zB2⟩
def minTo (l:List Pt):Nat->Pt
 | 0=>nth l 0
 | k+1=>if cmpP (nth l (k+1)) (minTo l k)<0 then nth l (k+1) else minTo l k
theorem Z6A (v : Value) (l : List Pt) (w : World) (hp : Z7 w.heap.size w v l) (h1 : 0 < l.length) :
  Calls Tryz.prog 175 #[v,.func (.func 173) #[] #[]] w fun e w'=>e=qR (.agg #[O qL (minTo l (l.length-1)).x,O qL (minTo l (l.length-1)).y])/\Below w.heap.size w w':=by
 obtain⟨hll,a,cap,rfl,hc⟩:=hp;obtain⟨b,o,rfl,hb,hc⟩:∃ b o,a=some ⟨b,o,none⟩/\b<w.heap.size/\∀ j,j<l.length->w.cell? ⟨b,o+j*2,none⟩=some (O qL (nth l j).x)/\w.cell? ⟨b,o+j*2+1,none⟩=some (O qL (nth l j).y):=by
  rcases hc with h | h
  ·rw [h] at h1;simp at h1
  ·exact h
 obtain⟨q0,q1⟩:=hc 0 h1;rw [Nat.zero_mul,Nat.add_zero] at q0 q1;have hA:=(qK w.heap.size w).alloc (qN _) (qC #[O qL 0,O qL 0] 36);have e0:=(hA.cell (p:=⟨b,o,none⟩) hb).trans q0;have e1:=(hA.cell (p:=⟨b,o+1,none⟩) hb).trans q1;have HC:=qH hc;have hm0:Hid (minTo l 0=⟨(nth l 0).x,(nth l 0).y⟩):=rfl;have d1:decide ((l.length:Int)<1)=false:=by simp;omega
 have i0:(0:Int)<l.length:=by omega
 have h4:=(Has.new w #[O qL 0,O qL 0] 36).below ((qK (w.heap.size+1) _).alloc (by simp) (qC #[O qL (nth l 0).x,O qL (nth l 0).y] 36)) (by omega)
 have h5:=Has.new (w.alloc (qC #[O qL 0,O qL 0] 36)) #[O qL (nth l 0).x,O qL (nth l 0).y] 36;rw [World.size_alloc] at h5;have hB:=hA.alloc hA.size (qC #[O qL (nth l 0).x,O qL (nth l 0).y] 36);have HS:=qH (qI h4 (qI h5 hB));clear hc q0 q1 h4 h5 hB hA;go_enter Tryz.func175,Tryz.ntmps175;go_wp2
 go_loopw [6] (fun i wr=>∃ k:Nat,k<l.length/\i=O qL ((k:Int)+1)/\Has wr w.heap.size #[O qL 0,O qL 0] 36/\Has wr (w.heap.size+1) #[O qL (minTo l k).x,O qL (minTo l k).y] 36/\Below w.heap.size w wr) (fun i _=>l.length+1-(intOf i).toNat)
 case atStart=>exact⟨0,h1,rfl,HS.out.1,HS.out.2.1,HS.out.2.2⟩
 case round =>
  obtain⟨k,hk,rfl,g4,g5,hB⟩:=hrel;have hzB:=hB.size;have l5:=g5.lt;by_cases hlt:k+1<l.length
  ·obtain⟨q0,q1⟩:=HC.out (k+1) hlt
   have f0:=(hB.cell (p:=⟨b,o+(k+1)*2,none⟩) hb).trans q0;have f1:=(hB.cell (p:=⟨b,o+(k+1)*2+1,none⟩) hb).trans q1;have hst:Hid (minTo l (k+1)=if cmpV (nth l (k+1)).x (nth l (k+1)).y (minTo l k).x (minTo l k).y<0 then ⟨(nth l (k+1)).x,(nth l (k+1)).y⟩ else ⟨(minTo l k).x,(minTo l k).y⟩):=rfl
   have hcm:=qH (fun w1=>Z67 (nth l (k+1)).x (nth l (k+1)).y (minTo l k).x (minTo l k).y w1)
   have dk:decide ((k:Int)+1<(l.length:Int))=true:=by simp;omega
   have kl:(k:Int)+1<l.length:=by omega
   have k0:(0:Int)<=(k:Int)+1:=by omega
   have kn:((k:Int)+1).toNat=k+1:=by omega
   have HG:=qH (qI g4 (qI g5 hB));generalize (nth l (k+1)).x=px at *;generalize (nth l (k+1)).y=py at *;generalize (minTo l k).x=mx at *;generalize (minTo l k).y=my at *;have m0:=Low.fact (g5.cell (i:=0) rfl:wr.cell? ⟨w.heap.size+1,0,none⟩=some (O qL mx));have m1:=Low.fact (g5.cell (i:=1) rfl:wr.cell? ⟨w.heap.size+1,1,none⟩=some (O qL my));have p0:=Low.fact f0;have p1:=Low.fact f1;clear q0 q1 g4 g5 hB;by_cases hcmp:cmpV px py mx my<0
   ·have dc:decide (cmpV px py mx my<0)=true:=by simpa using hcmp
    rw [if_pos hcmp] at hst;clear hcmp;go_wp2
    (refine Zh (by kernel_rfl) (by kernel_rfl) ?_;(iterate 8 (apply Zf;(case hw=>rfl);(case hval=>(intro w1 hw1;have hcx:=Low.cells hw1;simp only [Oper.quietAt];go_simp;first | done | (first | (go_at_call 173;exact Low.calls hw1 (hcm.out _))) | rfl | exact⟨rfl,rfl⟩));simp only [Act.put,zq4,zr4,zs4]));refine wpQuiet_nil ?_;intro w2 hw2)
    obtain⟨g4,g5,hB⟩:=HG.out;have G4:=g4.below hw2.out (by omega)
    have G5:=g5.below hw2.out (by omega)
    have B2:=hB.trans (hw2.out.mono (by omega))
    have x0:w2.cell? ⟨w.heap.size+1,0,none⟩=some (O qL mx):=G5.cell (i:=0) rfl;have x1:w2.cell? ⟨w.heap.size+1,1,none⟩=some (O qL my):=G5.cell (i:=1) rfl;have y0:=Ze G5 0;have y1:=Ze G5 1;have r0:=(hw2.out.cell (p:=⟨b,o+(k+1)*2,none⟩) (by show b<wr.heap.size;omega)).trans f0
    have r1:=(hw2.out.cell (p:=⟨b,o+(k+1)*2+1,none⟩) (by show b<wr.heap.size;omega)).trans f1
    have HZ:=qH (qI (((G4.other ⟨w.heap.size+1,0,none⟩ (O qL px) (by simp)).other ⟨w.heap.size+1,1,none⟩ (O qL py) (by simp))) (qI ((G5.set 0 (O qL px)).set 1 (O qL py)) ((B2.setCell (p:=⟨w.heap.size+1,0,none⟩) (by simp) (O qL px)).setCell (p:=⟨w.heap.size+1,1,none⟩) (by simp) (O qL py))))
    clear G4 G5 B2 g4 g5 hB hw2 m0 m1 p0 p1 f0 f1;go_wp2;go_roundw
    case rel=>exact⟨k+1,hlt,by go_num,HZ.out.1,by rw [hst.out];exact HZ.out.2.1,HZ.out.2.2⟩
    case measure=>simp [intOf];omega
   ·have dc:decide (cmpV px py mx my<0)=false:=by simpa using hcmp
    rw [if_neg hcmp] at hst;clear hcmp;go_wp2
    (refine Zh (by kernel_rfl) (by kernel_rfl) ?_;(iterate 8 (apply Zf;(case hw=>rfl);(case hval=>(intro w1 hw1;have hcx:=Low.cells hw1;simp only [Oper.quietAt];go_simp;first | done | (first | (go_at_call 173;exact Low.calls hw1 (hcm.out _))) | rfl | exact⟨rfl,rfl⟩));simp only [Act.put,zq4,zr4,zs4]));refine wpQuiet_nil ?_;intro w2 hw2)
    obtain⟨g4,g5,hB⟩:=HG.out;have HZ:=qH (qI (g4.below hw2.out (by omega)) (qI (g5.below hw2.out (by omega)) (hB.trans (hw2.out.mono (by omega)))))
    clear g4 g5 hB hw2 m0 m1 p0 p1 f0 f1;go_wp2;go_roundw
    case rel=>exact⟨k+1,hlt,by go_num,HZ.out.1,by rw [hst.out];exact HZ.out.2.1,HZ.out.2.2⟩
    case measure=>simp [intOf];omega
  ·obtain rfl:k=l.length-1:=by omega
   have dk:decide (((l.length-1:Nat):Int)+1<(l.length:Int))=false:=by simp;omega
   obtain⟨mx,hmx⟩:∃ mx,(minTo l (l.length-1)).x=mx:=⟨_,rfl⟩;obtain⟨my,hmy⟩:∃ my,(minTo l (l.length-1)).y=my:=⟨_,rfl⟩;rw [hmx,hmy] at g5;have HM:=qH (qI hmx hmy);clear hmx hmy;have m0:wr.cell? ⟨w.heap.size+1,0,none⟩=some (O qL mx):=g5.cell (i:=0) rfl;have m1:wr.cell? ⟨w.heap.size+1,1,none⟩=some (O qL my):=g5.cell (i:=1) rfl;have x0:wr.cell? ⟨w.heap.size,0,none⟩=some (O qL 0):=g4.cell (i:=0) rfl;have x1:wr.cell? ⟨w.heap.size,1,none⟩=some (O qL 0):=g4.cell (i:=1) rfl;have y0:=Ze g4 0;have y1:=Ze g4 1;have HZ:=(g4.set 0 (O qL mx)).set 1 (O qL my);have z0:((wr.setCell ⟨w.heap.size,0,none⟩ (O qL mx)).setCell ⟨w.heap.size,1,none⟩ (O qL my)).cell? ⟨w.heap.size,0,none⟩=some (O qL mx):=HZ.cell (i:=0) rfl;have z1:((wr.setCell ⟨w.heap.size,0,none⟩ (O qL mx)).setCell ⟨w.heap.size,1,none⟩ (O qL my)).cell? ⟨w.heap.size,1,none⟩=some (O qL my):=HZ.cell (i:=1) rfl;have BB:=qH ((hB.setCell (p:=⟨w.heap.size,0,none⟩) (by simp) (O qL mx)).setCell (p:=⟨w.heap.size,1,none⟩) (by simp) (O qL my))
   clear HZ g4 g5 hB;go_wp2;exact bodyPost_ret (v:=.agg #[O qL mx,O qL my]) (by simp [results,Tryz.f175,go_sem,z0,z1]) rfl ⟨by rw [HM.out.1,HM.out.2],BB.out⟩
noncomputable def comL (l m:List Pt) (i:Nat):List Pt:=if i=0 then cornersP l m else if i=1 then cornersP m l else cornersP (cornersP (crossP l m) l) m
noncomputable def comX (l m:List Pt):Option Pt:=if (comL l m 0).length≠0 then some (minTo (comL l m 0) ((comL l m 0).length-1)) else if (comL l m 1).length≠0 then some (minTo (comL l m 1) ((comL l m 1).length-1)) else if (comL l m 2).length≠0 then some (minTo (comL l m 2) ((comL l m 2).length-1)) else none
def optX (o:Option Pt):Int:=match o with | some p=>p.x | none=>0
def optY (o:Option Pt):Int:=match o with | some p=>p.y | none=>0
theorem Zal (vp vq:Value) (l m:List Pt) (w:World) (hp:Z7 w.heap.size w vp l) (hq:Z7 w.heap.size w vq m) (hE:(Zb l && Zb m)=false) :
  Calls Tryz.prog 163 #[vp,vq] w fun e w'=>e=qR (.tuple #[.agg #[O qL 0,O qL 0],.bool false,O qL 1])/\Below w.heap.size w w':=by
 have f1:=qH (fun w1 (B:Below w.heap.size w w1)=>Zp vp l w1 ((hp.below B).mono B.size))
 have f2:=qH (fun w1 (B:Below w.heap.size w w1)=>Zp vq m w1 ((hq.below B).mono B.size))
 obtain⟨ap,capp,rfl⟩:=hp.len;obtain⟨aq,capq,rfl⟩:=hq.len;have hA:=(qK w.heap.size w).alloc (qN _) (qC #[O qL 0,O qL 0] 36);have hN:=qH (Has.new w #[O qL 0,O qL 0] 36);have HA:=qH hA;have hs1:w.heap.size<(w.alloc (qC #[O qL 0,O qL 0] 36)).heap.size:=by simp
 clear hp hq hA;cases hl:Zb l
 ·rw [hl] at f1
  clear hl hE;go_enter Tryz.func163,Tryz.ntmps163;go_wp2_with fail;refine (f1.out _ HA.out).mono ?_;rintro e w1 ⟨rfl,hb1⟩;have g1:=hN.out.below hb1 hs1;have B1:=zAf HA hb1;have x0:w1.cell? ⟨w.heap.size,0,none⟩=some (O qL 0):=g1.cell (i:=0) rfl;have x1:w1.cell? ⟨w.heap.size,1,none⟩=some (O qL 0):=g1.cell (i:=1) rfl;have y0:=Ze g1 0;have y1:=Ze g1 1;have HZ:=(g1.set 0 (O qL 0)).set 1 (O qL 0);have z0:((w1.setCell ⟨w.heap.size,0,none⟩ (O qL 0)).setCell ⟨w.heap.size,1,none⟩ (O qL 0)).cell? ⟨w.heap.size,0,none⟩=some (O qL 0):=HZ.cell (i:=0) rfl;have z1:((w1.setCell ⟨w.heap.size,0,none⟩ (O qL 0)).setCell ⟨w.heap.size,1,none⟩ (O qL 0)).cell? ⟨w.heap.size,1,none⟩=some (O qL 0):=HZ.cell (i:=1) rfl;have BB:=qH ((B1.out.setCell (p:=⟨w.heap.size,0,none⟩) (by simp) (O qL 0)).setCell (p:=⟨w.heap.size,1,none⟩) (by simp) (O qL 0))
  clear hb1 HZ g1;go_wp2;exact bodyPost_ret (v:=.tuple #[.agg #[O qL 0,O qL 0],.bool false,O qL 1]) (by simp [results,Tryz.f163,go_sem,z0,z1]) rfl ⟨rfl,BB.out⟩
 ·rw [hl] at f1
  have hm:Zb m=false:=by rw [hl] at hE;simpa using hE
  rw [hm] at f2;clear hl hE hm;go_enter Tryz.func163,Tryz.ntmps163;go_wp2_with fail;refine (f1.out _ HA.out).mono ?_;rintro e w0 ⟨rfl,hb0⟩;have g0:=qH (hN.out.below hb0 hs1);have B0:=zAf HA hb0;have hs0:=g0.out.lt;clear hb0;go_wp2_with fail;refine (f2.out _ B0.out).mono ?_;rintro e w1 ⟨rfl,hb1⟩;have g1:=g0.out.below hb1 hs0;have B1:=zAf B0 hb1;have x0:w1.cell? ⟨w.heap.size,0,none⟩=some (O qL 0):=g1.cell (i:=0) rfl;have x1:w1.cell? ⟨w.heap.size,1,none⟩=some (O qL 0):=g1.cell (i:=1) rfl;have y0:=Ze g1 0;have y1:=Ze g1 1;have HZ:=(g1.set 0 (O qL 0)).set 1 (O qL 0);have z0:((w1.setCell ⟨w.heap.size,0,none⟩ (O qL 0)).setCell ⟨w.heap.size,1,none⟩ (O qL 0)).cell? ⟨w.heap.size,0,none⟩=some (O qL 0):=HZ.cell (i:=0) rfl;have z1:((w1.setCell ⟨w.heap.size,0,none⟩ (O qL 0)).setCell ⟨w.heap.size,1,none⟩ (O qL 0)).cell? ⟨w.heap.size,1,none⟩=some (O qL 0):=HZ.cell (i:=1) rfl;have BB:=qH ((B1.out.setCell (p:=⟨w.heap.size,0,none⟩) (by simp) (O qL 0)).setCell (p:=⟨w.heap.size,1,none⟩) (by simp) (O qL 0))
  clear hb1 HZ g1;go_wp2;exact bodyPost_ret (v:=.tuple #[.agg #[O qL 0,O qL 0],.bool false,O qL 1]) (by simp [results,Tryz.f163,go_sem,z0,z1]) rfl ⟨rfl,BB.out⟩
theorem ZcB (l m:List Pt):∀ k,k<3->rk [comL l m 0,comL l m 1,comL l m 2] k=comL l m k
 | 0,_=>rfl
 | 1,_=>rfl
 | 2,_=>rfl
theorem ZcA {l m:List Pt} {k:Nat} (hk:k<3) (h0:∀ j,j<k->(comL l m j).length=0) (h1:0<(comL l m k).length):comX l m=some (minTo (comL l m k) ((comL l m k).length-1)):=by
 unfold comX
 match k,hk with
 | 0,_=>rw [if_pos (by omega)]
 | 1, _ =>
  have a:=h0 0 (by omega)
  rw [if_neg (by omega),if_pos (by omega)]
 | 2, _ =>
  have a:=h0 0 (by omega)
  have b:=h0 1 (by omega)
  rw [if_neg (by omega),if_neg (by omega),if_pos (by omega)]
theorem Zam {l m:List Pt} (h0:∀ j,j<3->(comL l m j).length=0):comX l m=none:=by
 have a:=h0 0 (by omega)
 have b:=h0 1 (by omega)
 have c:=h0 2 (by omega)
 unfold comX;rw [if_neg (by omega),if_neg (by omega),if_neg (by omega)]
theorem Z8z (vp vq : Value) (l m : List Pt) (w : World) (hp : Z7 w.heap.size w vp l) (hq : Z7 w.heap.size w vq m) (hl : Zb l = true) (hm : Zb m = true) :
  Calls Tryz.prog 163 #[vp,vq] w fun e w'=>e=qR (.tuple #[.agg #[O qL (optX (comX l m)),O qL (optY (comX l m))],.bool (comX l m).isSome,O qL 0])/\Below w.heap.size w w':=by
 have GL:GoValid l:=by simpa [Zb] using hl
 have GM:GoValid m:=by simpa [Zb] using hm
 have l64:=GL.2.1;have m64:=GM.2.1;have clen:=Z4q l64 m64;have f1:=qH (fun w1 (B:Below w.heap.size w w1)=>hl ▸ Zp vp l w1 ((hp.below B).mono B.size))
 have f2:=qH (fun w1 (B:Below w.heap.size w w1)=>hm ▸ Zp vq m w1 ((hq.below B).mono B.size))
 have f3:=qH (fun w1 (B:Below w.heap.size w w1)=>Z0a vp vq l m w1 ((hp.below B).mono B.size) ((hq.below B).mono B.size) (by omega))
 have f4:=qH (fun w1 (B:Below w.heap.size w w1)=>Z0a vq vp m l w1 ((hq.below B).mono B.size) ((hp.below B).mono B.size) (by omega))
 have f5:=qH (fun w1 (B:Below w.heap.size w w1)=>Z2d vp vq l m w1 ((hp.below B).mono B.size) ((hq.below B).mono B.size) hl hm)
 have f6:=qH (fun u w1 (B:Below w.heap.size w w1) (h:Z7 w1.heap.size w1 u (crossP l m))=>Z0a u vp (crossP l m) l w1 h ((hp.below B).mono B.size) (by omega))
 have f7:=qH (fun u w1 (B:Below w.heap.size w w1) (h:Z7 w1.heap.size w1 u (cornersP (crossP l m) l))=>Z0a u vq (cornersP (crossP l m) l) m w1 h ((hq.below B).mono B.size) (by have:=Z1l (crossP l m) l;omega))
 obtain⟨ap,capp,rfl⟩:=hp.len;obtain⟨aq,capq,rfl⟩:=hq.len;have hA:=(qK w.heap.size w).alloc (qN _) (qC #[O qL 0,O qL 0] 36);have hN:=qH (Has.new w #[O qL 0,O qL 0] 36);have HA:=qH hA;have hs1:w.heap.size<(w.alloc (qC #[O qL 0,O qL 0] 36)).heap.size:=by simp
 clear hp hq hA hl hm GL GM;go_enter Tryz.func163,Tryz.ntmps163;go_wp2_with fail;refine (f1.out _ HA.out).mono ?_;rintro e w0 ⟨rfl,hb0⟩;have g0:=qH (hN.out.below hb0 hs1);have B0:=zAf HA hb0;have hs0:=g0.out.lt;clear hb0;go_wp2_with fail;refine (f2.out _ B0.out).mono ?_;rintro e w1 ⟨rfl,hb1⟩;have g1:=qH (g0.out.below hb1 hs0);have B1:=zAf B0 hb1;have hs1:=g1.out.lt;clear hb1;go_wp2_with fail;refine (f3.out _ B1.out).mono ?_;rintro e w2 ⟨u0,rfl,I0,hb2⟩;have g2:=qH (g1.out.below hb2 hs1);have B2:=zAf B1 hb2;have hs2:=g2.out.lt;have J0:=qH I0;obtain⟨a0,c0,rfl⟩:=I0.len;clear hb2 I0;go_wp2_with fail;refine (f4.out _ B2.out).mono ?_;rintro e w3 ⟨u1,rfl,I1,hb3⟩;have g3:=qH (g2.out.below hb3 hs2);have B3:=zAf B2 hb3;have hs3:=g3.out.lt;have K0:=qH ((J0.out.below hb3).mono hb3.size);have K1:=qH I1;obtain⟨a1,c1,rfl⟩:=I1.len;clear hb3 I1;go_wp2_with fail;refine (f5.out _ B3.out).mono ?_;rintro e w4 ⟨u2,rfl,I2,hb4⟩;have g4:=qH (g3.out.below hb4 hs3);have B4:=zAf B3 hb4;have hs4:=g4.out.lt;have L0:=qH ((K0.out.below hb4).mono hb4.size);have L1:=qH ((K1.out.below hb4).mono hb4.size);have L2:=qH I2;obtain⟨a2,c2,rfl⟩:=I2.len;clear hb4 I2;go_wp2_with fail;refine (f6.out _ _ B4.out L2.out).mono ?_;rintro e w5 ⟨u3,rfl,I3,hb5⟩;have g5:=qH (g4.out.below hb5 hs4);have B5:=zAf B4 hb5;have hs5:=g5.out.lt;have M0:=qH ((L0.out.below hb5).mono hb5.size);have M1:=qH ((L1.out.below hb5).mono hb5.size);have M3:=qH I3;obtain⟨a3,c3,rfl⟩:=I3.len;clear hb5 I3;go_wp2_with fail;refine (f7.out _ _ B5.out M3.out).mono ?_;rintro e w6 ⟨u4,rfl,I4,hb6⟩;have g6:=g5.out.below hb6 hs5;have B6:=B5.out.trans (hb6.mono B5.out.size);have hs6:=g6.lt;have N0:=(M0.out.below hb6).mono hb6.size;have N1:=(M1.out.below hb6).mono hb6.size;obtain⟨a4,c4,rfl⟩:=I4.len;have R:=Z3e N0 N1 I4;have hBR:=(qK w6.heap.size w6).alloc (qN _) (qC #[qS a0 (cornersP l m).length ((cornersP l m).length+c0),qS a1 (cornersP m l).length ((cornersP m l).length+c1),qS a4 (cornersP (cornersP (crossP l m) l) m).length ((cornersP (cornersP (crossP l m) l) m).length+c4)] 23);have g7:=qH (g6.below hBR hs6);have B7:=qH (B6.trans (hBR.mono B6.size));have hs7:w6.heap.size+1=(w6.alloc (qC #[qS a0 (cornersP l m).length ((cornersP l m).length+c0),qS a1 (cornersP m l).length ((cornersP m l).length+c1),qS a4 (cornersP (cornersP (crossP l m) l) m).length ((cornersP (cornersP (crossP l m) l) m).length+c4)] 23)).heap.size:=by simp
 change Z6 _ _ _ [comL l m 0,comL l m 1,comL l m 2] at R
 clear hb6 I4 g6 B6 N0 N1 hBR f1 f2 f3 f4 f5 f6 f7;obtain⟨W7,hW7⟩:∃ W7,w6.alloc (qC #[qS a0 (cornersP l m).length ((cornersP l m).length+c0),qS a1 (cornersP m l).length ((cornersP m l).length+c1),qS a4 (cornersP (cornersP (crossP l m) l) m).length ((cornersP (cornersP (crossP l m) l) m).length+c4)] 23)=W7:=⟨_,rfl⟩;rw [hW7] at R g7 B7 hs7;have HW7:=qH hW7;have HR:=qH R;have hs8:=g7.out.lt;clear R hW7;go_wp2;rw [HW7.out]
 go_loopw [34] (fun i wr=>∃ k:Nat,k<=3/\i=O qL (k:Int)/\(∀ j,j<k->(comL l m j).length=0)/\Below W7.heap.size W7 wr) (fun i _=>3-(intOf i).toNat)
 case atStart=>exact⟨0,by omega,rfl,fun j h=>by omega,qK _ _⟩
 case round =>
  obtain⟨k,hk,rfl,hall,hB⟩:=hrel;have G:=g7.out.below hB hs8;have BB:=B7.out.trans (hB.mono B7.out.size);have hzr:=hB.size;have HALL:=qH hall;clear hall;by_cases hlt:k<3
  ·obtain⟨u,hu,hpu⟩:∃ u,wr.cell? ⟨w6.heap.size,k,none⟩=some u/\Z7 wr.heap.size wr u (comL l m k):=by
    obtain⟨_,a,cap,e,h | ⟨b,o,e2,hb,hcc⟩⟩:=HR.out
    ·simp at h
    ·simp only [Value.slice.injEq] at e
     obtain⟨e3,_⟩:=e;rw [<- e3] at e2;simp only [Option.some.injEq,Addr.mk.injEq,and_true] at e2;obtain⟨rfl,rfl⟩:=e2;obtain⟨u,hu,hpu⟩:=hcc k (by simpa using hlt)
     rw [ZcB _ _ k hlt] at hpu;rw [hs7] at hpu;rw [Nat.zero_add] at hu;exact⟨u,(hB.cell (p:=⟨w6.heap.size,k,none⟩) (by show w6.heap.size<_;omega)).trans hu,(hpu.below hB).mono hB.size⟩
   obtain⟨au,cu,rfl⟩:=hpu.len;have dk:decide ((k:Int)<3)=true:=by simp;omega
   have kl:(k:Int)<3:=by omega
   have k0:(0:Int)<=k:=by omega
   have HB:=qH hB;have HBB:=qH BB;have HG:=qH G;have HP:=qH hpu;clear hB BB G hpu;by_cases hpos:0<(comL l m k).length
   ·have d1:decide (((comL l m k).length:Int)>0)=true:=by rw [decide_eq_true_eq];omega
    have hres:=qH (ZcA hlt HALL.out hpos);have hmf:=qH (Z6A _ _ _ HP.out hpos);generalize minTo (comL l m k) ((comL l m k).length-1)=mn at *;obtain⟨mx,my⟩:=mn;dsimp only at hmf;go_wp2_with fail;refine hmf.out.mono ?_;rintro e w8 ⟨rfl,hb8⟩;have G8:=HG.out.below hb8 HG.out.lt;have B8:=HBB.out.trans (hb8.mono HBB.out.size);have x0:w8.cell? ⟨w.heap.size,0,none⟩=some (O qL 0):=G8.cell (i:=0) rfl;have x1:w8.cell? ⟨w.heap.size,1,none⟩=some (O qL 0):=G8.cell (i:=1) rfl;have y0:=Ze G8 0;have y1:=Ze G8 1;have HZ:=(G8.set 0 (O qL mx)).set 1 (O qL my);have z0:((w8.setCell ⟨w.heap.size,0,none⟩ (O qL mx)).setCell ⟨w.heap.size,1,none⟩ (O qL my)).cell? ⟨w.heap.size,0,none⟩=some (O qL mx):=HZ.cell (i:=0) rfl;have z1:((w8.setCell ⟨w.heap.size,0,none⟩ (O qL mx)).setCell ⟨w.heap.size,1,none⟩ (O qL my)).cell? ⟨w.heap.size,1,none⟩=some (O qL my):=HZ.cell (i:=1) rfl;have BZ:=qH ((B8.setCell (p:=⟨w.heap.size,0,none⟩) (by simp) (O qL mx)).setCell (p:=⟨w.heap.size,1,none⟩) (by simp) (O qL my))
    clear hb8 HZ G8 B8;go_wp2;exact bodyPost_ret (v:=.tuple #[.agg #[O qL mx,O qL my],.bool true,O qL 0]) (by simp [results,Tryz.f163,go_sem,z0,z1]) rfl ⟨by rw [hres.out];rfl,BZ.out⟩
   ·have d1:decide (((comL l m k).length:Int)>0)=false:=by rw [decide_eq_false_iff_not];omega
    have hz0:(comL l m k).length=0:=by omega
    have HZ0:=qH hz0;have hnil:comL l m k=[]:=List.eq_nil_of_length_eq_zero hz0;have d2:decide (0<(comL l m k).length)=false:=by rw [decide_eq_false_iff_not];omega
    clear hz0;go_wp2;go_roundw
    case rel=>exact⟨k+1,by omega,by go_num,fun j hj=>(by
     by_cases e:j=k
     ·rw [e];exact HZ0.out
     ·exact HALL.out j (by omega)),HB.out⟩
    case measure=>simp [intOf];omega
  ·obtain rfl:k=3:=by omega
   have hres:=qH (Zam HALL.out);have x0:wr.cell? ⟨w.heap.size,0,none⟩=some (O qL 0):=G.cell (i:=0) rfl;have x1:wr.cell? ⟨w.heap.size,1,none⟩=some (O qL 0):=G.cell (i:=1) rfl;have y0:=Ze G 0;have y1:=Ze G 1;have HZ:=(G.set 0 (O qL 0)).set 1 (O qL 0);have z0:((wr.setCell ⟨w.heap.size,0,none⟩ (O qL 0)).setCell ⟨w.heap.size,1,none⟩ (O qL 0)).cell? ⟨w.heap.size,0,none⟩=some (O qL 0):=HZ.cell (i:=0) rfl;have z1:((wr.setCell ⟨w.heap.size,0,none⟩ (O qL 0)).setCell ⟨w.heap.size,1,none⟩ (O qL 0)).cell? ⟨w.heap.size,1,none⟩=some (O qL 0):=HZ.cell (i:=1) rfl;have BZ:=qH ((BB.setCell (p:=⟨w.heap.size,0,none⟩) (by simp) (O qL 0)).setCell (p:=⟨w.heap.size,1,none⟩) (by simp) (O qL 0))
   clear HZ G BB hB;go_wp2;exact bodyPost_ret (v:=.tuple #[.agg #[O qL 0,O qL 0],.bool false,O qL 0]) (by simp [results,Tryz.f163,go_sem,z0,z1]) rfl ⟨by rw [hres.out];rfl,BZ.out⟩
noncomputable def withinB (l m:List Pt):Bool:=Zb l && (Zb m && decide ((cornersP l m).length=l.length))
theorem Z2i (vp vq : Value) (l m : List Pt) (w : World) (hp : Z7 w.heap.size w vp l) (hq : Z7 w.heap.size w vq m) :
  Calls Tryz.prog 52 #[vp,vq] w fun e w'=>e=qR (.tuple #[.bool (withinB l m),O qL (bothE l m)])/\Below w.heap.size w w':=by
 have f1:=qH (fun w1 (B:Below w.heap.size w w1)=>Zp vp l w1 ((hp.below B).mono B.size))
 have f2:=qH (fun w1 (B:Below w.heap.size w w1)=>Zp vq m w1 ((hq.below B).mono B.size))
 have f3:=qH (fun w1 (B:Below w.heap.size w w1) hs=>Z0a vp vq l m w1 ((hp.below B).mono B.size) ((hq.below B).mono B.size) hs)
 obtain⟨ap,capp,rfl⟩:=hp.len;obtain⟨aq,capq,rfl⟩:=hq.len;unfold withinB bothE;clear hp hq;cases hl:Zb l
 ·rw [hl] at f1
  clear hl;go_enter Tryz.func52,Tryz.ntmps52;go_wp2_with fail;refine (f1.out _ (qK _ _)).mono ?_;rintro e w1 ⟨rfl,hb1⟩;have B1:=qH hb1;clear hb1;go_wp2;go_ret2;exact⟨rfl,B1.out⟩
 ·rw [hl] at f1
  cases hm:Zb m
  ·rw [hm] at f2
   clear hl hm;go_enter Tryz.func52,Tryz.ntmps52;go_wp2_with fail;refine (f1.out _ (qK _ _)).mono ?_;rintro e w1 ⟨rfl,hb1⟩;have B1:=qH hb1;clear hb1;go_wp2_with fail;refine (f2.out _ B1.out).mono ?_;rintro e w2 ⟨rfl,hb2⟩;have B2:=zAf B1 hb2;clear hb2;go_wp2;go_ret2;exact⟨rfl,B2.out⟩
  ·rw [hm] at f2
   have hs:l.length<=1000000:=by have V:GoValid l:=by { simpa [Zb] using hl };have:=V.2.1;omega
   replace f3:=qH (fun w1 B=>f3.out w1 B hs)
   have HV:=qH (qI hl hm);clear hl hm hs;go_enter Tryz.func52,Tryz.ntmps52;go_wp2_with fail;refine (f1.out _ (qK _ _)).mono ?_;rintro e w1 ⟨rfl,hb1⟩;have B1:=qH hb1;clear hb1;go_wp2_with fail;refine (f2.out _ B1.out).mono ?_;rintro e w2 ⟨rfl,hb2⟩;have B2:=zAf B1 hb2;clear hb2;go_wp2_with fail;refine (f3.out _ B2.out).mono ?_;rintro e w3 ⟨u3,rfl,I3,hb3⟩;have B3:=zAf B2 hb3;obtain⟨a3,c3,rfl⟩:=I3.len;clear I3 hb3;by_cases hd:(cornersP l m).length=l.length
   ·have d0:(((cornersP l m).length:Int) == (l.length:Int))=true:=by simp [hd]
    have HD:=qH (decide_eq_true hd);clear hd;go_wp2;go_ret2;have HH:=HD.out;exact⟨by simp_all,B3.out⟩
   ·have d0:(((cornersP l m).length:Int) == (l.length:Int))=false:=by rw [beq_eq_false_iff_ne];omega
    have HD:=qH (decide_eq_false hd);clear hd;go_wp2;go_ret2;have HH:=HD.out;exact⟨by simp_all,B3.out⟩
end
end Go.Proofs.YthipcinibldgnaaGreat
