/- slices.Concat of lists of points; package cut: shared, Apart. | A list of points appended to one of the call's own; points in a literal. | package .. -/
import Derived.Lib.AppendZeros
import Derived.Lib.SliceRun
import Derived.Laws.AppendOwnNone
import Derived.Test.YthipcinibldgnaaGreatBin14
open Go.Value renaming int->O,slice->qS
open Go.Ending renaming returned->qR
open Go.Obj renaming cells->qC
open Go.IntKind renaming i64->qL
open Go.Lib renaming hid->qH
open Go.RowKit.Below renaming refl->qK
open Nat renaming le_refl->qN
open And renaming intro->qI
set_option linter.unusedSimpArgs false
set_option maxRecDepth 8000
set_option maxHeartbeats 3000000
namespace Go.Proofs.YthipcinibldgnaaGreat
section
attribute [local irreducible] wpQuiet
open Go.RowKit
theorem ZbT (n:Nat) (hn:n<=1000000) (w:World):Calls Tryz.prog 168 #[qS none 0 0,O qL (n:Int)] w fun e w'=>∃ v,e=qR v/\w'.ownsRow w.heap.size 36 2 v 0 []/\Below w.heap.size w w':=by
 have u:decide ((n:Int)<0)=false:=by simp
 have s:IntKind.i64.wrap ((n:Int)-0)=(n:Int):=by rw [Int.sub_zero];exact zW2
 by_cases h0:n=0
 ·subst h0
  go_enter Tryz.func168,Tryz.ntmps168;go_wp2;go_ret;exact⟨_,rfl,World.ownsRow_nil _ _ _ _,qK _ _⟩
 ·obtain⟨r,q,g,b,c⟩:=info_parts ptInfo
  have t:decide ((n:Int)>0)=true:=by simp;omega
  have f:=fun ty=>Lib.run_append_nil_zeros (P:=Tryz.prog) w 23 3 ty 36 r (.agg #[.int .i64 0,.int .i64 0]) .i64 .i64 Tryz.underlying23 Tryz.underlying3 q g n (by omega) (by rw [b];omega) (by omega) (by rw [c];omega)
  have l:=grownCap_le_maxLen w n 0 36 (by unfold maxLen;omega)
  have k:=grownCap_ge w n 0 36;obtain⟨G,j⟩:∃ G,G=grownCap w n 0 36:=⟨_,rfl⟩;rw [<- j] at f l k;have p:Builtin.zeroCells (Value.cells (.agg #[O qL 0,O qL 0])) n++Builtin.zeroCells (Value.cells (.agg #[O qL 0,O qL 0])) (G-n)=Builtin.zeroCells (Value.cells (.agg #[O qL 0,O qL 0])) n++Builtin.zeroCells (Value.cells (.agg #[O qL 0,O qL 0])) (G-n):=rfl;have d:(Builtin.zeroCells (Value.cells (.agg #[O qL 0,O qL 0])) n++Builtin.zeroCells (Value.cells (.agg #[O qL 0,O qL 0])) (G-n)).size=G*2:=by
   simp [Builtin.zeroCells,Value.cells];omega
  have a:=World.ownsRow_made (e:=36) (size:=2) (base:=w.heap.size) w.drew (Builtin.zeroCells (Value.cells (.agg #[O qL 0,O qL 0])) n++Builtin.zeroCells (Value.cells (.agg #[O qL 0,O qL 0])) (G-n)) G (qN _) l d;have m:=((qK w.heap.size w).drew).alloc (qN _) (qC (Builtin.zeroCells (Value.cells (.agg #[O qL 0,O qL 0])) n++Builtin.zeroCells (Value.cells (.agg #[O qL 0,O qL 0])) (G-n)) 36);generalize Builtin.zeroCells (Value.cells (.agg #[O qL 0,O qL 0])) n++Builtin.zeroCells (Value.cells (.agg #[O qL 0,O qL 0])) (G-n)=zz at *;have o:=qH (qI a m);clear a m p d j;unfold maxLen at l;go_enter Tryz.func168,Tryz.ntmps168;go_wp2_with (at_builtin;refine Lib.wpList_append_run _ rfl _ _ _ _ rfl _ _ rfl rfl _ _ (f _) ?_)
  all_goals (go_ret;exact⟨_,rfl,o.out.1,o.out.2⟩)
theorem Z4V {P:Program} {w:World} (base:Nat) (t ty e:TypeId) (i:TypeInfo) (size:Nat) (ht:P.underlying t=some (.slice e)) (hi:P.info? e=some i)
  (v:Value) (n:Nat) (xs:List Value) (hown:w.ownsRow base e size v n xs) (c:Nat):(Builtin.append_ #[t,t] ty #[v,qS none 0 c]).run P w=.ok v w:=by
 rcases hown.2 with⟨rfl,rfl⟩ | ⟨g,d,b,rfl,_,_,a,_⟩
 ·simp [Builtin.append_,run_underlying ht,sizeOf,typeInfo,hi,Builtin.lenOf,Builtin.firstCells]
 ·simp [Builtin.append_,run_underlying ht,sizeOf,typeInfo,hi,Builtin.lenOf,Builtin.firstCells,a,storeCells]
theorem Z1g {P:Program} {w:World} {ops:Array Oper} {rest:List Oper} {o:Oper} {a:Act} {Q:Exit->Act->World->Prop} (hgd:o.guard=none) (s x:Operand) (t:TypeId)
  (ho:o.op=.call { callee:=.builtin .append,args:=#[s,x],argTypes:=#[t,t] })
  (base:Nat) (e:TypeId) (i:TypeInfo) (size:Nat) (ht:P.underlying t=some (.slice e)) (hi:P.info? e=some i)
  (v:Value) (n:Nat) (xs:List Value) (hs:a.eval s=v) (hown:w.ownsRow base e size v n xs) (c:Nat) (hx:a.eval x=qS none 0 c)
  (h:wpList P ops Q rest (a.put o.dst v) w):wpList P ops Q (o::rest) a w:=by
 refine wpList_plain hgd fun K hK=>?_
 have b:=Z4V (P:=P) (w:=w) base t o.type e i size ht hi v n xs hown c;unfold Oper.wp;simp [execOp,ho,resolve,invoke,builtin,hs,hx,b,Result.andThen];exact hK _ _ h
def sumTo (ls:List (List Pt)):Nat->Nat
 | 0=>0
 | k+1=>sumTo ls k+(rk ls k).length
def catTo (ls:List (List Pt)):Nat->List Pt
 | 0=>[]
 | k+1=>catTo ls k++rk ls k
theorem Z42 (ls:List (List Pt)):∀ k,(catTo ls k).length=sumTo ls k
 | 0=>rfl
 | k+1=>by simp [catTo,sumTo,Z42 ls k]
theorem Z7n (ls:List (List Pt)) {N:Nat} (h:∀ j,(rk ls j).length<=N):∀ k,sumTo ls k<=k*N
 | 0=>by simp [sumTo]
 | k + 1 => by
  have:=Z7n ls h k;have:=h k;simp only [sumTo,Nat.add_mul];omega
theorem Z4I (v : Value) (ls : List (List Pt)) (w : World) (hr : Z6 w.heap.size w v ls) (hl : ls.length <= 10) (hn : ∀ j, (rk ls j).length <= 20000) :
  Calls Tryz.prog 151 #[v] w (PtsQ (catTo ls ls.length) w):=by
 obtain⟨_,a,cap,rfl,Y⟩:=hr;have U:=qH Y;have X:=qH hn;obtain⟨W,hi,A,D,y⟩:=info_parts ptInfo;have hs:=fun k=>Z7n ls hn k
 have HS:=qH hs;clear Y hn hs;go_enter Tryz.func151,Tryz.ntmps151;go_wp2
 go_loopw [3,11] (fun s i wr=>∃ k:Nat,k<=ls.length/\i=O qL (k:Int)/\s=O qL (sumTo ls k:Int)/\Below w.heap.size w wr) (fun _ i _=>ls.length-(intOf i).toNat)
 case atStart=>exact⟨0,by omega,rfl,rfl,qK _ _⟩
 case round =>
  obtain⟨k,hk,rfl,rfl,r⟩:=hrel;have hzB:=r.size;have hsk:=HS.out k;by_cases hlt:k<ls.length
  ·obtain⟨b,o,rfl,L,d⟩:∃ b o,a=some ⟨b,o,none⟩/\b<w.heap.size/\∀ j,j<ls.length->∃ u,w.cell? ⟨b,o+j,none⟩=some u/\Z7 w.heap.size w u (rk ls j):=by
    rcases U.out with h | h
    ·rw [h] at hlt;simp at hlt
    ·exact h
   obtain⟨u,q,f⟩:=d k hlt;obtain⟨Z,H,rfl⟩:=f.len;have I:=cY r q L;have C:=X.out k;have P:Hid ((sumTo ls (k+1):Int)=(sumTo ls k:Int)+((rk ls k).length:Int)):=by show _=_;simp [sumTo]
   have dk:decide ((k:Int)<(ls.length:Int))=true:=by simp;omega
   have kl:(k:Int)<ls.length:=by omega
   have k0:(0:Int)<=k:=by omega
   have m1:IntKind.i64.wrap ((sumTo ls k:Int)+((rk ls k).length:Int))=(sumTo ls k:Int)+((rk ls k).length:Int):=zW2;have d1:decide ((sumTo ls k:Int)+((rk ls k).length:Int)<0)=false:=by simp;omega
   have g:=qH r;clear d q f r;generalize (sumTo ls k:Int)=S at *;go_wp2;go_roundw
   case rel=>exact⟨k+1,by omega,by go_num,by rw [P.out],g.out⟩
   case measure=>simp [intOf];omega
  ·obtain rfl:k=ls.length:=by omega
   have dk:decide ((ls.length:Int)<(ls.length:Int))=false:=by simp
   have hg:=qH (ZbT (sumTo ls ls.length) (by omega) wr)
   have g:=qH r;clear r;obtain⟨m,rfl⟩:∃ x,x=wr:=⟨_,rfl⟩;go_wp2_with fail;refine hg.out.mono ?_;rintro e w2 ⟨vg,rfl,n,F⟩;have HO:=qH n;have H2:=qH F;clear n F;go_wp2
   go_loopw [6,27] (fun v i wr=>∃ k:Nat,k<=ls.length/\i=O qL (k:Int)/\wr.ownsRow m.heap.size 36 2 v (catTo ls k).length (Za (catTo ls k))/\Below m.heap.size m wr) (fun _ i _=>ls.length-(intOf i).toNat)
   case atStart=>exact⟨0,by omega,rfl,HO.out,H2.out⟩
   case round =>
    obtain⟨k,hk2,rfl,c,E⟩:=hrel;have R:=E.size;have B:=g.out.trans (E.mono g.out.size);by_cases hlt2:k<ls.length
    ·obtain⟨b,o,rfl,L,d⟩:∃ b o,a=some ⟨b,o,none⟩/\b<w.heap.size/\∀ j,j<ls.length->∃ u,w.cell? ⟨b,o+j,none⟩=some u/\Z7 w.heap.size w u (rk ls j):=by
      rcases U.out with h | h
      ·rw [h] at hlt2;simp at hlt2
      ·exact h
     obtain⟨u,q,f⟩:=d k hlt2;have K:=f.below B;have I:=cY B q L;have C:=X.out k;have N:=Z42 ls k;have aa:=HS.out k;have T:decide ((k:Int)<(ls.length:Int))=true:=by simp;omega
     have kl:(k:Int)<ls.length:=by omega
     have k0:(0:Int)<=k:=by omega
     have G:=qH E;have t:=qH c;obtain⟨_,Z,H,rfl,l⟩:=K;have ab:m.heap.size<=wr.heap.size:=R;have p:=qH l;clear d q f E c l B;rcases Z with _ | ⟨V,ou,M⟩
     ·have J:rk ls k=[]:=by
       rcases p.out with h | ⟨_,_,h,_⟩
       ·exact h
       ·cases h
      have z:Hid (catTo ls (k+1)=catTo ls k):=by show catTo ls k++rk ls k=_;rw [J,List.append_nil]
      rw [J] at I C;have e0':wr.cell? ⟨b,o+k,none⟩=some (qS none 0 H):=by simpa using I
      have HR':=t.out;clear I p J;go_wp2_with (at_builtin;refine Z1g rfl _ _ 23 rfl m.heap.size 36 W 2 Tryz.underlying23 hi _ _ _ rfl t.out H rfl ?_)
      go_roundw
      case rel=>exact⟨k+1,by omega,by go_num,by rw [z.out];exact t.out,G.out⟩
      case measure=>simp [intOf];omega
     ·obtain⟨hsu,l⟩:(rk ls k=[]\/M=none)/\(∀ j u,(Za (rk ls k))[j]?=some u->wr.cell? ((⟨V,ou,M⟩:Addr).add j)=some u):=by
       rcases p.out with h | ⟨b',o',h,_,h2⟩
       ·rw [h];exact⟨.inl rfl,fun j u q=>by simp [Za] at q⟩
       ·cases h
        exact⟨.inr rfl,Z7v h2⟩
      go_wp2_with (at_builtin;refine wpList_append_own _ rfl _ _ 23 rfl m.heap.size 36 W (.agg #[.int .i64 0,.int .i64 0]) 2 16 Tryz.underlying23 hi A D y rfl (by decide) _ _ _ rfl t.out ⟨V,ou,M⟩ (rk ls k).length ((rk ls k).length+H) (Za (rk ls k)) rfl (Zy _) l (Z17 _) (by unfold maxLen;omega) (by omega) (by omega) ?_;intro v' w4 hown' hgrow _)
      go_roundw
      case rel =>
       have Q:Below m.heap.size wr w4:=(qK m.heap.size wr).grown hgrow (by omega) (fun j ej=>(t.out.lt j ej).1)
       refine⟨k+1,by omega,by go_num,?_,G.out.trans Q⟩
       simp only [catTo,List.length_append,ZV];exact hown'
      case measure=>simp [intOf];omega
    ·obtain rfl:k=ls.length:=by omega
     have T:decide ((ls.length:Int)<(ls.length:Int))=false:=by simp
     have N:=Z42 ls ls.length;have HI:=qH (Z7.own c (by omega))
     have G:=qH B;clear c E B;go_wp2;go_ret;exact⟨_,rfl,HI.out,G.out⟩
end
section
open Go.RowKit
theorem Z2r {w : World} {ops : Array Oper} {rest : List Oper} {o : Oper} {a : Act} {Q : Exit -> Act -> World -> Prop} (hgd : o.guard = none) (s x : Operand)
  (ho:o.op=.call { callee:=.builtin .append,args:=#[s,x],argTypes:=#[23,23] })
  (base:Nat) (v:Value) (n:Nat) (xs:List Value) (hs:a.eval s=v) (hown:w.ownsRow base 36 2 v n xs)
  (vx:Value) (l:List Pt) (hx:a.eval x=vx) (hp:Z7 w.heap.size w vx l) (h63:n+l.length<=1000000) (hbase:base<=w.heap.size)
  (h:∀ v' w',w'.ownsRow base 36 2 v' (n+l.length) (xs++Za l)->w.grownBy w' v.ownBlock->(v'.ownBlock=v.ownBlock\/v'.ownBlock=some w.heap.size)->wpList Tryz.prog ops Q rest (a.put o.dst v') w') :
  wpList Tryz.prog ops Q (o::rest) a w:=by
 obtain⟨m,q,c,d,e⟩:=info_parts ptInfo;obtain⟨_,y,p,rfl,b⟩:=hp;rcases y with _ | ⟨k,r,f⟩
 ·have z:l=[]:=by
   rcases b with h | ⟨_,_,h,_⟩
   ·exact h
   ·cases h
  subst z;refine Z1g hgd s x 23 ho base 36 m 2 Tryz.underlying23 q v n xs hs hown p (by simpa using hx) ?_
  exact h v w (by simpa [Za] using hown) ⟨rfl,rfl,rfl,qN _,fun _ _ _=>rfl⟩ (.inl rfl)
 ·obtain⟨t,b⟩:(l=[]\/f=none)/\(∀ j u,(Za l)[j]?=some u->w.cell? ((⟨k,r,f⟩:Addr).add j)=some u):=by
   rcases b with h | ⟨B,A,h,_,g⟩
   ·rw [h];exact⟨.inl rfl,fun j u hu=>by simp [Za] at hu⟩
   ·cases h
    exact⟨.inr rfl,Z7v g⟩
  exact wpList_append_own_at w hgd s x 23 ho base 36 m (.agg #[.int .i64 0,.int .i64 0]) 2 16 Tryz.underlying23 q c d e rfl (by decide) v n xs hs hown ⟨k,r,f⟩ l.length (l.length+p) (Za l) hx (Zy _) b (Z17 _) (by unfold maxLen;omega) (by omega) hbase
   fun v' w' h1 g _ h4=>h v' w' h1 g h4
theorem Z6r {w w':World} {base n:Nat} {t:TypeId} {size:Nat} {v:Value} {xs:List Value} (hown:w.ownsRow base t size v n xs) (hg:w.grownBy w' v.ownBlock) {b0:Nat} (h0:b0<=base) (hb:b0<=w.heap.size):Below b0 w w' :=
 (qK b0 w).grown hg hb fun j ej=>Nat.le_trans h0 (hown.lt j ej).1
theorem ZcK {W:World} {B:Nat} {l:List Pt} (h:Has W B (Za l).toArray 36) (hl:l.length<=1000):Z7 W.heap.size W (qS (some ⟨B,0,none⟩) l.length l.length) l:=by
 refine⟨by omega,some ⟨B,0,none⟩,0,rfl,.inr ⟨B,0,rfl,h.lt,fun j hj=>?_⟩⟩
 obtain⟨b,a⟩:=Z0e l j hj;rw [Nat.zero_add];exact⟨h.cell (i:=j*2) (by simpa using b),h.cell (i:=j*2+1) (by simpa using a)⟩
end
section
attribute [local irreducible] wpQuiet
open Go.RowKit
noncomputable def sharedP (l m:List Pt):List Pt:=cornersP l m++cornersP m l++crossP l m
theorem Z8j (l m:List Pt):catTo [cornersP l m,cornersP m l,crossP l m] 3=sharedP l m:=by simp [catTo,rk,sharedP]
theorem Z4m (l:List Pt):(sidesL l).length=l.length:=by simp [sidesL,upto]
theorem Z4G {l m:List Pt} (hl:l.length<=64) (hm:m.length<=64):(crossP l m).length<=16384:=by
 have h:=Z1L (sidesL m) (sidesL l);rw [Z4m,Z4m] at h;have:4*m.length*l.length<=256*64:=Nat.mul_le_mul (show 4*m.length<=256 by omega) hl
 unfold crossP;omega
theorem Z1y (l m:List Pt):(cornersP l m).length<=l.length:=Z0m l m l.length
theorem Z3u {W:World} {u0 u1 u2:Value} {l0 l1 l2:List Pt} (h0:Z7 W.heap.size W u0 l0) (h1:Z7 W.heap.size W u1 l1) (h2:Z7 W.heap.size W u2 l2) :
  Z6 (W.heap.size+1) (W.alloc (qC #[u0,u1,u2] 23)) (qS (some ⟨W.heap.size,0,none⟩) 3 3) [l0,l1,l2]:=by
 have a:=(qK W.heap.size W).alloc (qN _) (qC #[u0,u1,u2] 23);have b:=Has.new W #[u0,u1,u2] 23;refine⟨by simp,_,0,rfl,.inr ⟨W.heap.size,0,rfl,by omega,fun j hj=>?_⟩⟩
 match j,hj with
 | 0,_=>exact⟨u0,cX 0 b rfl,(h0.below a).mono (by omega)⟩
 | 1,_=>exact⟨u1,cX 1 b rfl,(h1.below a).mono (by omega)⟩
 | 2,_=>exact⟨u2,cX 2 b rfl,(h2.below a).mono (by omega)⟩
theorem Z8k (vp vq:Value) (l m:List Pt) (w:World) (hp:Z7 w.heap.size w vp l) (hq:Z7 w.heap.size w vq m) (hl:Zb l=true) (hm:Zb m=true) :
  Calls Tryz.prog 169 #[vp,vq] w (PtsQ (sharedP l m) w):=by
 have I:GoValid l:=by simpa [Zb] using hl
 have N:GoValid m:=by simpa [Zb] using hm
 have n:=I.2.1;have o:=N.2.1;have H:=fun b (B:Below w.heap.size w b)=>Z0f vp vq l m b ((hp.below B).mono B.size) ((hq.below B).mono B.size) (by omega)
 have G:=fun b (B:Below w.heap.size w b)=>Z0f vq vp m l b ((hq.below B).mono B.size) ((hp.below B).mono B.size) (by omega)
 have t:=fun b (B:Below w.heap.size w b)=>Z2m vp vq l m b ((hp.below B).mono B.size) ((hq.below B).mono B.size) hl hm
 have d:∀ j,(rk [cornersP l m,cornersP m l,crossP l m] j).length<=20000:=by
  intro j;have u:=Z1y l m;have L:=Z1y m l;have s:=Z4G n o
  match j with
  | 0=>show (cornersP l m).length<=_;omega
  | 1=>show (cornersP m l).length<=_;omega
  | 2=>show (crossP l m).length<=_;omega
  | j+3=>simp [rk]
 have x:=fun v b (h:Z6 b.heap.size b v [cornersP l m,cornersP m l,crossP l m])=>Z4I v _ b h (by simp) d
 have k:=qH (qI H (qI G (qI t x)));obtain⟨ap,P,rfl⟩:=hp.len;obtain⟨aq,A,rfl⟩:=hq.len;clear I N H G t x hp hq d;go_enter Tryz.func169,Tryz.ntmps169;go_wp2_with fail;refine (k.out.1 _ (qK _ _)).mono ?_;rintro e b ⟨u1,rfl,C,g⟩;have K:=qH g;have r:=qH C;clear C g;obtain⟨u,V,rfl⟩:=r.out.len;go_wp2_with fail;refine (k.out.2.1 _ K.out).mono ?_;rintro e w2 ⟨Z,rfl,D,c⟩;have M:=zAd K c;have W:=qH ((r.out.below c).mono c.size);have F:=qH D;clear D c;obtain⟨L,X,rfl⟩:=F.out.len;go_wp2_with fail;refine (k.out.2.2.1 _ M.out).mono ?_;rintro e w3 ⟨u3,rfl,J,a⟩;have E:=zAd M a;have z:=(W.out.below a).mono a.size;have y:=(F.out.below a).mono a.size;have q:=J;obtain⟨s,U,rfl⟩:=q.len;have R:=qH (Z3u z y q);have S:=qH (E.out.alloc E.out.size (qC #[qS u (cornersP l m).length ((cornersP l m).length+V),qS L (cornersP m l).length ((cornersP m l).length+X),qS s (crossP l m).length ((crossP l m).length+U)] 23));clear J a z y q;go_wp2_with fail;refine (k.out.2.2.2 _ _ (by simpa using R.out)).mono ?_
 rintro e Y ⟨u5,rfl,p,f⟩;rw [show ([cornersP l m,cornersP m l,crossP l m]:List (List Pt)).length=3 from rfl,Z8j] at p
 have Q:=qH p;have T:=zAd S f;clear p f;go_wp2;go_ret;exact⟨_,rfl,Q.out,T.out⟩
noncomputable def apartB (l m:List Pt):Bool:=Zb l && Zb m && decide ((sharedP l m).length=0)
noncomputable def bothE (l m:List Pt):Int:=if (Zb l && Zb m)=true then 0 else 1
theorem Zb7 (vp vq : Value) (l m : List Pt) (w : World) (hp : Z7 w.heap.size w vp l) (hq : Z7 w.heap.size w vq m) :
  Calls Tryz.prog 154 #[vp,vq] w fun e w'=>e=qR (.tuple #[.bool (apartB l m),O qL (bothE l m)])/\Below w.heap.size w w':=by
 have g:=qH (fun b (B:Below w.heap.size w b)=>Zs vp l b ((hp.below B).mono B.size))
 have j:=qH (fun b (B:Below w.heap.size w b)=>Zs vq m b ((hq.below B).mono B.size))
 have u:=qH (fun b (B:Below w.heap.size w b)=>Z8k vp vq l m b ((hp.below B).mono B.size) ((hq.below B).mono B.size))
 obtain⟨E,r,rfl⟩:=hp.len;obtain⟨C,t,rfl⟩:=hq.len;unfold apartB bothE;clear hp hq;cases hl:Zb l
 ·rw [hl] at g
  clear hl;go_enter Tryz.func154,Tryz.ntmps154;go_wp2_with fail;refine (g.out _ (qK _ _)).mono ?_;rintro e b ⟨rfl,a⟩;have d:=qH a;clear a;go_wp2;go_ret2;exact⟨rfl,d.out⟩
 ·rw [hl] at g
  cases hm:Zb m
  ·rw [hm] at j
   clear hl hm;go_enter Tryz.func154,Tryz.ntmps154;go_wp2_with fail;refine (g.out _ (qK _ _)).mono ?_;rintro e b ⟨rfl,a⟩;have d:=qH a;clear a;go_wp2_with fail;refine (j.out _ d.out).mono ?_;rintro e x ⟨rfl,c⟩;have k:=zAd d c;clear c;go_wp2;go_ret2;exact⟨rfl,k.out⟩
  ·rw [hm] at j
   have s:=qH (qI hl hm);clear hl hm;go_enter Tryz.func154,Tryz.ntmps154;go_wp2_with fail;refine (g.out _ (qK _ _)).mono ?_;rintro e b ⟨rfl,a⟩;have d:=qH a;clear a;go_wp2_with fail;refine (j.out _ d.out).mono ?_;rintro e x ⟨rfl,c⟩;have k:=zAd d c;clear c;go_wp2_with fail;refine (u.out _ k.out s.out.1 s.out.2).mono ?_;rintro e D ⟨y,rfl,q,f⟩;have p:=zAd k f;obtain⟨z,A,rfl⟩:=q.len;clear q f;by_cases hd:(sharedP l m).length=0
   ·have o:(((sharedP l m).length:Int) == 0)=true:=by rw [beq_iff_eq];omega
    have n:=qH (decide_eq_true hd);clear hd;go_wp2;go_ret2;have v:=n.out;exact⟨by simp_all,p.out⟩
   ·have o:(((sharedP l m).length:Int) == 0)=false:=by rw [beq_eq_false_iff_ne];omega
    have n:=qH (decide_eq_false hd);clear hd;go_wp2;go_ret2;have v:=n.out;exact⟨by simp_all,p.out⟩
noncomputable def touchB (l m:List Pt):Bool:=Zb l && Zb m && !decide ((sharedP l m).length=0)
theorem Z2N (vp:Value) (l:List Pt) (w:World) (hp:Z7 w.heap.size w vp l) :
  Calls Tryz.prog 106 #[vp] w fun e w'=>e=qR (.func (.func 153) #[] #[.pointer (some ⟨w.heap.size,0,none⟩)])/\w.alloc (qC #[vp] 23)=w':=by
 obtain⟨b,a,rfl⟩:=hp.len;go_enter Tryz.func106,Tryz.ntmps106;go_wp2;go_ret;exact⟨rfl,rfl⟩
theorem Z23 (Bc:Nat) (vp vq:Value) (l m:List Pt) (w:World) (hc:w.cell? ⟨Bc,0,none⟩=some vp) (hp:Z7 w.heap.size w vp l) (hq:Z7 w.heap.size w vq m) :
  Calls Tryz.prog 153 #[vq,.pointer (some ⟨Bc,0,none⟩)] w fun e w'=>e=qR (.bool (touchB l m))/\Below w.heap.size w w':=by
 have f:=qH (Zb7 vp vq l m w hp hq);have b:touchB l m=(decide (bothE l m=0) && !apartB l m):=by
  unfold touchB bothE apartB;cases Zb l <;> cases Zb m <;> simp
 rw [b];obtain⟨n,d,rfl⟩:=hp.len;obtain⟨j,c,rfl⟩:=hq.len;have g:bothE l m=0\/bothE l m=1:=by unfold bothE;split <;> simp
 clear hp hq b;generalize apartB l m=ab at *;generalize bothE l m=be at *;rcases g with rfl | rfl
 all_goals
  go_enter Tryz.func153,Tryz.ntmps153;go_wp2_with fail;refine f.out.mono ?_;rintro e k ⟨rfl,a⟩;go_wp2;go_ret;exact⟨by simp,a⟩
theorem Z6m (ax ay bx by':Int) (w:World) :
  Calls Tryz.prog 173 #[.agg #[O qL ax,O qL ay],.agg #[O qL bx,O qL by']] w fun e w'=>e=qR (O qL (cmpV ax ay bx by'))/\Below w.heap.size w w':=by
 go_enter Tryz.func173,Tryz.ntmps173;go_wp2
 go_region_held3 (fun w'=>w'.cell? ⟨w.heap.size,0,none⟩=some (O qL ax)/\w'.cell? ⟨w.heap.size,1,none⟩=some (O qL ay)/\w'.cell? ⟨w.heap.size+1,0,none⟩=some (O qL bx)/\w'.cell? ⟨w.heap.size+1,1,none⟩=some (O qL by'))
  (go_keep)
  (first | (go_at_call 158;refine (Z1z _ _ _).mono ?_;rintro e w' ⟨rfl,rfl⟩) | (go_at_call 157;refine Calls.mono (Z9I (w.heap.size+1+1) (cmpI ax bx) (cmpI ay by') _ ?c0 ?c1) ?_;(case c0=>simp [go_sem]);(case c1=>simp [go_sem]);rintro e w' ⟨rfl,rfl⟩))
 all_goals go_wp2
 go_ret;exact⟨rfl,zB2⟩
def minTo (l:List Pt):Nat->Pt
 | 0=>nth l 0
 | k+1=>if cmpP (nth l (k+1)) (minTo l k)<0 then nth l (k+1) else minTo l k
theorem Z6Q (v : Value) (l : List Pt) (w : World) (hp : Z7 w.heap.size w v l) (h1 : 0 < l.length) :
  Calls Tryz.prog 175 #[v,.func (.func 173) #[] #[]] w fun e w'=>e=qR (.agg #[O qL (minTo l (l.length-1)).x,O qL (minTo l (l.length-1)).y])/\Below w.heap.size w w':=by
 obtain⟨X,a,Y,rfl,A⟩:=hp;obtain⟨b,o,rfl,D,A⟩:∃ b o,a=some ⟨b,o,none⟩/\b<w.heap.size/\∀ j,j<l.length->w.cell? ⟨b,o+j*2,none⟩=some (O qL (nth l j).x)/\w.cell? ⟨b,o+j*2+1,none⟩=some (O qL (nth l j).y):=by
  rcases A with h | h
  ·rw [h] at h1;simp at h1
  ·exact h
 obtain⟨u,t⟩:=A 0 h1;rw [Nat.zero_mul,Nat.add_zero] at u t;have B:=(qK w.heap.size w).alloc (qN _) (qC #[O qL 0,O qL 0] 36);have e0:=cY B u D;have e1:=cY B t D;have S:=qH A;have V:Hid (minTo l 0=⟨(nth l 0).x,(nth l 0).y⟩):=rfl;have d1:decide ((l.length:Int)<1)=false:=by simp;omega
 have i0:(0:Int)<l.length:=by omega
 have M:=(Has.new w #[O qL 0,O qL 0] 36).below ((qK (w.heap.size+1) _).alloc (by simp) (qC #[O qL (nth l 0).x,O qL (nth l 0).y] 36)) (by omega)
 have H:=Has.new (w.alloc (qC #[O qL 0,O qL 0] 36)) #[O qL (nth l 0).x,O qL (nth l 0).y] 36;rw [World.size_alloc] at H;have c:=B.alloc B.size (qC #[O qL (nth l 0).x,O qL (nth l 0).y] 36);have I:=qH (qI M (qI H c));clear A u t M H c B;go_enter Tryz.func175,Tryz.ntmps175;go_wp2
 go_loopw [6] (fun i wr=>∃ k:Nat,k<l.length/\i=O qL ((k:Int)+1)/\Has wr w.heap.size #[O qL 0,O qL 0] 36/\Has wr (w.heap.size+1) #[O qL (minTo l k).x,O qL (minTo l k).y] 36/\Below w.heap.size w wr) (fun i _=>l.length+1-(intOf i).toNat)
 case atStart=>exact⟨0,h1,rfl,I.out.1,I.out.2.1,I.out.2.2⟩
 case round =>
  obtain⟨k,hk,rfl,m,f,c⟩:=hrel;have Z:=c.size;have l5:=f.lt;by_cases hlt:k+1<l.length
  ·obtain⟨u,t⟩:=S.out (k+1) hlt
   have E:=cY c u D;have F:=cY c t D;have q:Hid (minTo l (k+1)=if cmpV (nth l (k+1)).x (nth l (k+1)).y (minTo l k).x (minTo l k).y<0 then ⟨(nth l (k+1)).x,(nth l (k+1)).y⟩ else ⟨(minTo l k).x,(minTo l k).y⟩):=rfl
   have C:=qH (fun w1=>Z6m (nth l (k+1)).x (nth l (k+1)).y (minTo l k).x (minTo l k).y w1)
   have dk:decide ((k:Int)+1<(l.length:Int))=true:=by simp;omega
   have kl:(k:Int)+1<l.length:=by omega
   have k0:(0:Int)<=(k:Int)+1:=by omega
   have kn:((k:Int)+1).toNat=k+1:=by omega
   have L:=qH (qI m (qI f c));generalize (nth l (k+1)).x=px at *;generalize (nth l (k+1)).y=py at *;generalize (minTo l k).x=g at *;generalize (minTo l k).y=d at *;have G:=Low.fact (cX 0 f rfl:wr.cell? ⟨w.heap.size+1,0,none⟩=some (O qL g));have J:=Low.fact (cX 1 f rfl:wr.cell? ⟨w.heap.size+1,1,none⟩=some (O qL d));have N:=Low.fact E;have K:=Low.fact F;clear u t m f c;by_cases hcmp:cmpV px py g d<0
   ·have dc:decide (cmpV px py g d<0)=true:=by simpa using hcmp
    rw [if_pos hcmp] at q;clear hcmp;go_wp2
    (refine Zg (by kernel_rfl) (by kernel_rfl) ?_;(iterate 8 (apply qw3;(case hw=>rfl);(case hval=>(intro w1 hw1 hcx;simp only [Oper.quietAt];go_simp;first | done | (first | (go_at_call 173;exact Low.calls hw1 (C.out _))) | rfl | exact⟨rfl,rfl⟩));simp only [pT]));refine wpQuiet_nil ?_;intro w2 hw2)
    obtain⟨m,f,c⟩:=L.out;have R:=m.below hw2.out (by omega)
    have z:=f.below hw2.out (by omega)
    have Q:=c.trans (hw2.out.mono (by omega))
    have W:w2.cell? ⟨w.heap.size+1,0,none⟩=some (O qL g):=cX 0 z rfl;have x1:w2.cell? ⟨w.heap.size+1,1,none⟩=some (O qL d):=cX 1 z rfl;have y0:=Ze z 0;have y1:=Ze z 1;have r0:=(hw2.out.cell (p:=⟨b,o+(k+1)*2,none⟩) (by show b<wr.heap.size;omega)).trans E
    have r1:=(hw2.out.cell (p:=⟨b,o+(k+1)*2+1,none⟩) (by show b<wr.heap.size;omega)).trans F
    have n:=qH (qI (((R.other ⟨w.heap.size+1,0,none⟩ (O qL px) (by simp)).other ⟨w.heap.size+1,1,none⟩ (O qL py) (by simp))) (qI ((z.set 0 (O qL px)).set 1 (O qL py)) ((Q.setCell (p:=⟨w.heap.size+1,0,none⟩) (by simp) (O qL px)).setCell (p:=⟨w.heap.size+1,1,none⟩) (by simp) (O qL py))))
    clear R z Q m f c hw2 G J N K E F;go_wp2;go_roundw
    case rel=>exact⟨k+1,hlt,by go_num,n.out.1,by rw [q.out];exact n.out.2.1,n.out.2.2⟩
    case measure=>simp [intOf];omega
   ·have dc:decide (cmpV px py g d<0)=false:=by simpa using hcmp
    rw [if_neg hcmp] at q;clear hcmp;go_wp2
    (refine Zg (by kernel_rfl) (by kernel_rfl) ?_;(iterate 8 (apply qw3;(case hw=>rfl);(case hval=>(intro w1 hw1 hcx;simp only [Oper.quietAt];go_simp;first | done | (first | (go_at_call 173;exact Low.calls hw1 (C.out _))) | rfl | exact⟨rfl,rfl⟩));simp only [pT]));refine wpQuiet_nil ?_;intro w2 hw2)
    obtain⟨m,f,c⟩:=L.out;have n:=qH (qI (m.below hw2.out (by omega)) (qI (f.below hw2.out (by omega)) (c.trans (hw2.out.mono (by omega)))))
    clear m f c hw2 G J N K E F;go_wp2;go_roundw
    case rel=>exact⟨k+1,hlt,by go_num,n.out.1,by rw [q.out];exact n.out.2.1,n.out.2.2⟩
    case measure=>simp [intOf];omega
  ·obtain rfl:k=l.length-1:=by omega
   have dk:decide (((l.length-1:Nat):Int)+1<(l.length:Int))=false:=by simp;omega
   obtain⟨g,s⟩:∃ g,(minTo l (l.length-1)).x=g:=⟨_,rfl⟩;obtain⟨d,r⟩:∃ d,(minTo l (l.length-1)).y=d:=⟨_,rfl⟩;rw [s,r] at f;have P:=qH (qI s r);clear s r;have G:wr.cell? ⟨w.heap.size+1,0,none⟩=some (O qL g):=cX 0 f rfl;have J:wr.cell? ⟨w.heap.size+1,1,none⟩=some (O qL d):=cX 1 f rfl;have W:wr.cell? ⟨w.heap.size,0,none⟩=some (O qL 0):=cX 0 m rfl;have x1:wr.cell? ⟨w.heap.size,1,none⟩=some (O qL 0):=cX 1 m rfl;have y0:=Ze m 0;have y1:=Ze m 1;have n:=(m.set 0 (O qL g)).set 1 (O qL d);have z0:((wr.setCell ⟨w.heap.size,0,none⟩ (O qL g)).setCell ⟨w.heap.size,1,none⟩ (O qL d)).cell? ⟨w.heap.size,0,none⟩=some (O qL g):=cX 0 n rfl;have U:((wr.setCell ⟨w.heap.size,0,none⟩ (O qL g)).setCell ⟨w.heap.size,1,none⟩ (O qL d)).cell? ⟨w.heap.size,1,none⟩=some (O qL d):=cX 1 n rfl;have T:=qH ((c.setCell (p:=⟨w.heap.size,0,none⟩) (by simp) (O qL g)).setCell (p:=⟨w.heap.size,1,none⟩) (by simp) (O qL d))
   clear n m f c;go_wp2;exact bodyPost_ret (v:=.agg #[O qL g,O qL d]) (by simp [results,Tryz.f175,go_sem,z0,U]) rfl ⟨by rw [P.out.1,P.out.2],T.out⟩
noncomputable def comL (l m:List Pt) (i:Nat):List Pt:=if i=0 then cornersP l m else if i=1 then cornersP m l else cornersP (cornersP (crossP l m) l) m
noncomputable def comX (l m:List Pt):Option Pt:=if (comL l m 0).length≠0 then some (minTo (comL l m 0) ((comL l m 0).length-1)) else if (comL l m 1).length≠0 then some (minTo (comL l m 1) ((comL l m 1).length-1)) else if (comL l m 2).length≠0 then some (minTo (comL l m 2) ((comL l m 2).length-1)) else none
def optX (o:Option Pt):Int:=match o with | some p=>p.x | none=>0
def optY (o:Option Pt):Int:=match o with | some p=>p.y | none=>0
theorem ZaO (vp vq:Value) (l m:List Pt) (w:World) (hp:Z7 w.heap.size w vp l) (hq:Z7 w.heap.size w vq m) (hE:(Zb l && Zb m)=false) :
  Calls Tryz.prog 163 #[vp,vq] w fun e w'=>e=qR (.tuple #[.agg #[O qL 0,O qL 0],.bool false,O qL 1])/\Below w.heap.size w w':=by
 have k:=qH (fun a (B:Below w.heap.size w a)=>Zs vp l a ((hp.below B).mono B.size))
 have t:=qH (fun a (B:Below w.heap.size w a)=>Zs vq m a ((hq.below B).mono B.size))
 obtain⟨K,D,rfl⟩:=hp.len;obtain⟨I,y,rfl⟩:=hq.len;have u:=(qK w.heap.size w).alloc (qN _) (qC #[O qL 0,O qL 0] 36);have z:=qH (Has.new w #[O qL 0,O qL 0] 36);have j:=qH u;have g:w.heap.size<(w.alloc (qC #[O qL 0,O qL 0] 36)).heap.size:=by simp
 clear hp hq u;cases hl:Zb l
 ·rw [hl] at k
  clear hl hE;go_enter Tryz.func163,Tryz.ntmps163;go_wp2_with fail;refine (k.out _ j.out).mono ?_;rintro e a ⟨rfl,b⟩;have c:=z.out.below b g;have s:=zAd j b;have H:a.cell? ⟨w.heap.size,0,none⟩=some (O qL 0):=cX 0 c rfl;have E:a.cell? ⟨w.heap.size,1,none⟩=some (O qL 0):=cX 1 c rfl;have G:=Ze c 0;have F:=Ze c 1;have d:=(c.set 0 (O qL 0)).set 1 (O qL 0);have n:((a.setCell ⟨w.heap.size,0,none⟩ (O qL 0)).setCell ⟨w.heap.size,1,none⟩ (O qL 0)).cell? ⟨w.heap.size,0,none⟩=some (O qL 0):=cX 0 d rfl;have q:((a.setCell ⟨w.heap.size,0,none⟩ (O qL 0)).setCell ⟨w.heap.size,1,none⟩ (O qL 0)).cell? ⟨w.heap.size,1,none⟩=some (O qL 0):=cX 1 d rfl;have o:=qH ((s.out.setCell (p:=⟨w.heap.size,0,none⟩) (by simp) (O qL 0)).setCell (p:=⟨w.heap.size,1,none⟩) (by simp) (O qL 0))
  clear b d c;go_wp2;exact bodyPost_ret (v:=.tuple #[.agg #[O qL 0,O qL 0],.bool false,O qL 1]) (by simp [results,Tryz.f163,go_sem,n,q]) rfl ⟨rfl,o.out⟩
 ·rw [hl] at k
  have C:Zb m=false:=by rw [hl] at hE;simpa using hE
  rw [C] at t;clear hl hE C;go_enter Tryz.func163,Tryz.ntmps163;go_wp2_with fail;refine (k.out _ j.out).mono ?_;rintro e J ⟨rfl,f⟩;have A:=qH (z.out.below f g);have x:=zAd j f;have r:=A.out.lt;clear f;go_wp2_with fail;refine (t.out _ x.out).mono ?_;rintro e a ⟨rfl,b⟩;have c:=A.out.below b r;have s:=zAd x b;have H:a.cell? ⟨w.heap.size,0,none⟩=some (O qL 0):=cX 0 c rfl;have E:a.cell? ⟨w.heap.size,1,none⟩=some (O qL 0):=cX 1 c rfl;have G:=Ze c 0;have F:=Ze c 1;have d:=(c.set 0 (O qL 0)).set 1 (O qL 0);have n:((a.setCell ⟨w.heap.size,0,none⟩ (O qL 0)).setCell ⟨w.heap.size,1,none⟩ (O qL 0)).cell? ⟨w.heap.size,0,none⟩=some (O qL 0):=cX 0 d rfl;have q:((a.setCell ⟨w.heap.size,0,none⟩ (O qL 0)).setCell ⟨w.heap.size,1,none⟩ (O qL 0)).cell? ⟨w.heap.size,1,none⟩=some (O qL 0):=cX 1 d rfl;have o:=qH ((s.out.setCell (p:=⟨w.heap.size,0,none⟩) (by simp) (O qL 0)).setCell (p:=⟨w.heap.size,1,none⟩) (by simp) (O qL 0))
  clear b d c;go_wp2;exact bodyPost_ret (v:=.tuple #[.agg #[O qL 0,O qL 0],.bool false,O qL 1]) (by simp [results,Tryz.f163,go_sem,n,q]) rfl ⟨rfl,o.out⟩
theorem Zdg (l m:List Pt):∀ k,k<3->rk [comL l m 0,comL l m 1,comL l m 2] k=comL l m k
 | 0,_=>rfl
 | 1,_=>rfl
 | 2,_=>rfl
theorem Zdf {l m:List Pt} {k:Nat} (hk:k<3) (h0:∀ j,j<k->(comL l m j).length=0) (h1:0<(comL l m k).length):comX l m=some (minTo (comL l m k) ((comL l m k).length-1)):=by
 unfold comX
 match k,hk with
 | 0,_=>rw [if_pos (by omega)]
 | 1, _ =>
  have a:=h0 0 (by omega)
  rw [if_neg (by omega),if_pos (by omega)]
 | 2, _ =>
  have a:=h0 0 (by omega)
  have b:=h0 1 (by omega)
  rw [if_neg (by omega),if_neg (by omega),if_pos (by omega)]
theorem ZaP {l m:List Pt} (h0:∀ j,j<3->(comL l m j).length=0):comX l m=none:=by
 have a:=h0 0 (by omega)
 have b:=h0 1 (by omega)
 have c:=h0 2 (by omega)
 unfold comX;rw [if_neg (by omega),if_neg (by omega),if_neg (by omega)]
theorem Z8P (vp vq : Value) (l m : List Pt) (w : World) (hp : Z7 w.heap.size w vp l) (hq : Z7 w.heap.size w vq m) (hl : Zb l = true) (hm : Zb m = true) :
  Calls Tryz.prog 163 #[vp,vq] w fun e w'=>e=qR (.tuple #[.agg #[O qL (optX (comX l m)),O qL (optY (comX l m))],.bool (comX l m).isSome,O qL 0])/\Below w.heap.size w w':=by
 have GL:GoValid l:=by simpa [Zb] using hl
 have GM:GoValid m:=by simpa [Zb] using hm
 have l64:=GL.2.1;have aa:=GM.2.1;have clen:=Z4G l64 aa;have f1:=qH (fun c (B:Below w.heap.size w c)=>hl ▸ Zs vp l c ((hp.below B).mono B.size))
 have f2:=qH (fun c (B:Below w.heap.size w c)=>hm ▸ Zs vq m c ((hq.below B).mono B.size))
 have f3:=qH (fun c (B:Below w.heap.size w c)=>Z0f vp vq l m c ((hp.below B).mono B.size) ((hq.below B).mono B.size) (by omega))
 have f4:=qH (fun c (B:Below w.heap.size w c)=>Z0f vq vp m l c ((hq.below B).mono B.size) ((hp.below B).mono B.size) (by omega))
 have f5:=qH (fun c (B:Below w.heap.size w c)=>Z2m vp vq l m c ((hp.below B).mono B.size) ((hq.below B).mono B.size) hl hm)
 have f6:=qH (fun u c (B:Below w.heap.size w c) (h:Z7 c.heap.size c u (crossP l m))=>Z0f u vp (crossP l m) l c h ((hp.below B).mono B.size) (by omega))
 have f7:=qH (fun u c (B:Below w.heap.size w c) (h:Z7 c.heap.size c u (cornersP (crossP l m) l))=>Z0f u vq (cornersP (crossP l m) l) m c h ((hq.below B).mono B.size) (by have:=Z1y (crossP l m) l;omega))
 obtain⟨ap,capp,rfl⟩:=hp.len;obtain⟨aq,capq,rfl⟩:=hq.len;have hA:=(qK w.heap.size w).alloc (qN _) (qC #[O qL 0,O qL 0] 36);have hN:=qH (Has.new w #[O qL 0,O qL 0] 36);have HA:=qH hA;have H:w.heap.size<(w.alloc (qC #[O qL 0,O qL 0] 36)).heap.size:=by simp
 clear hp hq hA hl hm GL GM;go_enter Tryz.func163,Tryz.ntmps163;go_wp2_with fail;refine (f1.out _ HA.out).mono ?_;rintro e w0 ⟨rfl,C⟩;have g0:=qH (hN.out.below C H);have B0:=zAd HA C;have hs0:=g0.out.lt;clear C;go_wp2_with fail;refine (f2.out _ B0.out).mono ?_;rintro e c ⟨rfl,D⟩;have g1:=qH (g0.out.below D hs0);have B1:=zAd B0 D;have H:=g1.out.lt;clear D;go_wp2_with fail;refine (f3.out _ B1.out).mono ?_;rintro e w2 ⟨u0,rfl,I0,J⟩;have g2:=qH (g1.out.below J H);have B2:=zAd B1 J;have Z:=g2.out.lt;have J0:=qH I0;obtain⟨X,W,rfl⟩:=I0.len;clear J I0;go_wp2_with fail;refine (f4.out _ B2.out).mono ?_;rintro e w3 ⟨u1,rfl,I1,s⟩;have g3:=qH (g2.out.below s Z);have B3:=zAd B2 s;have ab:=g3.out.lt;have K0:=qH ((J0.out.below s).mono s.size);have K1:=qH I1;obtain⟨a1,c1,rfl⟩:=I1.len;clear s I1;go_wp2_with fail;refine (f5.out _ B3.out).mono ?_;rintro e w4 ⟨u2,rfl,I2,g⟩;have g4:=qH (g3.out.below g ab);have B4:=zAd B3 g;have hs4:=g4.out.lt;have L0:=qH ((K0.out.below g).mono g.size);have L1:=qH ((K1.out.below g).mono g.size);have L2:=qH I2;obtain⟨a2,c2,rfl⟩:=I2.len;clear g I2;go_wp2_with fail;refine (f6.out _ _ B4.out L2.out).mono ?_;rintro e w5 ⟨u3,rfl,I3,d⟩;have g5:=qH (g4.out.below d hs4);have B5:=zAd B4 d;have hs5:=g5.out.lt;have M0:=qH ((L0.out.below d).mono d.size);have M1:=qH ((L1.out.below d).mono d.size);have M3:=qH I3;obtain⟨a3,c3,rfl⟩:=I3.len;clear d I3;go_wp2_with fail;refine (f7.out _ _ B5.out M3.out).mono ?_;rintro e x ⟨u4,rfl,I4,f⟩;have g6:=g5.out.below f hs5;have B6:=B5.out.trans (f.mono B5.out.size);have hs6:=g6.lt;have N0:=(M0.out.below f).mono f.size;have N1:=(M1.out.below f).mono f.size;obtain⟨a4,Y,rfl⟩:=I4.len;have R:=Z3u N0 N1 I4;have E:=(qK x.heap.size x).alloc (qN _) (qC #[qS X (cornersP l m).length ((cornersP l m).length+W),qS a1 (cornersP m l).length ((cornersP m l).length+c1),qS a4 (cornersP (cornersP (crossP l m) l) m).length ((cornersP (cornersP (crossP l m) l) m).length+Y)] 23);have g7:=qH (g6.below E hs6);have B7:=qH (B6.trans (E.mono B6.size));have N:x.heap.size+1=(x.alloc (qC #[qS X (cornersP l m).length ((cornersP l m).length+W),qS a1 (cornersP m l).length ((cornersP m l).length+c1),qS a4 (cornersP (cornersP (crossP l m) l) m).length ((cornersP (cornersP (crossP l m) l) m).length+Y)] 23)).heap.size:=by simp
 change Z6 _ _ _ [comL l m 0,comL l m 1,comL l m 2] at R
 clear f I4 g6 B6 N0 N1 E f1 f2 f3 f4 f5 f6 f7;obtain⟨U,z⟩:∃ U,x.alloc (qC #[qS X (cornersP l m).length ((cornersP l m).length+W),qS a1 (cornersP m l).length ((cornersP m l).length+c1),qS a4 (cornersP (cornersP (crossP l m) l) m).length ((cornersP (cornersP (crossP l m) l) m).length+Y)] 23)=U:=⟨_,rfl⟩;rw [z] at R g7 B7 N;have HW7:=qH z;have HR:=qH R;have hs8:=g7.out.lt;clear R z;go_wp2;rw [HW7.out]
 go_loopw [34] (fun i wr=>∃ k:Nat,k<=3/\i=O qL (k:Int)/\(∀ j,j<k->(comL l m j).length=0)/\Below U.heap.size U wr) (fun i _=>3-(intOf i).toNat)
 case atStart=>exact⟨0,by omega,rfl,fun j h=>by omega,qK _ _⟩
 case round =>
  obtain⟨k,hk,rfl,y,t⟩:=hrel;have G:=g7.out.below t hs8;have T:=B7.out.trans (t.mono B7.out.size);have hzr:=t.size;have r:=qH y;clear y;by_cases hlt:k<3
  ·obtain⟨u,hu,n⟩:∃ u,wr.cell? ⟨x.heap.size,k,none⟩=some u/\Z7 wr.heap.size wr u (comL l m k):=by
    obtain⟨_,a,cap,e,h | ⟨b,o,e2,hb,hcc⟩⟩:=HR.out
    ·simp at h
    ·simp only [Value.slice.injEq] at e
     obtain⟨e3,_⟩:=e;rw [<- e3] at e2;simp only [Option.some.injEq,Addr.mk.injEq,and_true] at e2;obtain⟨rfl,rfl⟩:=e2;obtain⟨u,hu,n⟩:=hcc k (by simpa using hlt)
     rw [Zdg _ _ k hlt] at n;rw [N] at n;rw [Nat.zero_add] at hu;exact⟨u,(t.cell (p:=⟨x.heap.size,k,none⟩) (by show x.heap.size<_;omega)).trans hu,(n.below t).mono t.size⟩
   obtain⟨au,cu,rfl⟩:=n.len;have dk:decide ((k:Int)<3)=true:=by simp;omega
   have kl:(k:Int)<3:=by omega
   have k0:(0:Int)<=k:=by omega
   have HB:=qH t;have P:=qH T;have HG:=qH G;have HP:=qH n;clear t T G n;by_cases hpos:0<(comL l m k).length
   ·have d1:decide (((comL l m k).length:Int)>0)=true:=by rw [decide_eq_true_eq];omega
    have q:=qH (Zdf hlt r.out hpos);have Q:=qH (Z6Q _ _ _ HP.out hpos);generalize minTo (comL l m k) ((comL l m k).length-1)=mn at *;obtain⟨M,K⟩:=mn;dsimp only at Q;go_wp2_with fail;refine Q.out.mono ?_;rintro e S ⟨rfl,F⟩;have L:=HG.out.below F HG.out.lt;have B8:=P.out.trans (F.mono P.out.size);have x0:S.cell? ⟨w.heap.size,0,none⟩=some (O qL 0):=cX 0 L rfl;have x1:S.cell? ⟨w.heap.size,1,none⟩=some (O qL 0):=cX 1 L rfl;have y0:=Ze L 0;have y1:=Ze L 1;have A:=(L.set 0 (O qL M)).set 1 (O qL K);have z0:((S.setCell ⟨w.heap.size,0,none⟩ (O qL M)).setCell ⟨w.heap.size,1,none⟩ (O qL K)).cell? ⟨w.heap.size,0,none⟩=some (O qL M):=cX 0 A rfl;have V:((S.setCell ⟨w.heap.size,0,none⟩ (O qL M)).setCell ⟨w.heap.size,1,none⟩ (O qL K)).cell? ⟨w.heap.size,1,none⟩=some (O qL K):=cX 1 A rfl;have BZ:=qH ((B8.setCell (p:=⟨w.heap.size,0,none⟩) (by simp) (O qL M)).setCell (p:=⟨w.heap.size,1,none⟩) (by simp) (O qL K))
    clear F A L B8;go_wp2;exact bodyPost_ret (v:=.tuple #[.agg #[O qL M,O qL K],.bool true,O qL 0]) (by simp [results,Tryz.f163,go_sem,z0,V]) rfl ⟨by rw [q.out];rfl,BZ.out⟩
   ·have d1:decide (((comL l m k).length:Int)>0)=false:=by rw [decide_eq_false_iff_not];omega
    have I:(comL l m k).length=0:=by omega
    have HZ0:=qH I;have hnil:comL l m k=[]:=List.eq_nil_of_length_eq_zero I;have d2:decide (0<(comL l m k).length)=false:=by rw [decide_eq_false_iff_not];omega
    clear I;go_wp2;go_roundw
    case rel=>exact⟨k+1,by omega,by go_num,fun j hj=>(by
     by_cases e:j=k
     ·rw [e];exact HZ0.out
     ·exact r.out j (by omega)),HB.out⟩
    case measure=>simp [intOf];omega
  ·obtain rfl:k=3:=by omega
   have q:=qH (ZaP r.out);have x0:wr.cell? ⟨w.heap.size,0,none⟩=some (O qL 0):=cX 0 G rfl;have x1:wr.cell? ⟨w.heap.size,1,none⟩=some (O qL 0):=cX 1 G rfl;have y0:=Ze G 0;have y1:=Ze G 1;have A:=(G.set 0 (O qL 0)).set 1 (O qL 0);have z0:((wr.setCell ⟨w.heap.size,0,none⟩ (O qL 0)).setCell ⟨w.heap.size,1,none⟩ (O qL 0)).cell? ⟨w.heap.size,0,none⟩=some (O qL 0):=cX 0 A rfl;have V:((wr.setCell ⟨w.heap.size,0,none⟩ (O qL 0)).setCell ⟨w.heap.size,1,none⟩ (O qL 0)).cell? ⟨w.heap.size,1,none⟩=some (O qL 0):=cX 1 A rfl;have BZ:=qH ((T.setCell (p:=⟨w.heap.size,0,none⟩) (by simp) (O qL 0)).setCell (p:=⟨w.heap.size,1,none⟩) (by simp) (O qL 0))
   clear A G T t;go_wp2;exact bodyPost_ret (v:=.tuple #[.agg #[O qL 0,O qL 0],.bool false,O qL 0]) (by simp [results,Tryz.f163,go_sem,z0,V]) rfl ⟨by rw [q.out];rfl,BZ.out⟩
noncomputable def withinB (l m:List Pt):Bool:=Zb l && (Zb m && decide ((cornersP l m).length=l.length))
theorem Z2t (vp vq : Value) (l m : List Pt) (w : World) (hp : Z7 w.heap.size w vp l) (hq : Z7 w.heap.size w vq m) :
  Calls Tryz.prog 52 #[vp,vq] w fun e w'=>e=qR (.tuple #[.bool (withinB l m),O qL (bothE l m)])/\Below w.heap.size w w':=by
 have g:=qH (fun b (B:Below w.heap.size w b)=>Zs vp l b ((hp.below B).mono B.size))
 have j:=qH (fun b (B:Below w.heap.size w b)=>Zs vq m b ((hq.below B).mono B.size))
 have n:=qH (fun b (B:Below w.heap.size w b) hs=>Z0f vp vq l m b ((hp.below B).mono B.size) ((hq.below B).mono B.size) hs)
 obtain⟨E,r,rfl⟩:=hp.len;obtain⟨A,s,rfl⟩:=hq.len;unfold withinB bothE;clear hp hq;cases hl:Zb l
 ·rw [hl] at g
  clear hl;go_enter Tryz.func52,Tryz.ntmps52;go_wp2_with fail;refine (g.out _ (qK _ _)).mono ?_;rintro e b ⟨rfl,a⟩;have d:=qH a;clear a;go_wp2;go_ret2;exact⟨rfl,d.out⟩
 ·rw [hl] at g
  cases hm:Zb m
  ·rw [hm] at j
   clear hl hm;go_enter Tryz.func52,Tryz.ntmps52;go_wp2_with fail;refine (g.out _ (qK _ _)).mono ?_;rintro e b ⟨rfl,a⟩;have d:=qH a;clear a;go_wp2_with fail;refine (j.out _ d.out).mono ?_;rintro e v ⟨rfl,c⟩;have k:=zAd d c;clear c;go_wp2;go_ret2;exact⟨rfl,k.out⟩
  ·rw [hm] at j
   have hs:l.length<=1000000:=by have V:GoValid l:=by { simpa [Zb] using hl };have:=V.2.1;omega
   replace n:=qH (fun b B=>n.out b B hs)
   have D:=qH (qI hl hm);clear hl hm hs;go_enter Tryz.func52,Tryz.ntmps52;go_wp2_with fail;refine (g.out _ (qK _ _)).mono ?_;rintro e b ⟨rfl,a⟩;have d:=qH a;clear a;go_wp2_with fail;refine (j.out _ d.out).mono ?_;rintro e v ⟨rfl,c⟩;have k:=zAd d c;clear c;go_wp2_with fail;refine (n.out _ k.out).mono ?_;rintro e C ⟨x,rfl,q,f⟩;have p:=zAd k f;obtain⟨y,z,rfl⟩:=q.len;clear q f;by_cases hd:(cornersP l m).length=l.length
   ·have u:(((cornersP l m).length:Int) == (l.length:Int))=true:=by simp [hd]
    have o:=qH (decide_eq_true hd);clear hd;go_wp2;go_ret2;have t:=o.out;exact⟨by simp_all,p.out⟩
   ·have u:(((cornersP l m).length:Int) == (l.length:Int))=false:=by rw [beq_eq_false_iff_ne];omega
    have o:=qH (decide_eq_false hd);clear hd;go_wp2;go_ret2;have t:=o.out;exact⟨by simp_all,p.out⟩
end
end Go.Proofs.YthipcinibldgnaaGreat
