/- Plain: what the first rock that is hit says. Slices of rocks. | Plain: what cut.Apart reports, in words of geometry. | Plain: polygons that are mov .. -/
import Derived.Test.YtcfkhkgldboddaaGreatBin22
import Derived.Test.YtcfkhkgldboddaaGreatBin27
set_option linter.unusedSimpArgs false
set_option maxRecDepth 8000
set_option maxHeartbeats 6000000
namespace Go.Proofs.YtcfkhkgldboddaaGreat
theorem Z2e {c : List Pt} {ls : List (List Pt)} : ∀ {k i}, hitTo c ls k = some i → i < k ∧ touchB c (rk ls i) = true ∧ ∀ j, j < i → touchB c (rk ls j) = false
 | 0,i,h=>by cases h
 | k + 1, i, h => by
  simp only [hitTo] at h;cases hk:hitTo c ls k with
  | some q =>
   rw [hk] at h;simp only [Option.isSome_some,if_true] at h;cases h;obtain⟨h1,h2,h3⟩:=Z2e hk;exact⟨by omega,h2,h3⟩
  | none =>
   rw [hk] at h;simp only [Option.isSome_none,Bool.false_eq_true,if_false] at h
   split at h
   ·cases h
    refine⟨by omega,by assumption,fun j hj=>?_⟩
    exact hitTo_none hk j hj
   ·cases h
where
 hitTo_none {c:List Pt} {ls:List (List Pt)}:∀ {k},hitTo c ls k=none→∀ j,j<k→touchB c (rk ls j)=false
 | 0,_,j,hj=>by omega
 | k + 1, h, j, hj => by
  simp only [hitTo] at h;cases hk:hitTo c ls k with
  | some q=>rw [hk] at h;cases h
  | none =>
   rw [hk] at h;simp only [Option.isSome_none,Bool.false_eq_true,if_false] at h
   split at h
   ·cases h
   ·rename_i ht
    by_cases e:j=k
    ·rw [e];simpa using ht
    ·exact hitTo_none hk j (by omega)
theorem hitTo_none {c:List Pt} {ls:List (List Pt)} {k:Nat} (h:hitTo c ls k=none):∀ j,j<k→touchB c (rk ls j)=false:=Z2e.hitTo_none h
theorem Zbb {ls:List (List Pt)} {n j:Nat} (h:j<n):rk (ls.take n) j=rk ls j:=by
 unfold rk;simp [List.getD_eq_getElem?_getD,h]
theorem Z7.take {n0:Nat} {W:World} {a:Option Addr} {ls:List (List Pt)} {cap:Nat} (h:Z7 n0 W (.slice a ls.length (ls.length+cap)) ls) {n:Nat} (hn:n≤ls.length) :
  Z7 n0 W (.slice a n (ls.length+cap)) (ls.take n):=by
 obtain⟨hl,a',cap',he,hc⟩:=h;have e:(ls.take n).length=n:=by simp;omega
 simp only [Value.slice.injEq] at he;obtain⟨rfl,_,hcap⟩:=he;refine⟨by omega,a,ls.length-n+cap,by rw [e,show n+(ls.length-n+cap)=ls.length+cap by omega],?_⟩
 rcases hc with rfl | ⟨b,o,rfl,hb,hcc⟩
 ·left;simp
 ·refine .inr ⟨b,o,rfl,hb,fun j hj=>?_⟩
  rw [e] at hj;rw [Zbb hj];exact hcc j (by omega)
theorem Z7.one {n0:Nat} {W:World} {b o:Nat} {ls:List (List Pt)} {cap cap1:Nat} (h:Z7 n0 W (.slice (some ⟨b,o,none⟩) ls.length (ls.length+cap)) ls) {i:Nat} (hi:i<ls.length) :
  Z7 n0 W (.slice (some ⟨b,o+i,none⟩) 1 (1+cap1)) [rk ls i]:=by
 obtain⟨hl,a',cap',he,hc⟩:=h;simp only [Value.slice.injEq] at he;obtain⟨rfl,_,hcap⟩:=he;refine⟨by simp,some ⟨b,o+i,none⟩,cap1,rfl,?_⟩
 rcases hc with rfl | ⟨b',o',e,hb,hcc⟩
 ·simp at hi
 ·cases e
  refine .inr ⟨b,o+i,rfl,hb,fun j hj=>?_⟩
  obtain rfl:j=0:=by simpa using hj
  exact hcc i hi
theorem Z0s {l:List Pt} (h:GoValid l):Zb l=true:=by simpa [Zb] using h
theorem Zay {l:List Pt} {x:Pt} (hl:GoValid l) (hx:Z4 x=true):hasB l x=true↔inside l x=true:=by
 unfold hasB;rw [Z0s hl,hx];simp
def mvP (b x:Pt):Pt:=⟨x.x+b.x,x.y+b.y⟩
def mvL (b:Pt) (l:List Pt):List Pt:=l.map (mvP b)
def mvS (b:Pt) (s:Pt × Pt):Pt × Pt:=(mvP b s.1,mvP b s.2)
theorem ZQ (b:Pt) (l:List Pt):(mvL b l).length=l.length:=by simp [mvL]
theorem Z39 (b:Pt) {l:List Pt} {k:Nat} (h:k<l.length):nth (mvL b l) k=mvP b (nth l k):=by
 simp [mvL,nth,List.getD_eq_getElem?_getD,List.getElem?_eq_getElem h]
theorem Zb5 (b p q r:Pt):Z6 (mvP b p) (mvP b q) (mvP b r)=Z6 p q r:=by unfold Z6 turnV mvP;grind
theorem Zb9 (b:Pt) {l:List Pt} {k:Nat} (h:k<l.length):sideP (mvL b l) k=mvS b (sideP l k):=by
 unfold sideP mvS;rw [ZQ,Z39 b h,Z39 b (Nat.mod_lt _ (by omega))]
theorem Z8E {D p d:Int} (hd:0<d) (h0:0≤p) (h1:p≤d):(D≤(D*p).fdiv d∨0≤(D*p).fdiv d)∧((D*p).fdiv d≤0∨(D*p).fdiv d≤D):=by
 rw [Int.fdiv_eq_ediv_of_nonneg _ (Int.le_of_lt hd)];rcases Int.le_total 0 D with h | h
 ·have a:=Int.mul_nonneg h h0
  have b:=Int.mul_le_mul_of_nonneg_left h1 h;exact⟨.inr (Int.le_ediv_of_mul_le hd (by omega)),.inr (Int.ediv_le_of_le_mul hd b)⟩
 ·have a:=Int.mul_nonneg (show 0≤-D by omega) h0
  have b:=Int.mul_le_mul_of_nonneg_left h1 (show 0≤-D by omega)
  rw [Int.neg_mul] at a b;rw [Int.neg_mul] at b;exact⟨.inl (Int.le_ediv_of_mul_le hd (by omega)),.inl (Int.ediv_le_of_le_mul hd (by omega))⟩
theorem Z6B {D s t:Int} (h:crossB s t=true):(D≤(D*s).fdiv (s-t)∨0≤(D*s).fdiv (s-t))∧((D*s).fdiv (s-t)≤0∨(D*s).fdiv (s-t)≤D):=by
 unfold crossB at h;rw [decide_eq_true_eq] at h;rcases h with h | h
 ·have e:(D*s).fdiv (s-t)=(D*-s).fdiv (-(s-t)):=by rw [Int.mul_neg,Int.neg_fdiv_neg]
  rw [e];exact Z8E (by omega) (by omega) (by omega)
 ·exact Z8E (by omega) (by omega) (by omega)
theorem Z9n {u v s t:Int} (h:crossB s t=true):(u≤frLo u v s t∨v≤frLo u v s t)∧(frLo u v s t≤u∨frLo u v s t≤v):=by
 have:=Z6B (D:=v-u) h;unfold frLo;omega
theorem Z9o {u v s t:Int} (h:crossB s t=true):(u≤frHi u v s t∨v≤frHi u v s t)∧(frHi u v s t≤u∨frHi u v s t≤v):=by
 have:=Z6B (D:=-(v-u)) h;rw [Int.neg_mul] at this;unfold frHi;omega
theorem ZT {p:Pt}:Z4 p=true↔-500000≤p.x∧p.x≤500000∧-500000≤p.y∧p.y≤500000:=by simp [Z4,placeB]
theorem Z5k {a b:Pt} {s t:Int} (h:crossB s t=true) (ha:Z4 a=true) (hb:Z4 b=true) {x:Pt} (hx:x ∈ frameP a b s t):Z4 x=true:=by
 rw [ZT] at *;have h1:=Z9n (u:=a.x) (v:=b.x) h;have h2:=Z9o (u:=a.x) (v:=b.x) h;have h3:=Z9n (u:=a.y) (v:=b.y) h;have h4:=Z9o (u:=a.y) (v:=b.y) h;simp only [frameP,List.mem_cons,List.not_mem_nil,or_false] at hx;rcases hx with rfl | rfl | rfl | rfl
 ·show -500000≤frLo _ _ _ _∧frLo _ _ _ _≤500000∧-500000≤frLo _ _ _ _∧frLo _ _ _ _≤500000
  omega
 ·show -500000≤frLo _ _ _ _∧frLo _ _ _ _≤500000∧-500000≤frHi _ _ _ _∧frHi _ _ _ _≤500000
  omega
 ·show -500000≤frHi _ _ _ _∧frHi _ _ _ _≤500000∧-500000≤frLo _ _ _ _∧frLo _ _ _ _≤500000
  omega
 ·show -500000≤frHi _ _ _ _∧frHi _ _ _ _≤500000∧-500000≤frHi _ _ _ _∧frHi _ _ _ _≤500000
  omega
theorem Z3M {l:List Pt} (h:∀ k,k<l.length→Z4 (nth l k)=true) {i:Nat} (hi:i<l.length):Z4 (sideP l i).1=true∧Z4 (sideP l i).2=true:=⟨h i hi,h _ (Nat.mod_lt _ (by omega))⟩
theorem Z5r {l m:List Pt} (hm:∀ k,k<m.length→Z4 (nth m k)=true) {x:Pt} (hx:x ∈ crossP l m):Z4 x=true:=by
 unfold crossP crossL rowS sidesL at hx;simp only [List.mem_flatMap,Z1V] at hx;obtain⟨S,⟨i,hi,rfl⟩,T,⟨j,hj,rfl⟩,hx⟩:=hx;unfold crossST at hx
 split at hx
 ·rename_i h
  simp only [Bool.and_eq_true] at h;exact Z5k h.1 (Z3M hm hj).1 (Z3M hm hj).2 hx
 ·cases hx
theorem cmp_mv (b p q:Pt):cmpP (mvP b p) (mvP b q)=cmpP p q:=by
 have c:∀ u v w:Int,cmpI (u+w) (v+w)=cmpI u v:=fun u v w=>by
  unfold cmpI;repeat' split
  all_goals omega
 simp only [cmpP,cmpV,mvP,c]
section
variable {b:Pt} {l m:List Pt} (hl:Zb l=true) (hm:Zb m=true) (hl':Zb (mvL b l)=true) (hm':Zb (mvL b m)=true)
include hl hm hl' hm'
end
section
attribute [local irreducible] wpQuiet
open Go.RowKit
def crossR (S T:Pt × Pt):List Pt:=if (crossB (Z6 S.1 S.2 T.1) (Z6 S.1 S.2 T.2) && crossB (Z6 T.1 T.2 S.1) (Z6 T.1 T.2 S.2))=true then frameR T.1 T.2 (Z6 S.1 S.2 T.1) (Z6 S.1 S.2 T.2) else []
theorem Z7C {S T:Pt × Pt} {x:Pt}:x ∈ crossR S T↔x ∈ crossST S T:=by
 unfold crossR crossST
 split
 ·exact Z7B
 ·exact Iff.rfl
theorem Z7W (S T:Pt × Pt):(crossR S T).length≤4:=by unfold crossR;split <;> simp [frameR]
def rowTo (S:Pt × Pt) (m:List Pt) (j:Nat):List Pt:=(upto (sideP m) j).flatMap (crossR S)
def outTo (l m:List Pt) (i:Nat):List Pt:=(upto (sideP l) i).flatMap fun S=>rowTo S m m.length
def crossPR (l m:List Pt):List Pt:=outTo l m l.length
theorem Z3N (S:Pt × Pt) (m:List Pt) (j:Nat):rowTo S m (j+1)=rowTo S m j++crossR S (sideP m j):=by simp [rowTo,Zo]
theorem Z3U (l m:List Pt) (i:Nat):outTo l m (i+1)=outTo l m i++rowTo (sideP l i) m m.length:=by simp [outTo,Zo]
theorem Z32 (S:Pt × Pt) (m:List Pt):∀ j,(rowTo S m j).length≤4*j
 | 0=>by simp [rowTo,upto]
 | j + 1 => by
  rw [Z3N,List.length_append];have:=Z32 S m j;have:=Z7W S (sideP m j);omega
theorem Z1U (l m:List Pt):∀ i,(outTo l m i).length≤4*m.length*i
 | 0=>by simp [outTo,upto]
 | i + 1 => by
  rw [Z3U,List.length_append,Nat.mul_succ];have:=Z1U l m i;have:=Z32 (sideP l i) m m.length;omega
theorem Z65 {l m:List Pt} {x:Pt}:x ∈ crossPR l m↔x ∈ crossP l m:=by
 unfold crossPR outTo crossP crossL rowS sidesL rowTo;simp only [List.mem_flatMap,Z7C]
structure CS (A B:Nat) (ax ay bx by':Int) (xs:List Pt) (out:Value) (w W:World):Prop where
 hA:w.heap.size≤A∧A<W.heap.size
 hB:w.heap.size≤B∧B<W.heap.size
 nA:out.ownBlock≠some A
 nB:out.ownBlock≠some B
 gA:Has W A #[.int .i64 ax,.int .i64 ay] 41
 gB:Has W B #[.int .i64 bx,.int .i64 by'] 41
 row:W.ownsRow w.heap.size 41 2 out xs.length (Za xs)
 bel:Below w.heap.size w W
theorem CS.below {A B:Nat} {ax ay bx by':Int} {xs:List Pt} {out:Value} {w W W':World} (h:CS A B ax ay bx by' xs out w W) (hb:Below W.heap.size W W'):CS A B ax ay bx by' xs out w W' :=
 ⟨⟨h.hA.1,Nat.lt_of_lt_of_le h.hA.2 hb.size⟩,⟨h.hB.1,Nat.lt_of_lt_of_le h.hB.2 hb.size⟩,h.nA,h.nB,h.gA.below hb h.hA.2,h.gB.below hb h.hB.2,Zj h.row hb,h.bel.trans (hb.mono h.bel.size)⟩
theorem CS.app {A B:Nat} {ax ay bx by':Int} {xs ys:List Pt} {out out':Value} {w W W':World} (h:CS A B ax ay bx by' xs out w W) (hr:W'.ownsRow w.heap.size 41 2 out' (xs.length+ys.length) (Za xs++Za ys)) (hg:W.grownBy W' out.ownBlock) (ho:out'.ownBlock=out.ownBlock∨out'.ownBlock=some W.heap.size):CS A B ax ay bx by' (xs++ys) out' w W':=by
 have hz:=hg.size;refine⟨⟨h.hA.1,by have:=h.hA.2;omega⟩,⟨h.hB.1,by have:=h.hB.2;omega⟩,?_,?_,h.gA.kept hg h.nA,h.gB.kept hg h.nB,by rw [List.length_append,Zu];exact hr,h.bel.trans ((Below.refl w.heap.size W).grown hg h.bel.size fun j ej=>(h.row.lt j ej).1)⟩
 ·rcases ho with e | e
  ·rw [e];exact h.nA
  ·rw [e];intro e';cases e';exact absurd h.hA.2 (Nat.lt_irrefl _)
 ·rcases ho with e | e
  ·rw [e];exact h.nB
  ·rw [e];intro e';cases e';exact absurd h.hB.2 (Nat.lt_irrefl _)
structure DS (C D:Nat) (cx cy dx dy:Int) (W:World):Prop where
 gC:Has W C #[.int .i64 cx,.int .i64 cy] 41
 gD:Has W D #[.int .i64 dx,.int .i64 dy] 41
theorem DS.below {C D:Nat} {cx cy dx dy:Int} {W W':World} (h:DS C D cx cy dx dy W) (hb:Below W.heap.size W W'):DS C D cx cy dx dy W':=⟨h.gC.below hb h.gC.lt,h.gD.below hb h.gD.lt⟩
theorem Z8d (W:World) (ax ay bx by':Int):Has ((W.alloc (.cells #[.int .i64 ax,.int .i64 ay] 41)).alloc (.cells #[.int .i64 bx,.int .i64 by'] 41)) W.heap.size #[.int .i64 ax,.int .i64 ay] 41∧Has ((W.alloc (.cells #[.int .i64 ax,.int .i64 ay] 41)).alloc (.cells #[.int .i64 bx,.int .i64 by'] 41)) (W.heap.size+1) #[.int .i64 bx,.int .i64 by'] 41∧Below W.heap.size W ((W.alloc (.cells #[.int .i64 ax,.int .i64 ay] 41)).alloc (.cells #[.int .i64 bx,.int .i64 by'] 41))∧((W.alloc (.cells #[.int .i64 ax,.int .i64 ay] 41)).alloc (.cells #[.int .i64 bx,.int .i64 by'] 41)).heap.size=W.heap.size+2:=by
 refine⟨(Has.new W #[.int .i64 ax,.int .i64 ay] 41).below ((Below.refl (W.heap.size+1) _).alloc (by simp) (.cells #[.int .i64 bx,.int .i64 by'] 41)) (by omega),?_,((Below.refl W.heap.size W).alloc (Nat.le_refl _) _).alloc (by simp) _,by simp⟩
 have:=Has.new (W.alloc (.cells #[.int .i64 ax,.int .i64 ay] 41)) #[.int .i64 bx,.int .i64 by'] 41
 rwa [World.size_alloc] at this
theorem Z6I {k n:Nat} (hk:k<n) (hn:n≤70368744177663):∃ m:Nat,m<n∧(k+1) % n=m∧IntKind.i64.wrap ((k:Int)+1)=(k:Int)+1∧((k:Int)+1).tmod (n:Int)=(m:Int):=by
 refine⟨(k+1) % n,Nat.mod_lt _ (by omega),rfl,zW2,?_⟩
 rw [Int.tmod_eq_emod_of_nonneg (by omega)];rfl
set_option linter.unusedVariables false in
theorem Z3z (vp vq : Value) (l m : List Pt) (w : World) (hp : Z8 w.heap.size w vp l) (hq : Z8 w.heap.size w vq m) (hl : Zb l = true) (hm : Zb m = true) :
  Calls Tryz.prog 200 #[vp,vq] w (PtsQ (crossPR l m) w):=by
 have GL:=Zy hl;have GM:=Zy hm;have l1:=GL.1;have l64:=GL.2.1;have m1:=GM.1;have m64:=GM.2.1;have PL:=Lib.hid (fun k hk=>Zi (GL.2.2.1 k hk).1)
 have PM:=Lib.hid (fun k hk=>Zi (GM.2.2.1 k hk).1)
 obtain⟨hll,a,cap,rfl,hc⟩:=hp;obtain⟨b,o,rfl,hb,hc⟩:=hc.resolve_left (by intro h;rw [h] at l1;simp at l1)
 obtain⟨hlm,a2,cap2,rfl,hc2⟩:=hq;obtain⟨b2,o2,rfl,hb2,hc2⟩:=hc2.resolve_left (by intro h;rw [h] at m1;simp at m1)
 have HC:=Lib.hid hc;have HC2:=Lib.hid hc2;have nel:¬ l=[]:=by intro h;rw [h] at l1;simp at l1
 have nem:¬ m=[]:=by intro h;rw [h] at m1;simp at m1
 obtain⟨i0,hi,hz0',hz1',hz2'⟩:=info_parts ptInfo;clear hc hc2 hl hm GL GM;go_enter Tryz.func200,Tryz.ntmps200;go_wp2
 go_loopw [5,6] (fun out i wr=>∃ k:Nat,k≤l.length∧i=.int .i64 (k:Int)∧wr.ownsRow w.heap.size 41 2 out (outTo l m k).length (Za (outTo l m k))∧Below w.heap.size w wr) (fun _ i _=>l.length-(intOf i).toNat)
 case atStart=>exact⟨0,by omega,rfl,World.ownsRow_nil _ _ _ _,Below.refl _ _⟩
 case round =>
  rename World=>wo
  obtain⟨i,hik,rfl,hrow,hB⟩:=hrel;have hzB:=hB.size;by_cases hlt:i<l.length
  ·obtain ⟨mi, hmi, hme, mw, mt⟩ := Z6I hlt hll
   have pa:=PL.out i hlt;have pb:=PL.out mi hmi;have hsd:sideP l i=(nth l i,nth l mi):=by unfold sideP;rw [hme]
   have hos:=Z3U l m i;rw [hsd] at hos;obtain⟨q0,q1⟩:=HC.out i hlt;obtain⟨q2,q3⟩:=HC.out mi hmi;have e0:=(hB.cell (p:=⟨b,o+i*2,none⟩) hb).trans q0;have e1:=(hB.cell (p:=⟨b,o+i*2+1,none⟩) hb).trans q1;obtain⟨⟨ax,ay⟩,hea⟩:∃ t,nth l i=t:=⟨_,rfl⟩;obtain⟨⟨bx,by'⟩,heb⟩:∃ t,nth l mi=t:=⟨_,rfl⟩
   rw [hea] at e0 e1 pa hos;rw [heb] at q2 q3 pb hos;simp only at e0 e1 q2 q3 pa pb;have hBa:=hB.alloc hzB (.cells #[.int .i64 ax,.int .i64 ay] 41);have e2:=(hBa.cell (p:=⟨b,o+mi*2,none⟩) hb).trans q2;have e3:=(hBa.cell (p:=⟨b,o+mi*2+1,none⟩) hb).trans q3;have h2:=Z8d wo ax ay bx by'
   have hos':=Lib.hid hos;obtain⟨xs,hxs⟩:∃ xs,outTo l m i=xs:=⟨_,rfl⟩;have hxl:=Z1U l m i;rw [hxs] at hrow hos' hxl;have hlt4:4*m.length*i≤4*64*64:=Nat.mul_le_mul (Nat.mul_le_mul (Nat.le_refl 4) m64) (by omega)
   have HS0:Hid (CS wo.heap.size (wo.heap.size+1) ax ay bx by' (xs++rowTo (⟨ax,ay⟩,⟨bx,by'⟩) m 0) u5 w ((wo.alloc (.cells #[.int .i64 ax,.int .i64 ay] 41)).alloc (.cells #[.int .i64 bx,.int .i64 by'] 41))):=by
    have e:rowTo (⟨ax,ay⟩,⟨bx,by'⟩) m 0=[]:=rfl
    rw [e,List.append_nil];exact⟨⟨hzB,by rw [h2.2.2.2];omega⟩,⟨by omega,by rw [h2.2.2.2];omega⟩,fun e=>by have:=(hrow.lt _ e).2;omega,fun e=>by have:=(hrow.lt _ e).2;omega,h2.1,h2.2.1,Zj hrow h2.2.2.1,hB.trans (h2.2.2.1.mono hzB)⟩
   have ki:(i:Int)<l.length:=by omega
   have k0:(0:Int)≤i:=by omega
   have kmi:(mi:Int)<l.length:=by omega
   have kmi0:(0:Int)≤mi:=by omega
   have di:decide ((i:Int)<(l.length:Int))=true:=by simp;omega
   clear q0 q1 q2 q3 hea heb hsd hos hme hxs hrow hB hBa h2;go_wp2
   go_loopw [5,9] (fun out j wr'=>∃ k:Nat,k≤m.length∧j=.int .i64 (k:Int)∧CS wo.heap.size (wo.heap.size+1) ax ay bx by' (xs++rowTo (⟨ax,ay⟩,⟨bx,by'⟩) m k) out w wr') (fun _ j _=>m.length-(intOf j).toNat)
   case atStart=>exact⟨0,by omega,rfl,HS0.out⟩
   case round =>
    clear HS0 mt mw e0 e1 e2 e3;obtain⟨j,hjk,rfl,hS⟩:=hrel;have hzB:=hS.bel.size;by_cases hlj:j<m.length
    ·obtain⟨mj,hmj,hme,mw,mt⟩:=Z6I hlj hlm
     have pc:=PM.out j hlj;have pd:=PM.out mj hmj;have hsd:sideP m j=(nth m j,nth m mj):=by unfold sideP;rw [hme]
     have hos:=Z3N (⟨ax,ay⟩,⟨bx,by'⟩) m j
     rw [hsd] at hos;obtain⟨q0,q1⟩:=HC2.out j hlj;obtain⟨q2,q3⟩:=HC2.out mj hmj;have e0:=(hS.bel.cell (p:=⟨b2,o2+j*2,none⟩) hb2).trans q0;have e1:=(hS.bel.cell (p:=⟨b2,o2+j*2+1,none⟩) hb2).trans q1;obtain⟨⟨cx,cy⟩,hec⟩:∃ t,nth m j=t:=⟨_,rfl⟩;obtain⟨⟨dx,dy⟩,hed⟩:∃ t,nth m mj=t:=⟨_,rfl⟩;rw [hec] at e0 e1 pc hos;rw [hed] at q2 q3 pd hos;simp only at e0 e1 q2 q3 pc pd;have hBa:=hS.bel.alloc hzB (.cells #[.int .i64 cx,.int .i64 cy] 41);have e2:=(hBa.cell (p:=⟨b2,o2+mj*2,none⟩) hb2).trans q2;have e3:=(hBa.cell (p:=⟨b2,o2+mj*2+1,none⟩) hb2).trans q3;have h2:=Z8d wr cx cy dx dy;have hrl:=Z32 (⟨ax,ay⟩,⟨bx,by'⟩) m j
     have hfl:∀ s t:Int,(frameR ⟨cx,cy⟩ ⟨dx,dy⟩ s t).length=4:=fun _ _=>rfl
     have ts:=Z2G (a:=⟨ax,ay⟩) (b:=⟨bx,by'⟩) (c:=⟨cx,cy⟩) pa pb pc
     have tt:=Z2G (a:=⟨ax,ay⟩) (b:=⟨bx,by'⟩) (c:=⟨dx,dy⟩) pa pb pd
     simp only at ts tt;have f1:=Lib.hid (fun w1=>Z0o ax ay bx by' cx cy w1 (by omega) (by omega) (by omega) (by omega) (by omega) (by omega) (by omega) (by omega) (by omega) (by omega) (by omega) (by omega))
     have f2:=Lib.hid (fun w1=>Z0o ax ay bx by' dx dy w1 (by omega) (by omega) (by omega) (by omega) (by omega) (by omega) (by omega) (by omega) (by omega) (by omega) (by omega) (by omega))
     have f3:=Lib.hid (fun w1=>Z0o cx cy dx dy ax ay w1 (by omega) (by omega) (by omega) (by omega) (by omega) (by omega) (by omega) (by omega) (by omega) (by omega) (by omega) (by omega))
     have f4:=Lib.hid (fun w1=>Z0o cx cy dx dy bx by' w1 (by omega) (by omega) (by omega) (by omega) (by omega) (by omega) (by omega) (by omega) (by omega) (by omega) (by omega) (by omega))
     have hpc:Z4 ⟨cx,cy⟩=true:=ZT.2 pc;have hpd:Z4 ⟨dx,dy⟩=true:=ZT.2 pd;have hcr:crossR (⟨ax,ay⟩,⟨bx,by'⟩) (⟨cx,cy⟩,⟨dx,dy⟩)=if (crossB (turnV ax ay bx by' cx cy) (turnV ax ay bx by' dx dy) && crossB (turnV cx cy dx dy ax ay) (turnV cx cy dx dy bx by'))=true then frameR ⟨cx,cy⟩ ⟨dx,dy⟩ (turnV ax ay bx by' cx cy) (turnV ax ay bx by' dx dy) else []:=rfl
     rw [hcr] at hos;obtain⟨s,hs⟩:∃ s,turnV ax ay bx by' cx cy=s:=⟨_,rfl⟩
     obtain⟨t,ht⟩:∃ s,turnV ax ay bx by' dx dy=s:=⟨_,rfl⟩
     obtain⟨u,hu⟩:∃ s,turnV cx cy dx dy ax ay=s:=⟨_,rfl⟩;obtain⟨v,hv⟩:∃ s,turnV cx cy dx dy bx by'=s:=⟨_,rfl⟩
     rw [hs,ht,hu,hv] at hos;rw [hs] at f1 ts;rw [ht] at f2 tt;rw [hu] at f3;rw [hv] at f4;have d1:=Lib.hid (fun w1=>Z4c s t w1)
     have d2:=Lib.hid (fun w1=>Z4c u v w1)
     have hf:=Lib.hid (fun (hne:¬ s-t=0) w1=>Z7q ⟨cx,cy⟩ ⟨dx,dy⟩ s t w1 hpc hpd ts.1 ts.2 tt.1 tt.2 hne)
     have hne:crossB s t=true→¬ s-t=0:=fun h=>by unfold crossB at h;rw [decide_eq_true_eq] at h;omega
     obtain⟨c1,hc1⟩:∃ c,crossB s t=c:=⟨_,rfl⟩;obtain⟨c2,hc2⟩:∃ c,crossB u v=c:=⟨_,rfl⟩;rw [hc1] at d1 hos hne;rw [hc2] at d2 hos;have HOS:=Lib.hid hos;have HNE:=Lib.hid hne;have HS:=Lib.hid (hS.below h2.2.2.1);have HD:Hid (DS wr.heap.size (wr.heap.size+1) cx cy dx dy ((wr.alloc (.cells #[.int .i64 cx,.int .i64 cy] 41)).alloc (.cells #[.int .i64 dx,.int .i64 dy] 41))):=⟨h2.1,h2.2.1⟩;have ki:(j:Int)<m.length:=by omega
     have k0':(0:Int)≤j:=by omega
     have kmj:(mj:Int)<m.length:=by omega
     have kmj0:(0:Int)≤mj:=by omega
     have dj:decide ((j:Int)<(m.length:Int))=true:=by simp;omega
     obtain⟨C0,hC0⟩:∃ C0,wr.heap.size=C0:=⟨_,rfl⟩;have za0:=(HS.out.gA.cell (i:=0) rfl);have za1:=(HS.out.gA.cell (i:=1) rfl);have zb0:=(HS.out.gB.cell (i:=0) rfl);have zb1:=(HS.out.gB.cell (i:=1) rfl);have zc0:=(HD.out.gC.cell (i:=0) rfl);have zc1:=(HD.out.gC.cell (i:=1) rfl);have zd0:=(HD.out.gD.cell (i:=0) rfl);have zd1:=(HD.out.gD.cell (i:=1) rfl);clear q0 q1 q2 q3 hec hed hsd hos hme hS hBa h2 pa pb pc pd hpc hpd hcr hs ht hu hv ts tt hne hc1 hc2 hC0;go_wp2_with fail;refine (f1.out _).mono ?_;rintro e w5 ⟨rfl,b5⟩;have HS':=Lib.hid (HS.out.below b5);have HD':=Lib.hid (HD.out.below b5);clear za0 za1 zb0 zb1 zc0 zc1 zd0 zd1 HS HD;have HS:=HS';have HD:=HD';clear HS' HD';have za0:=(HS.out.gA.cell (i:=0) rfl);have za1:=(HS.out.gA.cell (i:=1) rfl);have zb0:=(HS.out.gB.cell (i:=0) rfl);have zb1:=(HS.out.gB.cell (i:=1) rfl);have zc0:=(HD.out.gC.cell (i:=0) rfl);have zc1:=(HD.out.gC.cell (i:=1) rfl);have zd0:=(HD.out.gD.cell (i:=0) rfl);have zd1:=(HD.out.gD.cell (i:=1) rfl);clear b5;go_wp2_with fail;refine (f2.out _).mono ?_;rintro e w6 ⟨rfl,b6⟩;have HS':=Lib.hid (HS.out.below b6);have HD':=Lib.hid (HD.out.below b6);clear za0 za1 zb0 zb1 zc0 zc1 zd0 zd1 HS HD;have HS:=HS';have HD:=HD';clear HS' HD';have za0:=Low.fact (HS.out.gA.cell (i:=0) rfl);have za1:=Low.fact (HS.out.gA.cell (i:=1) rfl);have zb0:=Low.fact (HS.out.gB.cell (i:=0) rfl);have zb1:=Low.fact (HS.out.gB.cell (i:=1) rfl);have zc0:=Low.fact (HD.out.gC.cell (i:=0) rfl);have zc1:=Low.fact (HD.out.gC.cell (i:=1) rfl);have zd0:=Low.fact (HD.out.gD.cell (i:=0) rfl);have zd1:=Low.fact (HD.out.gD.cell (i:=1) rfl);clear b6;go_wp2_with (go_at_call 206;refine (d1.out _).mono ?_;rintro e w' ⟨rfl,rfl⟩)
     (refine Ze (by kernel_rfl) (by kernel_rfl) ?_;(iterate 10 (apply Zd;(case hw=>rfl);(case hval=>(intro w1 hw1;have hcx:=Low.cells hw1;simp only [Oper.quietAt];go_simp;first | done | (first | (go_at_call 68;with_reducible exact Low.calls hw1 (f3.out _)) | (go_at_call 68;with_reducible exact Low.calls hw1 (f4.out _)) | (go_at_call 206;with_reducible exact Low.calls_same hw1 (d2.out _))) | rfl | exact⟨rfl,rfl⟩));simp only [Act.put,zq4,zr4,zs4]));refine wpQuiet_nil ?_;intro w2 hw2)
     have HS':=Lib.hid (HS.out.below hw2.out);have HD':=Lib.hid (HD.out.below hw2.out);clear za0 za1 zb0 zb1 zc0 zc1 zd0 zd1 HS HD;have HS:=HS';have HD:=HD';clear HS' HD';have za0:=(HS.out.gA.cell (i:=0) rfl);have za1:=(HS.out.gA.cell (i:=1) rfl);have zb0:=(HS.out.gB.cell (i:=0) rfl);have zb1:=(HS.out.gB.cell (i:=1) rfl);have zc0:=(HD.out.gC.cell (i:=0) rfl);have zc1:=(HD.out.gC.cell (i:=1) rfl);have zd0:=(HD.out.gD.cell (i:=0) rfl);have zd1:=(HD.out.gD.cell (i:=1) rfl);clear hw2 d1 d2 f1 f2 f3 f4 mt mw e0 e1 e2 e3;cases c1
     ·have hz:=HS.out.bel.size
      go_wp2;go_roundw
      case rel =>
       refine⟨j+1,by omega,by go_num,?_⟩
       rw [HOS.out]
       simpa using HS.out
      case measure=>simp [intOf];omega
     ·cases c2
      ·have hz:=HS.out.bel.size
       go_wp2;go_roundw
       case rel =>
        refine⟨j+1,by omega,by go_num,?_⟩
        rw [HOS.out]
        simpa using HS.out
       case measure=>simp [intOf];omega
      ·go_wp2_with fail
       refine (hf.out (HNE.out trivial) _).mono ?_;rintro e w8 ⟨vf,rfl,hpf,b8⟩;have HS':=Lib.hid (HS.out.below b8);obtain⟨_,af,capf,rfl,hcf⟩:=hpf;obtain⟨bf,of,rfl,hbf,hcf⟩:=hcf.resolve_left (fun h=>by have:=hfl s t;rw [h] at this;simp at this)
       have hz:=HS'.out.bel.size;have hl1:=hfl s t;rw [hl1];have hrw:=HS'.out.row;have hlen:(xs++rowTo (⟨ax,ay⟩,⟨bx,by'⟩) m j).length≤100000:=by rw [List.length_append];omega
       clear za0 za1 zb0 zb1 zc0 zc1 zd0 zd1 HS HD b8;go_wp2_with (at_builtin;refine wpList_append_own_at _ rfl _ _ 23 rfl w.heap.size 41 i0 (.agg #[.int .i64 0,.int .i64 0]) 2 16 Tryz.underlying23 hi hz0' hz1' hz2' rfl (by decide) _ _ _ rfl hrw ⟨bf,of,none⟩ 4 _ (Za (frameR ⟨cx,cy⟩ ⟨dx,dy⟩ s t)) rfl (by rw [Zr,hl1]) (Z3T hcf) (Z01 _) (by unfold maxLen;omega) (by omega) hz ?_;intro v' w9 hown' hgrow _ hob)
       have HZ:=Lib.hid (HS'.out.app (ys:=frameR ⟨cx,cy⟩ ⟨dx,dy⟩ s t) (by rw [hl1];exact hown') hgrow hob)
       clear hown' hgrow hob hrw hcf;go_roundw
       case rel =>
        refine⟨j+1,by omega,by go_num,?_⟩
        rw [HOS.out];rw [← List.append_assoc];exact HZ.out
       case measure=>simp [intOf];omega
    ·obtain rfl:j=m.length:=by omega
     have dj:decide ((m.length:Int)<(m.length:Int))=false:=by simp
     have HZ:=Lib.hid hS;clear hS;go_wp2;go_roundw
     case rel =>
      refine⟨i+1,by omega,by go_num,?_,HZ.out.bel⟩
      rw [hos'.out];exact HZ.out.row
     case measure=>simp [intOf];omega
  ·obtain rfl:i=l.length:=by omega
   have dk:decide ((l.length:Int)<(l.length:Int))=false:=by simp
   have hxl:=Z1U l m l.length;have hlt4:4*m.length*l.length≤4*64*64:=Nat.mul_le_mul (Nat.mul_le_mul (Nat.le_refl 4) m64) l64;have HI:=Lib.hid (Z8.own hrow (by omega))
   have HB:=Lib.hid hB;clear hrow hB;go_wp2;go_ret;exact⟨_,rfl,HI.out,HB.out⟩
theorem Z18 (vp vq : Value) (l m : List Pt) (w : World) (hp : Z8 w.heap.size w vp l) (hq : Z8 w.heap.size w vq m) (hs : l.length ≤ 1000000) (hpl : ∀ k, k < l.length → Z4 (nth l k) = true) (hm : Zb m = true) :
  Calls Tryz.prog 154 #[vp,vq] w (PtsQ (cornersP l m) w):=by
 have HQ:=Lib.hid hq;have GM:=Lib.hid (Zy hm);have HPL:=Lib.hid hpl;obtain⟨hll,a,cap,rfl,hc⟩:=hp;obtain⟨aq,capq,rfl⟩:=hq.len;have HC:=Lib.hid hc;obtain⟨i0,hi,hz0',hz1',hz2'⟩:=info_parts ptInfo;clear hc hq hpl hm;go_enter Tryz.func154,Tryz.ntmps154;go_wp2
 go_loopw [5,6] (fun v i wr=>∃ k:Nat,k≤l.length∧i=.int .i64 (k:Int)∧wr.ownsRow w.heap.size 41 2 v (cornersTo l m k).length (Za (cornersTo l m k))∧Below w.heap.size w wr) (fun _ i _=>l.length-(intOf i).toNat)
 case atStart=>exact⟨0,by omega,rfl,World.ownsRow_nil _ _ _ _,Below.refl _ _⟩
 case round =>
  obtain⟨k,hk,rfl,hrow,hB⟩:=hrel;have hzB:=hB.size;by_cases hlt:k<l.length
  ·obtain⟨b,o,rfl,hb,hcc⟩:∃ b o,a=some ⟨b,o,none⟩∧b<w.heap.size∧∀ j,j<l.length→w.cell? ⟨b,o+j*2,none⟩=some (.int .i64 (nth l j).x)∧w.cell? ⟨b,o+j*2+1,none⟩=some (.int .i64 (nth l j).y):=by
    rcases HC.out with h | h
    ·rw [h] at hlt;simp at hlt
    ·exact h
   obtain⟨q0,q1⟩:=hcc k hlt;have e0:=(hB.cell (p:=⟨b,o+k*2,none⟩) hb).trans q0;have e1:=(hB.cell (p:=⟨b,o+k*2+1,none⟩) hb).trans q1;have E01:=Lib.hid (And.intro q0 q1);have hlen:=ZY l m k;have hpx:=HPL.out k hlt;have hst:Hid (cornersTo l m (k+1)=if inside m ⟨(nth l k).x,(nth l k).y⟩=true then cornersTo l m k++[⟨(nth l k).x,(nth l k).y⟩] else cornersTo l m k):=by
    show _=_
    have:=Zay GM.out hpx;simp only [cornersTo,show (hasB m (nth l k)=true)=(inside m (nth l k)=true) from propext this]
   obtain⟨cl,hcl⟩:∃ cl,cornersTo l m k=cl:=⟨_,rfl⟩;rw [hcl] at hrow hst hlen;have hh:=Z5R (.slice aq m.length (m.length+capq)) m ⟨(nth l k).x,(nth l k).y⟩ wr ((HQ.out.below hB).mono hB.size) GM.out hpx;have dk:decide ((k:Int)<(l.length:Int))=true:=by simp;omega
   have kl:(k:Int)<l.length:=by omega
   have k0:(0:Int)≤k:=by omega
   have HH:=Lib.hid hh;have HR:=Lib.hid hrow;have HB:=Lib.hid hB;clear hcc q0 q1 hrow hh hB hcl hpx;cases hin:inside m ⟨(nth l k).x,(nth l k).y⟩
   ·rw [hin] at HH hst
    clear hin;generalize (nth l k).x=px at *;generalize (nth l k).y=py at *;go_wp2_with fail;refine HH.out.mono ?_;rintro e w2 ⟨rfl,hb2⟩;have R2:=Lib.hid (Zj HR.out hb2);have B2:=Lib.hid (HB.out.trans (hb2.mono hzB));clear hb2;go_wp2;go_roundw
    case rel=>exact⟨k+1,by omega,by go_num,by rw [hst.out];exact R2.out,B2.out⟩
    case measure=>simp [intOf];omega
   ·rw [hin] at HH hst
    clear hin;generalize (nth l k).x=px at *;generalize (nth l k).y=py at *;go_wp2_with fail;refine HH.out.mono ?_;rintro e w2 ⟨rfl,hb2⟩;have R2:=Lib.hid (Zj HR.out hb2);have B2:=Lib.hid (HB.out.trans (hb2.mono hzB));have x0:=(B2.out.cell (p:=⟨b,o+k*2,none⟩) hb).trans E01.out.1;have x1:=(B2.out.cell (p:=⟨b,o+k*2+1,none⟩) hb).trans E01.out.2;have hz2:=B2.out.size;clear hb2 e0 e1;go_wp2_with (at_builtin;refine wpList_append_own _ rfl _ _ 23 rfl w.heap.size 41 i0 (.agg #[.int .i64 0,.int .i64 0]) 2 16 Tryz.underlying23 hi hz0' hz1' hz2' rfl (by decide) _ _ _ rfl (R2.out.alloc _) ⟨w2.heap.size,0,none⟩ 1 1 [.int .i64 px,.int .i64 py] rfl rfl (Z11 _ _ _) (by simp [Value.oneCell']) (by unfold maxLen;omega) (by omega) (by simp;omega) ?_;intro v' w4 hown' hgrow _)
    go_roundw
    case rel =>
     have hb0:Below w.heap.size w2 w4:=((Below.refl w.heap.size w2).alloc (by omega) _).grown hgrow (by simp;omega) (fun j ej=>(R2.out.lt j ej).1)
     refine⟨k+1,by omega,by go_num,?_,B2.out.trans hb0⟩
     rw [hst.out]
     simpa [Za] using hown'
    case measure=>simp [intOf];omega
  ·obtain rfl:k=l.length:=by omega
   have dk:decide ((l.length:Int)<(l.length:Int))=false:=by simp
   have HI:=Lib.hid (Z8.own hrow (by have:=ZY l m l.length;omega))
   have HB:=Lib.hid hB;clear hrow hB;go_wp2;go_ret;exact⟨_,rfl,HI.out,HB.out⟩
noncomputable def liesB (l m:List Pt):Bool:=decide ((cornersP l m).length=l.length)
theorem Zap (vp vq:Value) (l m:List Pt) (w:World) (hp:Z8 w.heap.size w vp l) (hq:Z8 w.heap.size w vq m) (hl:Zb l=true) (hm:Zb m=true) :
  Calls Tryz.prog 127 #[vp,vq] w fun e w'=>e=.returned (.bool (liesB l m))∧Below w.heap.size w w':=by
 have GL:=Zy hl;have l64:=GL.2.1;have f:=Lib.hid (Z18 vp vq l m w hp hq (by omega) (fun k hk=>(GL.2.2.1 k hk).1) hm)
 obtain⟨ap,capp,rfl⟩:=hp.len;obtain⟨aq,capq,rfl⟩:=hq.len;have he:Hid (decide (((cornersP l m).length:Int)=(l.length:Int))=liesB l m):=by
  show _=_
  unfold liesB;rw [Bool.eq_iff_iff];simp only [decide_eq_true_eq];omega
 clear hp hq GL;go_enter Tryz.func127,Tryz.ntmps127;go_wp2_with fail;refine f.out.mono ?_;rintro e w1 ⟨v,rfl,h1,b1⟩;obtain⟨a1,cap1,rfl⟩:=h1.len;have B1:=Lib.hid b1;clear b1 h1;go_wp2;go_ret;exact⟨by rw [← he.out];first | rfl | (congr 2;rw [Bool.eq_iff_iff];simp),B1.out⟩
def linP (a b:Int) (p:Pt):Int:=a*p.x+b*p.y
theorem Z8P {f:Pt→Int} {l:List Pt} {m:Int} (h:∀ k,k<l.length→-m≤f (nth l k)∧f (nth l k)≤m) (h1:1≤l.length):∀ k,k≤l.length→(-m≤loTo f l k∧loTo f l k≤m)∧(-m≤hiTo f l k∧hiTo f l k≤m)
 | 0,_=>⟨h 0 (by omega),h 0 (by omega)⟩
 | k + 1, hk => by
  have ih:=Z8P h h1 k (by omega)
  have:=h k (by omega)
  simp only [loTo,hiTo];constructor <;> split <;> omega
theorem Zbj {a b:Int} (ha:-1≤a∧a≤1) (hb:-1≤b∧b≤1) {p:Pt} (hp:Z4 p=true):-1000000≤linP a b p∧linP a b p≤1000000:=by
 have:=ZT.1 hp;have x:=ZC (a:=a) (b:=p.x) (m:=1) (n:=500000) (by omega) (by omega) (by omega) (by omega)
 have y:=ZC (a:=b) (b:=p.y) (m:=1) (n:=500000) (by omega) (by omega) (by omega) (by omega)
 unfold linP;omega
theorem Zao (f:Pt→Int) (l:List Pt):loTo f l 1=f (nth l 0):=ite_self _
theorem Zax (f:Pt→Int) (l:List Pt):hiTo f l 1=f (nth l 0):=ite_self _
theorem Z1u (v : Value) (l : List Pt) (a b : Int) (w : World) (hp : Z8 w.heap.size w v l) (h1 : 0 < l.length) (hl : ∀ k, k < l.length → Z4 (nth l k) = true) (ha : -1 ≤ a ∧ a ≤ 1) (hb : -1 ≤ b ∧ b ≤ 1) :
  Calls Tryz.prog 208 #[v,.int .i64 a,.int .i64 b] w fun e w'=>e=.returned (.tuple #[.int .i64 (loTo (linP a b) l l.length),.int .i64 (hiTo (linP a b) l l.length)])∧Below w.heap.size w w':=by
 obtain⟨hll,ad,cap,rfl,hc⟩:=hp;obtain⟨bk,o,rfl,hbk,hc⟩:=hc.resolve_left (by intro h;rw [h] at h1;simp at h1)
 have HC:=Lib.hid hc;have HB:Hid (∀ k,k<l.length→(∀ x y:Int,nth l k=⟨x,y⟩→IntKind.i64.wrap (a*x)=a*x∧IntKind.i64.wrap (b*y)=b*y∧IntKind.i64.wrap (a*x+b*y)=a*x+b*y)):=fun k hk x y e=>by
  have:=ZT.1 (hl k hk);rw [e] at this;simp only at this;have p1:=ZC (a:=a) (b:=x) (m:=1) (n:=500000) (by omega) (by omega) (by omega) (by omega)
  have p2:=ZC (a:=b) (b:=y) (m:=1) (n:=500000) (by omega) (by omega) (by omega) (by omega)
  exact⟨zW2,zW2,zW2⟩
 obtain⟨q0,q1⟩:=hc 0 h1;rw [Nat.zero_mul,Nat.add_zero] at q0 q1;have ho1:=Zao (linP a b) l;have ho2:=Zax (linP a b) l;obtain⟨⟨x0,y0⟩,h0⟩:∃ p,nth l 0=p:=⟨_,rfl⟩;obtain⟨w1,w2,w3⟩:=HB.out 0 h1 _ _ h0;rw [h0] at q0 q1 ho1 ho2;simp only at q0 q1;have HO:Hid (loTo (linP a b) l 1=a*x0+b*y0∧hiTo (linP a b) l 1=a*x0+b*y0):=⟨ho1,ho2⟩;have l0:=Low.fact q0;have l1:=Low.fact q1;have i0:(0:Int)<l.length:=by omega
 have ne:¬ l=[]:=by intro h;rw [h] at h1;simp at h1
 clear hc hl ha hb ho1 ho2 h0 q0 q1;go_enter Tryz.func208,Tryz.ntmps208;go_wp2
 (refine Ze (by kernel_rfl) (by kernel_rfl) ?_;(iterate 14 (apply Zd;(case hw=>rfl);(case hval=>(intro w1 hw1;have hcx:=Low.cells hw1;simp only [Oper.quietAt];go_simp;first | done | rfl | exact⟨rfl,rfl⟩));simp only [Act.put,zq4,zr4,zs4]));refine wpQuiet_nil ?_;intro w2 hw2)
 have B0:=Lib.hid hw2.out;clear hw2 l0 l1;go_wp2
 go_loopw [8,9,10] (fun x y i wr=>∃ k:Nat,k<l.length∧i=.int .i64 ((k:Int)+1)∧x=.int .i64 (loTo (linP a b) l (k+1))∧y=.int .i64 (hiTo (linP a b) l (k+1))∧Below w.heap.size w wr) (fun _ _ i _=>l.length+1-(intOf i).toNat)
 case atStart=>exact⟨0,h1,rfl,by rw [HO.out.1],by rw [HO.out.2],B0.out⟩
 case round =>
  obtain⟨k,hk,rfl,hx,hy,hB⟩:=hrel;have hzB:=hB.size;by_cases hlt:k+1<l.length
  ·subst hx
   subst hy;obtain⟨q0,q1⟩:=HC.out (k+1) hlt;have e0:=(hB.cell (p:=⟨bk,o+(k+1)*2,none⟩) hbk).trans q0;have e1:=(hB.cell (p:=⟨bk,o+(k+1)*2+1,none⟩) hbk).trans q1;have hs:Hid (loTo (linP a b) l (k+1+1)=(if linP a b (nth l (k+1))<loTo (linP a b) l (k+1) then linP a b (nth l (k+1)) else loTo (linP a b) l (k+1))∧hiTo (linP a b) l (k+1+1)=(if hiTo (linP a b) l (k+1)<linP a b (nth l (k+1)) then linP a b (nth l (k+1)) else hiTo (linP a b) l (k+1))):=⟨rfl,rfl⟩
   obtain⟨⟨x,y⟩,h0⟩:∃ p,nth l (k+1)=p:=⟨_,rfl⟩;obtain⟨m1,m2,m3⟩:=HB.out (k+1) hlt _ _ h0;rw [h0] at e0 e1 hs;simp only at e0 e1;have hlin:Hid (linP a b ⟨x,y⟩=a*x+b*y):=rfl;rw [hlin.out] at hs;have dk:decide ((k:Int)+1<(l.length:Int))=true:=by simp;omega
   have kl:(k:Int)+1<l.length:=by omega
   have k0:(0:Int)≤(k:Int)+1:=by omega
   have kn:((k:Int)+1).toNat=k+1:=by omega
   generalize loTo (linP a b) l (k+1)=lo at *;generalize hiTo (linP a b) l (k+1)=hi at *;have l0:=Low.fact e0;have l1:=Low.fact e1;have HBB:=Lib.hid hB;clear q0 q1 hB h0 hlin;rcases Int.lt_or_le (a*x+b*y) lo with h1 | h1
   ·rcases Int.lt_or_le hi (a*x+b*y) with h2 | h2
    ·rw [if_pos h1,if_pos h2] at hs
     have e8:(if a*x+b*y<lo then a*x+b*y else lo)=a*x+b*y:=if_pos h1
     have e9:(if hi<a*x+b*y then a*x+b*y else hi)=a*x+b*y:=if_pos h2
     go_wp2
     (refine Ze (by kernel_rfl) (by kernel_rfl) ?_;(iterate 18 (apply Zd;(case hw=>rfl);(case hval=>(intro w1 hw1;have hcx:=Low.cells hw1;simp only [Oper.quietAt];go_simp;first | done | rfl | exact⟨rfl,rfl⟩));simp only [Act.put,zq4,zr4,zs4]));refine wpQuiet_nil ?_;intro w2 hw2)
     have c0:=hw2.cell e0;have c1:=hw2.cell e1;have l0:=Low.fact c0;have l1:=Low.fact c1;have HB2:=Lib.hid (HBB.out.trans (hw2.out.mono hzB));clear hw2 HBB e0 e1 hzB;generalize w2=X2 at *;go_wp2
     (refine Ze (by kernel_rfl) (by kernel_rfl) ?_;(iterate 18 (apply Zd;(case hw=>rfl);(case hval=>(intro w1 hw1;have hcx:=Low.cells hw1;simp only [Oper.quietAt];go_simp;first | done | rfl | exact⟨rfl,rfl⟩));simp only [Act.put,zq4,zr4,zs4]));refine wpQuiet_nil ?_;intro w2 hw2)
     have HB3:=Lib.hid (HB2.out.trans (hw2.out.mono HB2.out.size));clear hw2 l0 l1;go_wp2;go_roundw
     case rel=>exact⟨k+1,hlt,by go_num,by rw [hs.out.1],by rw [hs.out.2],HB3.out⟩
     case measure=>simp [intOf];omega
    ·rw [if_pos h1,if_neg (by omega)] at hs
     have e8:(if a*x+b*y<lo then a*x+b*y else lo)=a*x+b*y:=if_pos h1
     have e9:(if hi<a*x+b*y then a*x+b*y else hi)=hi:=if_neg (by omega)
     go_wp2
     (refine Ze (by kernel_rfl) (by kernel_rfl) ?_;(iterate 18 (apply Zd;(case hw=>rfl);(case hval=>(intro w1 hw1;have hcx:=Low.cells hw1;simp only [Oper.quietAt];go_simp;first | done | rfl | exact⟨rfl,rfl⟩));simp only [Act.put,zq4,zr4,zs4]));refine wpQuiet_nil ?_;intro w2 hw2)
     have c0:=hw2.cell e0;have c1:=hw2.cell e1;have l0:=Low.fact c0;have l1:=Low.fact c1;have HB2:=Lib.hid (HBB.out.trans (hw2.out.mono hzB));clear hw2 HBB e0 e1 hzB;generalize w2=X2 at *;go_wp2
     (refine Ze (by kernel_rfl) (by kernel_rfl) ?_;(iterate 18 (apply Zd;(case hw=>rfl);(case hval=>(intro w1 hw1;have hcx:=Low.cells hw1;simp only [Oper.quietAt];go_simp;first | done | rfl | exact⟨rfl,rfl⟩));simp only [Act.put,zq4,zr4,zs4]));refine wpQuiet_nil ?_;intro w2 hw2)
     have HB3:=Lib.hid (HB2.out.trans (hw2.out.mono HB2.out.size));clear hw2 l0 l1;go_wp2;go_roundw
     case rel=>exact⟨k+1,hlt,by go_num,by rw [hs.out.1],by rw [hs.out.2],HB3.out⟩
     case measure=>simp [intOf];omega
   ·rcases Int.lt_or_le hi (a*x+b*y) with h2 | h2
    ·rw [if_neg (by omega),if_pos h2] at hs
     have e8:(if a*x+b*y<lo then a*x+b*y else lo)=lo:=if_neg (by omega)
     have e9:(if hi<a*x+b*y then a*x+b*y else hi)=a*x+b*y:=if_pos h2
     go_wp2
     (refine Ze (by kernel_rfl) (by kernel_rfl) ?_;(iterate 18 (apply Zd;(case hw=>rfl);(case hval=>(intro w1 hw1;have hcx:=Low.cells hw1;simp only [Oper.quietAt];go_simp;first | done | rfl | exact⟨rfl,rfl⟩));simp only [Act.put,zq4,zr4,zs4]));refine wpQuiet_nil ?_;intro w2 hw2)
     have c0:=hw2.cell e0;have c1:=hw2.cell e1;have l0:=Low.fact c0;have l1:=Low.fact c1;have HB2:=Lib.hid (HBB.out.trans (hw2.out.mono hzB));clear hw2 HBB e0 e1 hzB;generalize w2=X2 at *;go_wp2
     (refine Ze (by kernel_rfl) (by kernel_rfl) ?_;(iterate 18 (apply Zd;(case hw=>rfl);(case hval=>(intro w1 hw1;have hcx:=Low.cells hw1;simp only [Oper.quietAt];go_simp;first | done | rfl | exact⟨rfl,rfl⟩));simp only [Act.put,zq4,zr4,zs4]));refine wpQuiet_nil ?_;intro w2 hw2)
     have HB3:=Lib.hid (HB2.out.trans (hw2.out.mono HB2.out.size));clear hw2 l0 l1;go_wp2;go_roundw
     case rel=>exact⟨k+1,hlt,by go_num,by rw [hs.out.1],by rw [hs.out.2],HB3.out⟩
     case measure=>simp [intOf];omega
    ·rw [if_neg (by omega),if_neg (by omega)] at hs
     have e8:(if a*x+b*y<lo then a*x+b*y else lo)=lo:=if_neg (by omega)
     have e9:(if hi<a*x+b*y then a*x+b*y else hi)=hi:=if_neg (by omega)
     go_wp2
     (refine Ze (by kernel_rfl) (by kernel_rfl) ?_;(iterate 18 (apply Zd;(case hw=>rfl);(case hval=>(intro w1 hw1;have hcx:=Low.cells hw1;simp only [Oper.quietAt];go_simp;first | done | rfl | exact⟨rfl,rfl⟩));simp only [Act.put,zq4,zr4,zs4]));refine wpQuiet_nil ?_;intro w2 hw2)
     have c0:=hw2.cell e0;have c1:=hw2.cell e1;have l0:=Low.fact c0;have l1:=Low.fact c1;have HB2:=Lib.hid (HBB.out.trans (hw2.out.mono hzB));clear hw2 HBB e0 e1 hzB;generalize w2=X2 at *;go_wp2
     (refine Ze (by kernel_rfl) (by kernel_rfl) ?_;(iterate 18 (apply Zd;(case hw=>rfl);(case hval=>(intro w1 hw1;have hcx:=Low.cells hw1;simp only [Oper.quietAt];go_simp;first | done | rfl | exact⟨rfl,rfl⟩));simp only [Act.put,zq4,zr4,zs4]));refine wpQuiet_nil ?_;intro w2 hw2)
     have HB3:=Lib.hid (HB2.out.trans (hw2.out.mono HB2.out.size));clear hw2 l0 l1;go_wp2;go_roundw
     case rel=>exact⟨k+1,hlt,by go_num,by rw [hs.out.1],by rw [hs.out.2],HB3.out⟩
     case measure=>simp [intOf];omega
  ·have hk1:k+1=l.length:=by omega
   rw [hk1] at hx hy;subst hx;subst hy;have dk:decide ((k:Int)+1<(l.length:Int))=false:=by simp;omega
   have HBB:=Lib.hid hB;clear hB hk1;go_wp2;go_ret2;exact⟨rfl,HBB.out⟩
def octP (l:List Pt):List Pt :=
 let a:=loTo (linP 1 0) l l.length;let b:=hiTo (linP 1 0) l l.length;let c:=loTo (linP 0 1) l l.length;let d:=hiTo (linP 0 1) l l.length
 let s:=loTo (linP 1 1) l l.length;let t:=hiTo (linP 1 1) l l.length;let u:=loTo (linP 1 (-1)) l l.length;let v:=hiTo (linP 1 (-1)) l l.length
 [⟨b,b-v⟩,⟨b,t-b⟩,⟨t-d,d⟩,⟨d+u,d⟩,⟨a,a-u⟩,⟨a,s-a⟩,⟨s-c,c⟩,⟨c+v,c⟩]
theorem Z61 (vl:Value) (l:List Pt) (w:World) (hp:Z8 w.heap.size w vl l) (h1:0<l.length) (hl:∀ k,k<l.length→Z4 (nth l k)=true) :
  Calls Tryz.prog 205 #[vl] w (PtsQ (hullP (octP l)) w):=by
 have f1:=Lib.hid (fun w1 (B:Below w.heap.size w w1)=>Z1u vl l 1 0 w1 ((hp.below B).mono B.size) h1 hl (by omega) (by omega))
 have f2:=Lib.hid (fun w1 (B:Below w.heap.size w w1)=>Z1u vl l 0 1 w1 ((hp.below B).mono B.size) h1 hl (by omega) (by omega))
 have f3:=Lib.hid (fun w1 (B:Below w.heap.size w w1)=>Z1u vl l 1 1 w1 ((hp.below B).mono B.size) h1 hl (by omega) (by omega))
 have f4:=Lib.hid (fun w1 (B:Below w.heap.size w w1)=>Z1u vl l 1 (-1) w1 ((hp.below B).mono B.size) h1 hl (by omega) (by omega))
 have bd:∀ a b:Int,-1≤a∧a≤1→-1≤b∧b≤1→_:=fun a b ha hb=>Z8P (f:=linP a b) (l:=l) (m:=1000000) (fun k hk=>Zbj ha hb (hl k hk)) (by omega) l.length (Nat.le_refl _)
 have x1:=bd 1 0 (by omega) (by omega)
 have x2:=bd 0 1 (by omega) (by omega)
 have x3:=bd 1 1 (by omega) (by omega)
 have x4:=bd 1 (-1) (by omega) (by omega)
 have ho:octP l=[⟨hiTo (linP 1 0) l l.length,hiTo (linP 1 0) l l.length-hiTo (linP 1 (-1)) l l.length⟩,⟨hiTo (linP 1 0) l l.length,hiTo (linP 1 1) l l.length-hiTo (linP 1 0) l l.length⟩,⟨hiTo (linP 1 1) l l.length-hiTo (linP 0 1) l l.length,hiTo (linP 0 1) l l.length⟩,⟨hiTo (linP 0 1) l l.length+loTo (linP 1 (-1)) l l.length,hiTo (linP 0 1) l l.length⟩,⟨loTo (linP 1 0) l l.length,loTo (linP 1 0) l l.length-loTo (linP 1 (-1)) l l.length⟩,⟨loTo (linP 1 0) l l.length,loTo (linP 1 1) l l.length-loTo (linP 1 0) l l.length⟩,⟨loTo (linP 1 1) l l.length-loTo (linP 0 1) l l.length,loTo (linP 0 1) l l.length⟩,⟨loTo (linP 0 1) l l.length+hiTo (linP 1 (-1)) l l.length,loTo (linP 0 1) l l.length⟩]:=rfl;obtain⟨ad,cap,rfl⟩:=hp.len;clear bd hp hl;rw [ho];clear ho;generalize loTo (linP 1 0) l l.length=a at *;generalize hiTo (linP 1 0) l l.length=b at *;generalize loTo (linP 0 1) l l.length=c at *;generalize hiTo (linP 0 1) l l.length=d at *;generalize loTo (linP 1 1) l l.length=s at *;generalize hiTo (linP 1 1) l l.length=t at *;generalize loTo (linP 1 (-1)) l l.length=u at *;generalize hiTo (linP 1 (-1)) l l.length=v at *;have k1:IntKind.i64.wrap (b-v)=b-v:=zW2;have k2:IntKind.i64.wrap (t-b)=t-b:=zW2;have k3:IntKind.i64.wrap (t-d)=t-d:=zW2;have k4:IntKind.i64.wrap (d+u)=d+u:=zW2;have k5:IntKind.i64.wrap (a-u)=a-u:=zW2;have k6:IntKind.i64.wrap (s-a)=s-a:=zW2;have k7:IntKind.i64.wrap (s-c)=s-c:=zW2;have k8:IntKind.i64.wrap (c+v)=c+v:=zW2;have far:∀ k,k<8→far6 (nth [⟨b,b-v⟩,⟨b,t-b⟩,⟨t-d,d⟩,⟨d+u,d⟩,⟨a,a-u⟩,⟨a,s-a⟩,⟨s-c,c⟩,⟨c+v,c⟩] k):=fun k hk=>by
  rcases (show k=0∨k=1∨k=2∨k=3∨k=4∨k=5∨k=6∨k=7 by omega) with rfl | rfl | rfl | rfl | rfl | rfl | rfl | rfl
  all_goals (simp only [nth,List.getD_cons_zero,List.getD_cons_succ,far6];omega)
 have FAR:=Lib.hid far;clear x1 x2 x3 x4 far;go_enter Tryz.func205,Tryz.ntmps205;go_wp2_with fail;refine (f1.out w (Below.refl _ _)).mono ?_;rintro e w1 ⟨rfl,b1⟩;have B1:=Lib.hid b1;clear b1;go_wp2_with fail;refine (f2.out _ B1.out).mono ?_;rintro e w2 ⟨rfl,b2⟩;have B2:=zAi B1 b2;clear b2;go_wp2_with fail;refine (f3.out _ B2.out).mono ?_;rintro e w3 ⟨rfl,b3⟩;have B3:=zAi B2 b3;clear b3;go_wp2_with fail;refine (f4.out _ B3.out).mono ?_;rintro e w4 ⟨rfl,b4⟩;have B4:=zAi B3 b4;clear b4;go_wp2_with fail;have hN:=Has.new w4 (Za [⟨b,b-v⟩,⟨b,t-b⟩,⟨t-d,d⟩,⟨d+u,d⟩,⟨a,a-u⟩,⟨a,s-a⟩,⟨s-c,c⟩,⟨c+v,c⟩]).toArray 41;have hPP:=Z5W hN (by simp)
 have hA:=B4.out.alloc B4.out.size (.cells (Za [⟨b,b-v⟩,⟨b,t-b⟩,⟨t-d,d⟩,⟨d+u,d⟩,⟨a,a-u⟩,⟨a,s-a⟩,⟨s-c,c⟩,⟨c+v,c⟩]).toArray 41);refine (Z2p _ _ _ hPP FAR.out (by simp)).mono ?_
 rintro e w5 ⟨v5,rfl,h5,b5⟩;have HZ:=Lib.hid (And.intro h5 (hA.trans (b5.mono hA.size)));clear hN hPP hA h5 b5;go_wp2;go_ret;exact⟨_,rfl,HZ.out.1,HZ.out.2⟩
noncomputable def fewerP (l:List Pt):List Pt:=if 64<l.length then hullP (octP l) else l
theorem Z9t (vl:Value) (l:List Pt) (w:World) (hp:Z8 w.heap.size w vl l) (hl:∀ k,k<l.length→Z4 (nth l k)=true) :
  Calls Tryz.prog 199 #[vl] w (PtsQ (fewerP l) w):=by
 have f:=Lib.hid (fun h1=>Z61 vl l w hp h1 hl)
 have hp':=Lib.hid hp;obtain⟨ad,cap,rfl⟩:=hp.len;clear hp hl;unfold fewerP;by_cases h:64<l.length
 ·have d1:decide ((l.length:Int)>64)=true:=by simp;omega
  rw [if_pos h];have F:=Lib.hid (f.out (by omega))
  clear f;go_enter Tryz.func199,Tryz.ntmps199;go_wp2_with fail;refine F.out.mono ?_;rintro e w5 ⟨v5,rfl,h5,b5⟩;have HZ:=Lib.hid (And.intro h5 b5);clear h5 b5;go_wp2;go_ret;exact⟨_,rfl,HZ.out.1,HZ.out.2⟩
 ·have d1:decide ((l.length:Int)>64)=false:=by simp;omega
  rw [if_neg h];clear f;go_enter Tryz.func199,Tryz.ntmps199;go_wp2;go_ret;exact⟨_,rfl,hp'.out,Below.refl _ _⟩
noncomputable def polyP (l:List Pt):List Pt:=if l.length=0 then [] else fewerP (hullP l)
theorem Z5Y (vl:Value) (l:List Pt) (w:World) (hp:Z8 w.heap.size w vl l) (hs:l.length≤1000000) (hl:∀ k,k<l.length→Z4 (nth l k)=true) :
  Calls Tryz.prog 186 #[vl] w fun e w'=>∃ v,e=.returned (.tuple #[v,.bool (!decide (l.length=0))])∧Z8 w'.heap.size w' v (polyP l)∧Below w.heap.size w w':=by
 have f:=Lib.hid (Z2p vl l w hp (fun k hk=>Z7T (hl k hk)) hs)
 have g:=Lib.hid (fun u w1 (hu:Z8 w1.heap.size w1 u (hullP l))=>Z9t u (hullP l) w1 hu fun k hk=>by
  obtain⟨j,hj,e⟩:=mem_nth' (Z5g (nth_mem' hk));rw [← e];exact hl j hj)
 obtain⟨ad,cap,rfl⟩:=hp.len;clear hp hl;unfold polyP;by_cases h:l.length=0
 ·have d1:((l.length:Int) == 0)=true:=by rw [beq_iff_eq];omega
  rw [if_pos h,decide_eq_true h];clear f g;go_enter Tryz.func186,Tryz.ntmps186;go_wp2;go_ret2;exact⟨_,rfl,Z8.nil _ _,Below.refl _ _⟩
 ·have d1:((l.length:Int) == 0)=false:=by rw [beq_eq_false_iff_ne];omega
  rw [if_neg h,decide_eq_false h];go_enter Tryz.func186,Tryz.ntmps186;go_wp2_with fail;refine f.out.mono ?_;rintro e w5 ⟨v5,rfl,h5,b5⟩;have F:=Lib.hid (g.out _ _ h5);have B5:=Lib.hid b5;clear h5 b5 g;go_wp2_with fail;refine F.out.mono ?_;rintro e w6 ⟨v6,rfl,h6,b6⟩;have HZ:=Lib.hid (And.intro h6 (B5.out.trans (b6.mono B5.out.size)));clear h6 b6;go_wp2;go_ret2;exact⟨_,rfl,HZ.out.1,HZ.out.2⟩
noncomputable def bothR (l m:List Pt):List Pt:=cornersP l m++cornersP m l++crossPR l m
theorem Z3a {l m:List Pt} {x:Pt}:x ∈ bothR l m↔x ∈ sharedP l m:=by
 unfold bothR sharedP;simp only [List.mem_append,Z65]
theorem Z9P {l m:List Pt}:(bothR l m).length=0↔(sharedP l m).length=0:=by
 rw [List.length_eq_zero_iff,List.length_eq_zero_iff,List.eq_nil_iff_forall_not_mem,List.eq_nil_iff_forall_not_mem];exact⟨fun h x hx=>h x (Z3a.2 hx),fun h x hx=>h x (Z3a.1 hx)⟩
theorem Z3q {l m:List Pt} (hl:l.length≤64) (hm:m.length≤64):(crossPR l m).length≤16384:=by
 have:=Z1U l m l.length;have h4:4*m.length*l.length≤4*64*64:=Nat.mul_le_mul (Nat.mul_le_mul (Nat.le_refl 4) hm) hl;unfold crossPR;omega
theorem ZaT (vp vq:Value) (l m:List Pt) (w:World) (hp:Z8 w.heap.size w vp l) (hq:Z8 w.heap.size w vq m) (hl:Zb l=true) (hm:Zb m=true) :
  Calls Tryz.prog 187 #[vp,vq] w (PtsQ (bothR l m) w):=by
 have GL:=Zy hl;have GM:=Zy hm;have l64:=GL.2.1;have m64:=GM.2.1;have f1:=Lib.hid (Z18 vp vq l m w hp hq (by omega) (fun k hk=>(GL.2.2.1 k hk).1) hm)
 have f2:=Lib.hid (fun w1 (B:Below w.heap.size w w1)=>Z18 vq vp m l w1 ((hq.below B).mono B.size) ((hp.below B).mono B.size) (by omega) (fun k hk=>(GM.2.2.1 k hk).1) hl)
 have f3:=Lib.hid (fun w1 (B:Below w.heap.size w w1)=>Z3z vp vq l m w1 ((hp.below B).mono B.size) ((hq.below B).mono B.size) hl hm)
 have c1:=Z06 l m;have c2:=Z06 m l;have c3:=Z3q l64 m64;obtain⟨ap,capp,rfl⟩:=hp.len;obtain⟨aq,capq,rfl⟩:=hq.len;unfold bothR;generalize cornersP l m=L1 at *;generalize cornersP m l=L2 at *;generalize crossPR l m=L3 at *;clear hp hq hl hm GL GM;go_enter Tryz.func187,Tryz.ntmps187;go_wp2_with fail;refine f1.out.mono ?_;rintro e w1 ⟨v1,rfl,h1,b1⟩;have H1:=Lib.hid h1;have B1:=Lib.hid b1;clear h1 b1;go_wp2_with (first | (at_builtin;refine ZV rfl _ _ rfl w.heap.size _ 0 [] rfl (World.ownsRow_nil _ _ _ _) _ L1 rfl H1.out (by omega) B1.out.size ?_;intro x1 w2 r2 g2 _;have R2:=Lib.hid r2;have B2:=Lib.hid (B1.out.trans (Z24 (World.ownsRow_nil w1 w.heap.size 41 2) g2 (Nat.le_refl _) B1.out.size));clear r2 g2) | fail)
 refine (f2.out _ B2.out).mono ?_;rintro e w3 ⟨v3,rfl,h3,b3⟩;have H3:=Lib.hid h3;have B3:=zAi B2 b3;have R3:=Lib.hid (Zj R2.out b3);clear h3 b3 R2;go_wp2_with (first | (at_builtin;refine ZV rfl _ _ rfl w.heap.size _ _ _ rfl R3.out _ L2 rfl H3.out (by omega) B3.out.size ?_;intro x2 w4 r4 g4 _;have R4:=Lib.hid r4;have B4:=Lib.hid (B3.out.trans (Z24 R3.out g4 (Nat.le_refl _) B3.out.size));clear r4 g4) | fail)
 refine (f3.out _ B4.out).mono ?_;rintro e w5 ⟨v5,rfl,h5,b5⟩;have H5:=Lib.hid h5;have B5:=zAi B4 b5;have R5:=Lib.hid (Zj R4.out b5);clear h5 b5 R4;go_wp2_with (first | (at_builtin;refine ZV rfl _ _ rfl w.heap.size _ _ _ rfl R5.out _ L3 rfl H5.out (by omega) B5.out.size ?_;intro x3 w6 r6 g6 _;have R6:=Lib.hid r6;have B6:=Lib.hid (B5.out.trans (Z24 R5.out g6 (Nat.le_refl _) B5.out.size));clear r6 g6) | fail)
 go_ret;refine⟨_,rfl,Z8.own (base:=w.heap.size) (l:=L1++L2++L3) (n:=0+L1.length+L2.length+L3.length) ?_ (by simp only [List.length_append];omega),B6.out⟩
 have:=R6.out;rw [List.nil_append] at this;rw [Zu,Zu];exact this
theorem Z4Q {l m:List Pt} (hl:Zb l=true) (hm:Zb m=true) {x:Pt} (hx:x ∈ sharedP l m):Z4 x=true:=by
 unfold sharedP at hx;simp only [List.mem_append] at hx;have GL:=Zy hl;have GM:=Zy hm;rcases hx with (hx | hx) | hx
 ·obtain⟨j,hj,e,_⟩:=(Z0U _).1 hx
  rw [← e];exact (GL.2.2.1 j hj).1
 ·obtain⟨j,hj,e,_⟩:=(Z0U _).1 hx
  rw [← e];exact (GM.2.2.1 j hj).1
 ·exact Z5r (fun k hk=>(GM.2.2.1 k hk).1) hx
theorem Zbg (vp vq:Value) (l m:List Pt) (w:World) (hp:Z8 w.heap.size w vp l) (hq:Z8 w.heap.size w vq m) (hl:Zb l=true) (hm:Zb m=true) :
  Calls Tryz.prog 169 #[vp,vq] w fun e w'=>∃ v,e=.returned (.tuple #[v,.bool (touchB l m)])∧Z8 w'.heap.size w' v (polyP (bothR l m))∧Below w.heap.size w w':=by
 have f1:=Lib.hid (ZaT vp vq l m w hp hq hl hm);have l64:=(Zy hl).2.1;have m64:=(Zy hm).2.1;have c1:=Z06 l m;have c2:=Z06 m l;have c3:=Z3q l64 m64;have ht:(!decide ((bothR l m).length=0))=touchB l m:=by
  unfold touchB;rw [hl,hm];simp only [Bool.and_true,Bool.true_and]
  congr 1
  rw [decide_eq_decide];exact Z9P
 have f2:=Lib.hid (fun u w1 (hu:Z8 w1.heap.size w1 u (bothR l m))=>Z5Y u (bothR l m) w1 hu (by unfold bothR;simp only [List.length_append];omega) fun k hk=>Z4Q hl hm (Z3a.1 (nth_mem' hk)))
 rw [ht] at f2;obtain⟨ap,capp,rfl⟩:=hp.len;obtain⟨aq,capq,rfl⟩:=hq.len;clear hp hq hl hm ht;go_enter Tryz.func169,Tryz.ntmps169;go_wp2_with fail;refine f1.out.mono ?_;rintro e w1 ⟨v1,rfl,h1,b1⟩;have F:=Lib.hid (f2.out _ _ h1);have B1:=Lib.hid b1;clear h1 b1 f2;go_wp2_with fail;refine F.out.mono ?_;rintro e w2 ⟨v2,rfl,h2,b2⟩;have HZ:=Lib.hid (And.intro h2 (B1.out.trans (b2.mono B1.out.size)));clear h2 b2;go_wp2;go_ret2;exact⟨_,rfl,HZ.out.1,HZ.out.2⟩
theorem Z5H (vp vq:Value) (l m:List Pt) (w:World) (hp:Z8 w.heap.size w vp l) (hq:Z8 w.heap.size w vq m) (hl:Zb l=true) (hm:Zb m=true) :
  Calls Tryz.prog 152 #[vp,vq] w fun e w'=>e=.returned (.bool (touchB l m))∧Below w.heap.size w w':=by
 have f1:=Lib.hid (Zbg vp vq l m w hp hq hl hm);obtain⟨ap,capp,rfl⟩:=hp.len;obtain⟨aq,capq,rfl⟩:=hq.len;clear hp hq hl hm;go_enter Tryz.func152,Tryz.ntmps152;go_wp2_with fail;refine f1.out.mono ?_;rintro e w1 ⟨v1,rfl,h1,b1⟩;have B1:=Lib.hid b1;clear h1 b1;go_wp2;exact bodyPost_ret (results_tmp rfl _ _ _) rfl ⟨rfl,B1.out⟩
def idxO (o:Option Nat):Int:=match o with | some k=>k | none=>-1
theorem Z98 (vc vr : Value) (c : List Pt) (ls : List (List Pt)) (w : World) (hc : Z8 w.heap.size w vc c) (hr : Z7 w.heap.size w vr ls) (hgc : Zb c = true) (hgl : ∀ j, j < ls.length → Zb (rk ls j) = true) :
  Calls Tryz.prog 124 #[vc,vr] w fun e w'=>e=.returned (.int .i64 (idxO (hitTo c ls ls.length)))∧Below w.heap.size w w':=by
 obtain⟨hll,ar,capr,rfl,hrc⟩:=hr;have HRC:=Lib.hid hrc;have HC:=Lib.hid hc;have HG:=Lib.hid (And.intro hgc hgl);obtain⟨ac,capc,rfl⟩:=hc.len;clear hrc hc hgc hgl;go_enter Tryz.func124,Tryz.ntmps124;go_wp2
 go_loopw [5] (fun i wr=>∃ k:Nat,k≤ls.length∧i=.int .i64 (k:Int)∧hitTo c ls k=none∧Below w.heap.size w wr) (fun i _=>ls.length-(intOf i).toNat)
 case atStart=>exact⟨0,by omega,rfl,rfl,Below.refl _ _⟩
 case round =>
  obtain⟨k,hk,rfl,hno,hB⟩:=hrel;by_cases hlt:k<ls.length
  ·have dk : decide ((k : Int) < (ls.length : Int)) = true := by simp; omega
   obtain⟨b,o,rfl,hb,hcc⟩:=HRC.out.resolve_left (by intro h;rw [h] at hlt;simp at hlt)
   obtain⟨u,hu,hpu⟩:=hcc k hlt;have e0:=(hB.cell (p:=⟨b,o+k,none⟩) hb).trans hu;have hv:=Z5H _ u c (rk ls k) wr ((HC.out.below hB).mono hB.size) ((hpu.below hB).mono hB.size) HG.out.1 (HG.out.2 k hlt);have kl:(k:Int)<ls.length:=by omega
   have k0:(0:Int)≤k:=by omega
   have hzr:=hB.size;have HB:=Lib.hid hB;have hst:hitTo c ls (k+1)=if touchB c (rk ls k)=true then some k else none:=by simp [hitTo,hno]
   have HNO:=Lib.hid hno;clear hcc hu hpu hB hno;cases hg:touchB c (rk ls k)
   ·rw [hg] at hv hst
    have hv':=Lib.hid hv;have hst':=Lib.hid hst;clear hg hv hst;go_wp2_with fail;refine hv'.out.mono ?_;rintro e w3 ⟨rfl,hb3⟩;have B3:=Lib.hid (HB.out.trans (hb3.mono hzr));clear hb3;go_wp2;go_roundw
    case rel=>exact⟨k+1,by omega,by go_num,hst'.out,B3.out⟩
    case measure=>simp [intOf];omega
   ·rw [hg] at hv
    have hv':=Lib.hid hv;have hres:hitTo c ls ls.length=some k:=by
     cases h:hitTo c ls ls.length with
     | none =>
      have:=hitTo_none h k hlt;rw [hg] at this;cases this
     | some q =>
      obtain⟨q1,q2,q3⟩:=Z2e h;have n:=hitTo_none HNO.out;rcases Nat.lt_trichotomy q k with e | e | e
      ·rw [n q e] at q2;cases q2
      ·rw [e]
      ·have:=q3 k e
       rw [hg] at this;cases this
    have HR:=Lib.hid hres;clear hg hv hst hres;go_wp2_with fail;refine hv'.out.mono ?_;rintro e w3 ⟨rfl,hb3⟩;have B3:=Lib.hid (HB.out.trans (hb3.mono hzr));clear hb3;go_wp2;exact bodyPost_ret (results_tmp rfl _ _ _) rfl ⟨by rw [HR.out];rfl,B3.out⟩
  ·obtain rfl:k=ls.length:=by omega
   have dk:decide ((ls.length:Int)<(ls.length:Int))=false:=by simp
   have HR:=Lib.hid hno;have HB:=Lib.hid hB;clear hno hB;go_wp2;exact bodyPost_ret (results_tmp rfl _ _ _) rfl ⟨by rw [HR.out];rfl,HB.out⟩
def RS (n:Nat) (w W:World):Prop:=Has W n #[.int .i64 0,.int .i64 0] 41∧Below n w W
theorem RS.below {n:Nat} {w W W':World} (h:RS n w W) (hb:Below W.heap.size W W'):RS n w W' :=
 ⟨h.1.below hb h.1.lt,h.2.trans (hb.mono (Nat.le_of_lt h.1.lt))⟩
end
end Go.Proofs.YtcfkhkgldboddaaGreat
