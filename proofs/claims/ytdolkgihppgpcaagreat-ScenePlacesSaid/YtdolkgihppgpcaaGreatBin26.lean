/- mink.Disk. | package spread: isPlace, isRadius, around, Corridor. | spread.Corridor. (Printed by tools/mkcorridor.py.) | landfallref32: Radius, dis .. -/
import Derived.Test.YtdolkgihppgpcaaGreatBin25
set_option linter.unusedSimpArgs false
namespace Go.Proofs.YtdolkgihppgpcaaGreat
section
attribute [local irreducible] hulE hulL
attribute [local irreducible] wpQuiet
open Go.RowKit
theorem Z7T {W:World} {B base size n:Nat} {cs:Array Value} {t e:TypeId} {v:Value} {xs:List Value} (h:Has W B cs t) (hr:W.ownsRow base e size v n xs) (hne:t≠e):v.ownBlock≠some B:=by
 intro e';rcases hr.2 with⟨rfl,_⟩ | ⟨g,cap,cur,rfl,_,hg,_⟩
 ·simp [Value.ownBlock] at e'
 ·obtain rfl:g=B:=by simpa [Value.ownBlock] using e'
  rw [show W.heap[g]?=_ from h] at hg
  cases hg;exact hne rfl
def octTo (n k:Int):Nat→List Pt
 | 0=>[]
 | 1=>[⟨-n,-k⟩,⟨-k,-n⟩]
 | 2=>[⟨-n,-k⟩,⟨-k,-n⟩,⟨-n,k⟩,⟨-k,n⟩]
 | 3=>[⟨-n,-k⟩,⟨-k,-n⟩,⟨-n,k⟩,⟨-k,n⟩,⟨n,-k⟩,⟨k,-n⟩]
 | _=>octG n k
theorem Z9G (W:World) (e:TypeId) (a b c d:Value):∀ j u,([a,b,c,d]:List Value)[j]?=some u→(W.alloc (.cells #[a,b,c,d] e)).cell? ((⟨W.heap.size,0,none⟩:Addr).add j)=some u:=by
 intro j u hu;have h:=Has.new W #[a,b,c,d] e;have e':(⟨W.heap.size,0,none⟩:Addr).add j=⟨W.heap.size,j,none⟩:=by unfold Addr.add;split <;> simp_all
 rw [e'];exact h.cell (by simpa using hu)
theorem diskE (n:Nat) (h:n≤100000):hulE (octG n (octK n))=0∧hulL (octG n (octK n))=Z5 n:=by
 have e:hulE (octG n (octK n))=0:=by
  unfold hulE;have hp:allPl (octG n (octK n))=true:=by
   rw [Z1E];exact fun x hx=>(Z4i h ((Z5S _ _ x).1 hx)).2
  have hl:=Z1v (octG (n:Int) (octK n));rw [if_neg (by simp [octG]),if_neg (by rw [hp];simp [octG]),if_neg (by have:(octG (n:Int) (octK n)).length=8:=rfl;omega)]
 refine⟨e,?_⟩;unfold hulL;rw [if_pos e];exact diskG n
noncomputable def dskE (n:Int):Int:=if radOk n=true then 0 else 1
noncomputable def dskL (n:Int):List Pt:=if radOk n=true then Z5 n.toNat else []
theorem Z8Z (n:Int) (w:World) (h:radOk n=false) :
  Calls Tryz.prog 21 #[.int .i64 n] w fun e w'=>e=.returned (.tuple #[.slice none 0 0,.int .i64 1])∧Below w.heap.size w w':=by
 by_cases h1:n<0
 ·have d1:decide (n<0)=true:=by simpa using h1
  clear h1 h;go_enter Tryz.func21,Tryz.ntmps21;go_wp2;go_ret2;exact⟨rfl,Below.refl _ _⟩
 ·have d1:decide (n<0)=false:=by simpa using h1
  have d2:decide (n>100000)=true:=by simp [radOk] at h;simp;omega
  clear h1 h;go_enter Tryz.func21,Tryz.ntmps21;go_wp2;go_ret2;exact⟨rfl,Below.refl _ _⟩
theorem Z6y (n k:Int):(Za (octTo n k 0)++[.int .i64 (-n),.int .i64 (-k),.int .i64 (-k),.int .i64 (-n)]=Za (octTo n k 1))∧(Za (octTo n k 1)++[.int .i64 (-n),.int .i64 k,.int .i64 (-k),.int .i64 n]=Za (octTo n k 2)) ∧
  (Za (octTo n k 2)++[.int .i64 n,.int .i64 (-k),.int .i64 k,.int .i64 (-n)]=Za (octTo n k 3))∧(Za (octTo n k 3)++[.int .i64 n,.int .i64 k,.int .i64 k,.int .i64 n]=Za (octTo n k 4)):=⟨rfl,rfl,rfl,rfl⟩
set_option maxRecDepth 8000 in
set_option maxHeartbeats 3200000 in
theorem Z2w (n : Nat) (w : World) (hn : n ≤ 100000) :
  Calls Tryz.prog 21 #[.int .i64 n] w fun e w'=>∃ u,e=.returned (.tuple #[u,.int .i64 0])∧Z8 w'.heap.size w' u (Z5 n)∧Below w.heap.size w w':=by
 have hsp:=Z1I n;have hw1:=Z5E n;have hw2:=Z3X n;have hkb:=Z52 n;have hk:octK n=(wideN n:Int)-n:=rfl;have fH:=Lib.hid (fun v w1 (h:Z8 w1.heap.size w1 v (octG n (octK n)))=>Z60 v (octG n (octK n)) w1 h)
 have HE:=Lib.hid (diskE n hn);have HST:=Lib.hid (Z6y n (octK n));have HG:Hid (octTo n (octK n) 4=octG n (octK n)):=rfl;obtain⟨W,hW⟩:∃ W,wideN n=W:=⟨_,rfl⟩;rw [hW] at hsp hw1 hw2 hk;have HSP:=Lib.hid hsp;obtain⟨k,hkk⟩:∃ k,octK n=k:=⟨_,rfl⟩;rw [hkk] at hk hkb fH HE HST HG;obtain⟨i0,hi,hz0',hz1',hz2'⟩:=info_parts ptInfo;have w4:IntKind.i64.wrap (2*(n:Int))=2*n:=zW2;have pn:=Z00 (a:=2*(n:Int)) (b:=n) (m:=200000) (n:=100000) (by omega) (by omega) (by omega) (by omega)
 have w5:IntKind.i64.wrap (2*(n:Int)*n)=2*n*n:=zW2;have w6:IntKind.i64.wrap ((W:Int)-n)=k:=by rw [hk];exact zW2
 have dn:decide ((n:Int)<0)=false:=by simp
 have dn2:decide ((n:Int)>100000)=false:=by simp;omega
 have HK:=Lib.hid hk;clear hsp hW hkk hk;go_enter Tryz.func21,Tryz.ntmps21;go_wp2
 go_loopw [4,5] (fun lo hi wr=>∃ a b:Nat,lo=.int .i64 (a:Int)∧hi=.int .i64 (b:Int)∧n≤a∧a≤W∧W≤b∧b≤2*n∧wr=w) (fun lo hi _=>(intOf hi).toNat-(intOf lo).toNat)
 case atStart=>exact⟨n,2*n,rfl,by simp,by omega,by omega,by omega,by omega,rfl⟩
 case round =>
  obtain⟨a,b,rfl,rfl,ha,haW,hWb,hb,rfl⟩:=hrel;by_cases hab:a<b
  ·have dab:decide ((a:Int)<(b:Int))=true:=by simp;omega
   obtain⟨q,hq⟩:∃ q,(a+b) / 2=q:=⟨_,rfl⟩;have w1:IntKind.i64.wrap ((a:Int)+b)=a+b:=zW2;have w2:IntKind.i64.wrap (((a:Int)+b).tdiv 2)=q:=by
    rw [Int.tdiv_eq_ediv_of_nonneg (by omega),show ((a:Int)+b) / 2=q by omega]
    exact zW2
   have pq:=Z00 (a:=(q:Int)) (b:=q) (m:=200000) (n:=200000) (by omega) (by omega) (by omega) (by omega)
   have w3:IntKind.i64.wrap ((q:Int)*q)=q*q:=zW2;have hc:(2*(n:Int)*n≤(q:Int)*q)↔W≤q:=by
    have h1:(2*(n:Int)*n≤(q:Int)*q)↔2*n*n≤q*q:=by
     rw [← Int.ofNat_le];simp
    rw [h1];constructor
    ·intro h
     rcases Nat.lt_or_ge q W with h2 | h2
     ·have:=HSP.out.2 q h2;omega
     ·exact h2
    ·intro h
     exact Nat.le_trans HSP.out.1 (Nat.mul_le_mul h h)
   have hqa:a≤q:=by omega
   have hqb:q<b:=by omega
   clear hq;by_cases hWq:W≤q
   ·have d1:decide ((q:Int)*q≥2*(n:Int)*n)=true:=by rw [decide_eq_true_eq];exact hc.2 hWq
    clear hc pq pn;go_wp2;go_roundw
    case rel=>exact⟨a,q,rfl,rfl,by omega,by omega,by omega,by omega,trivial⟩
    case measure=>simp [intOf];omega
   ·have d1:decide ((q:Int)*q≥2*(n:Int)*n)=false:=by rw [decide_eq_false_iff_not];exact fun h=>hWq (hc.1 h)
    clear hc pq pn;go_wp2;go_roundw
    case rel=>exact⟨q+1,b,by go_num,rfl,by omega,by omega,by omega,by omega,trivial⟩
    case measure=>simp [intOf];omega
  ·have dab:decide ((a:Int)<(b:Int))=false:=by simp;omega
   obtain rfl:a=W:=by omega
   clear hWb hb haW ha pn;obtain⟨wq,rfl⟩:∃ x,x=wr:=⟨_,rfl⟩;have BA:=Lib.hid ((Below.refl wq.heap.size wq).alloc (Nat.le_refl _) (.cells #[.int .i64 (-1),.int .i64 1] 3));have NA:=Lib.hid (Has.new wq #[.int .i64 (-1),.int .i64 1] 3);go_wp2
   go_loopw [8,45] (fun v i wx=>∃ c:Nat,c≤2∧i=.int .i64 (c:Int)∧wx.ownsRow (wq.heap.size+1) 31 2 v (4*c) (Za (octTo n k (2*c)))∧Has wx wq.heap.size #[.int .i64 (-1),.int .i64 1] 3∧Below wq.heap.size wq wx) (fun _ i _=>2-(intOf i).toNat)
   case atStart=>exact⟨0,by omega,rfl,World.ownsRow_nil _ _ _ _,NA.out,BA.out⟩
   case round =>
    obtain⟨wx,rfl⟩:∃ x,x=wr:=⟨_,rfl⟩;obtain⟨c,hc,rfl,hrow,hN,hB⟩:=hrel;have hzB:=hB.size;have hnz:=hN.lt;by_cases hc2:c<2
    ·have dc:decide ((c:Int)<2)=true:=by simp;omega
     have x0:=hN.cell (i:=0) rfl;have x1:=hN.cell (i:=1) rfl;have xc:wx.cell? ⟨wq.heap.size,c,none⟩=some (.int .i64 (if c=0 then -1 else 1)):=by
      rcases (show c=0∨c=1 by omega) with rfl | rfl
      ·exact x0
      ·exact x1
     have c0:(0:Int)≤c:=by omega
     have cl:(c:Int)<2:=by omega
     have BI:=(Below.refl wx.heap.size wx).alloc (Nat.le_refl _) (.cells #[.int .i64 (-1),.int .i64 1] 3);have NI:=Lib.hid (Has.new wx #[.int .i64 (-1),.int .i64 1] 3);have RI:=Lib.hid (Zr hrow BI);have NO:=Lib.hid (hN.below BI hnz);have BB:=Lib.hid (hB.trans (BI.mono hzB));obtain⟨sx,hsx⟩:∃ s:Int,(if c=0 then (-1:Int) else 1)=s:=⟨_,rfl⟩
     rw [hsx] at xc;have HSX:=Lib.hid hsx;clear hrow hN hB x0 x1 BI hsx;go_wp2
     go_loopw [8,51] (fun v i wy=>∃ e:Nat,e≤2∧i=.int .i64 (e:Int)∧wy.ownsRow (wq.heap.size+1) 31 2 v (4*c+2*e) (Za (octTo n k (2*c+e)))∧Has wy wq.heap.size #[.int .i64 (-1),.int .i64 1] 3∧Has wy wx.heap.size #[.int .i64 (-1),.int .i64 1] 3∧Below wq.heap.size wq wy) (fun _ i _=>2-(intOf i).toNat)
     case atStart=>exact⟨0,by omega,rfl,RI.out,NO.out,NI.out,BB.out⟩
     case round =>
      obtain⟨wy,rfl⟩:∃ x,x=wr:=⟨_,rfl⟩;obtain⟨e,he,rfl,hrow,hN,hM,hB⟩:=hrel;have hzB:=hB.size;by_cases he2:e<2
      ·have de:decide ((e:Int)<2)=true:=by simp;omega
       have x0:=hM.cell (i:=0) rfl;have x1:=hM.cell (i:=1) rfl;have xe:wy.cell? ⟨wx.heap.size,e,none⟩=some (.int .i64 (if e=0 then -1 else 1)):=by
        rcases (show e=0∨e=1 by omega) with rfl | rfl
        ·exact x0
        ·exact x1
       obtain⟨sy,hsy⟩:∃ s:Int,(if e=0 then (-1:Int) else 1)=s:=⟨_,rfl⟩
       rw [hsy] at xe;have bx:-1≤sx∧sx≤1:=by have:=HSX.out;split at this <;> omega
       have by':-1≤sy∧sy≤1:=by split at hsy <;> omega
       have p1:=Z00 (a:=sx) (b:=(n:Int)) (m:=1) (n:=100000) (by omega) (by omega) (by omega) (by omega)
       have p2:=Z00 (a:=sy) (b:=k) (m:=1) (n:=100000) (by omega) (by omega) (by omega) (by omega)
       have p3:=Z00 (a:=sx) (b:=k) (m:=1) (n:=100000) (by omega) (by omega) (by omega) (by omega)
       have p4:=Z00 (a:=sy) (b:=(n:Int)) (m:=1) (n:=100000) (by omega) (by omega) (by omega) (by omega)
       have m1:IntKind.i64.wrap (sx*(n:Int))=sx*n:=zW2;have m2:IntKind.i64.wrap (sy*k)=sy*k:=zW2;have m3:IntKind.i64.wrap (sx*k)=sx*k:=zW2;have m4:IntKind.i64.wrap (sy*(n:Int))=sy*n:=zW2;have hnew:Hid (Za (octTo n k (2*c+e))++[.int .i64 (sx*n),.int .i64 (sy*k),.int .i64 (sx*k),.int .i64 (sy*n)]=Za (octTo n k (2*c+(e+1)))):=by
        have h1:=HSX.out
        show _=_
        rcases (show c=0∨c=1 by omega) with rfl | rfl <;> rcases (show e=0∨e=1 by omega) with rfl | rfl
        ·simp at h1 hsy;subst h1;subst hsy;simpa using HST.out.1
        ·simp at h1 hsy;subst h1;subst hsy;simpa using HST.out.2.1
        ·simp at h1 hsy;subst h1;subst hsy;simpa using HST.out.2.2.1
        ·simp at h1 hsy;subst h1;subst hsy;simpa using HST.out.2.2.2
       have e0:(0:Int)≤e:=by omega
       have el:(e:Int)<2:=by omega
       have HR:=Lib.hid (And.intro hrow (And.intro hN (And.intro hM hB)));have hzz:wq.heap.size+1≤wy.heap.size:=hN.lt;have A:=Lib.hid ((Below.refl wy.heap.size wy).alloc (Nat.le_refl _) (.cells #[.int .i64 (sx*n),.int .i64 (sy*k),.int .i64 (sx*k),.int .i64 (sy*n)] 31));clear hrow hN hM hB x0 x1 hsy p1 p2 p3 p4 bx by'
       go_wp2_with (at_builtin;refine wpList_append_own _ rfl _ _ 23 rfl (wq.heap.size+1) 31 i0 (.agg #[.int .i64 0,.int .i64 0]) 2 16 Tryz.underlying23 hi hz0' hz1' hz2' rfl (by decide) _ _ _ rfl (HR.out.1.alloc _) ⟨wy.heap.size,0,none⟩ 2 2 [.int .i64 (sx*n),.int .i64 (sy*k),.int .i64 (sx*k),.int .i64 (sy*n)] rfl rfl (Z9G _ _ _ _ _ _) (by simp [Value.oneCell']) (by unfold maxLen;omega) (by omega) (by simp;omega) ?_;intro v' w4 hown' hgrow _)
       go_roundw
       case rel =>
        obtain⟨hrow,hN,hM,hB⟩:=HR.out;have rA:=Zr hrow A.out;refine⟨e+1,by omega,by go_num,?_,(hN.below A.out hN.lt).kept hgrow (fun h=>Z7T hN hrow (by decide) h),(hM.below A.out hM.lt).kept hgrow (fun h=>Z7T hM hrow (by decide) h),?_⟩
        ·rw [← hnew.out];exact hown'
        ·exact (hB.trans (A.out.mono hzB)).grown hgrow (by simp;omega) (fun j ej=>by have:=(rA.lt j ej).1;omega)
       case measure=>simp [intOf];omega
      ·obtain rfl:e=2:=by omega
       have HR:=Lib.hid (And.intro hrow (And.intro hN hB));clear hrow hN hM hB;go_wp2;go_roundw
       case rel=>exact⟨c+1,by omega,by go_num,HR.out.1,HR.out.2.1,HR.out.2.2⟩
       case measure=>simp [intOf];omega
    ·obtain rfl:c=2:=by omega
     have PL:=Lib.hid (Z8.own (l:=octG n k) hrow (by simp [octG]))
     have HB:=Lib.hid hB;clear hrow hN hB;go_wp2_with fail;have f:=fH.out _ _ PL.out;rw [HE.out.1,HE.out.2] at f;refine f.mono ?_;rintro e w2 ⟨u,rfl,pu,bu⟩;have PU:=Lib.hid pu;have BU:=zAg HB bu;obtain⟨au,cu,hu⟩:=pu.len;subst hu;clear pu bu f;go_wp2;go_ret2;exact⟨_,rfl,PU.out,BU.out⟩
theorem Z2x (n:Int) (w:World) :
  Calls Tryz.prog 21 #[.int .i64 n] w fun e w'=>∃ u,e=.returned (.tuple #[u,.int .i64 (dskE n)])∧Z8 w'.heap.size w' u (dskL n)∧Below w.heap.size w w':=by
 unfold dskE dskL;cases h:radOk n
 ·exact (Z8Z n w h).mono fun e w' ⟨he,hb⟩=>⟨_,he,Z8.nil _ _,hb⟩
 ·have h1:0≤n∧n≤100000:=by simpa [radOk] using h
  obtain⟨q,rfl⟩:∃ q:Nat,n=q:=⟨n.toNat,by omega⟩
  exact Z2w q w (by omega)
theorem Z5n (p:Pt):Zb [p]=Z4 p:=by
 rw [Bool.eq_iff_iff];constructor
 ·intro h;exact ((Z0n h).2.2.1 0 (by simp)).1
 ·intro h
  refine Z14 ⟨by simp,by simp,fun k hk=>?_,fun h3=>by simp at h3⟩
  obtain rfl:k=0:=by simpa using hk
  exact⟨h,fun h0=>by omega⟩
theorem Z32 (x y:Int) (w:World) :
  Calls Tryz.prog 43 #[.agg #[.int .i64 x,.int .i64 y]] w fun e w'=>e=.returned (.bool (placeB x y))∧Below w.heap.size w w':=by
 have hA:=(Below.refl w.heap.size w).alloc (Nat.le_refl _) (.cells #[.int .i64 x,.int .i64 y] 31);have hs:(w.alloc (.cells #[.int .i64 x,.int .i64 y] 31)).heap.size=w.heap.size+1:=by simp
 have f:=Zo _ _ _ (Z7i (w.alloc (.cells #[.int .i64 x,.int .i64 y] 31)) x y);rw [hs,Z5n] at f;have B0:=Lib.hid (hA.alloc hA.size (.cells #[.int .i64 x,.int .i64 y] 31));have f:=Lib.hid f;have HP:Hid (Z4 ⟨x,y⟩=placeB x y):=rfl;rw [HP.out] at f;generalize placeB x y=bb at *;clear hA hs HP;go_enter Tryz.func43,Tryz.ntmps43;go_wp2_with fail;refine (f.out).mono ?_;rintro e w1 ⟨rfl,b1⟩;have B1:=zAg B0 b1;clear b1;go_wp2;go_ret;exact⟨rfl,B1.out⟩
theorem Z2k (n:Int) (w:World) :
  Calls Tryz.prog 44 #[.int .i64 n] w fun e w'=>e=.returned (.bool (radOk n))∧Below w.heap.size w w':=by
 by_cases h1:0≤n
 ·by_cases h2:n≤100000
  ·have e:radOk n=true:=by simp [radOk,h1,h2]
   rw [e];clear e;go_enter Tryz.func44,Tryz.ntmps44;go_wp2;go_ret;exact⟨rfl,zB2⟩
  ·have e:radOk n=false:=by simp [radOk];omega
   have d:decide (n≤100000)=false:=by simpa using h2
   rw [e];clear e h2;go_enter Tryz.func44,Tryz.ntmps44;go_wp2;go_ret;exact⟨rfl,zB2⟩
 ·have e:radOk n=false:=by simp [radOk];omega
  have d:decide (n≥0)=false:=by simpa using h1
  rw [e];clear e h1;go_enter Tryz.func44,Tryz.ntmps44;go_wp2;go_ret;exact⟨rfl,zB2⟩
theorem Z4X (v:Value) (ls:List (List Pt)) (w:World) (hr:Z7 w.heap.size w v ls) (hl:ls.length≤10) (hn:∀ j,(rk ls j).length≤20000) :
  Calls Tryz.prog 45 #[v] w fun e w'=>∃ u,e=.returned (.tuple #[u,.int .i64 (hulE (catTo ls ls.length))])∧Z8 w'.heap.size w' u (hulL (catTo ls ls.length))∧Below w.heap.size w w'∧NewI w.heap.size u:=by
 have f1:=Lib.hid (Z3n v ls w hr hl hn);have f2:=Lib.hid (fun v w1 (h:Z8 w1.heap.size w1 v (catTo ls ls.length))=>Z5Z v _ w1 h)
 have hB0:=Lib.hid (Below.refl w.heap.size w);generalize catTo ls ls.length=l at *;clear hr hn;obtain⟨B0,rfl⟩:∃ x,x=hB0:=⟨_,rfl⟩;go_enter Tryz.func45,Tryz.ntmps45;go_wp2_with fail;refine (f1.out).mono ?_;rintro e w1 ⟨v1,rfl,p1,b1⟩;have B1:=zAg B0 b1;have P1:=Lib.hid p1;obtain⟨a1,c1,hv1⟩:=p1.len;subst hv1;clear p1 b1;go_wp2_with fail;refine (f2.out _ _ P1.out).mono ?_;rintro e w2 ⟨v2,rfl,p2,b2,n2⟩;have B2:=zAg B1 b2;have P2:=Lib.hid p2;have N2:=Lib.hid (n2.mono B1.out.size);clear n2;obtain⟨a2,c2,hv2⟩:=p2.len;subst hv2;clear p2 b2;go_wp2;go_ret2;exact⟨_,rfl,P2.out,B2.out,N2.out⟩
theorem Z7c {W:World} {v u:Value} {l m:List Pt} (n:Nat) (hn:n=W.heap.size) (hp:Z8 W.heap.size W v l) (hq:Z8 W.heap.size W u m):Z7 (W.alloc (.cells #[v,u] 23)).heap.size (W.alloc (.cells #[v,u] 23)) (.slice (some ⟨n,0,none⟩) 2 2) [l,m]:=by
 subst hn;have h:=Has.new W #[v,u] 23;have B:=(Below.refl W.heap.size W).alloc (Nat.le_refl _) (.cells #[v,u] 23);refine⟨by simp,some ⟨W.heap.size,0,none⟩,0,rfl,.inr ⟨W.heap.size,0,rfl,by simp,fun j hj=>?_⟩⟩
 rcases (show j=0∨j=1 by simp at hj;omega) with rfl | rfl
 ·exact⟨v,h.cell (i:=0) rfl,(hp.below B).mono B.size⟩
 ·exact⟨u,h.cell (i:=1) rfl,(hq.below B).mono B.size⟩
theorem Z97 {a:Pt} {u:Nat} {b:Pt} {v:Nat} (h1:allPl (mvL a (Z5 u))=true) (h2:allPl (mvL b (Z5 v))=true):hulE (mvL a (Z5 u)++mvL b (Z5 v))=0∧hulL (mvL a (Z5 u)++mvL b (Z5 v))=corH a u b v:=by
 have e:hulE (mvL a (Z5 u)++mvL b (Z5 v))=0:=by
  unfold hulE;have hp:allPl (mvL a (Z5 u)++mvL b (Z5 v))=true:=by
   rw [Z1E] at *;intro x hx;rcases List.mem_append.1 hx with h | h
   ·exact h1 x h
   ·exact h2 x h
  have hl:=Z6b a u b v;have l1:=Z0A u;have l2:=Z0A v;have hne:(mvL a (Z5 u)++mvL b (Z5 v)).length≠0:=fun e=>Z9E (List.eq_nil_of_length_eq_zero e)
  rw [if_neg (by rw [List.length_append,Z09,Z09];omega),if_neg (by rw [hp];simp only [Bool.true_eq_false,or_false];exact hne),if_neg (by show ¬ 64<(corH a u b v).length;omega)]
 refine⟨e,?_⟩;unfold hulL;rw [if_pos e]
 rfl
theorem Z8q (l m:List Pt):catTo [l,m] [l,m].length=l++m:=by show ([]++rk [l,m] 0)++rk [l,m] 1=_;simp [rk]
theorem Z3U {a b:Pt} {u v:Int} (h:Z4 a=false∨Z4 b=false∨radOk u=false∨radOk v=false):corE a u b v=1∧corL a u b v=[]:=by
 have e:corE a u b v=1:=if_neg (by rintro ⟨h1,h2,h3,h4⟩;rcases h with h | h | h | h <;> simp_all)
 exact⟨e,if_neg (by rw [e];omega)⟩
theorem Z27 {n:Nat} {d:Pt} (h:n≤100000) (hd:Z4 d=true):shE (Z5 n) d=if allPl (mvL d (Z5 n))=true then 0 else 3:=if_pos ⟨Z14 (Z1N h),hd⟩
set_option maxRecDepth 8000 in
set_option maxHeartbeats 4000000 in
theorem Z4B (a b:Pt) (u v:Int) (w:World) :
  Calls Tryz.prog 18 #[.agg #[.int .i64 a.x,.int .i64 a.y],.int .i64 u,.agg #[.int .i64 b.x,.int .i64 b.y],.int .i64 v] w fun e w'=>∃ r,e=.returned (.tuple #[r,.int .i64 (corE a u b v)])∧Z8 w'.heap.size w' r (corL a u b v)∧Below w.heap.size w w'∧NewI w.heap.size r:=by
 have NA:=(Has.new w #[.int .i64 a.x,.int .i64 a.y] 31).below ((Below.refl (w.heap.size+1) _).alloc (by simp) (.cells #[.int .i64 b.x,.int .i64 b.y] 31)) (by omega)
 have NB:=Has.new (w.alloc (.cells #[.int .i64 a.x,.int .i64 a.y] 31)) #[.int .i64 b.x,.int .i64 b.y] 31;rw [World.size_alloc] at NB;have hs:((w.alloc (.cells #[.int .i64 a.x,.int .i64 a.y] 31)).alloc (.cells #[.int .i64 b.x,.int .i64 b.y] 31)).heap.size=w.heap.size+2:=by simp
 have HA:=Lib.hid (((Below.refl w.heap.size w).alloc (Nat.le_refl _) (.cells #[.int .i64 a.x,.int .i64 a.y] 31)).alloc (by first | omega | (simp;done) | (simp;omega)) (.cells #[.int .i64 b.x,.int .i64 b.y] 31))
 have hcell:=Lib.hid (fun w' (B:Below ((w.alloc (.cells #[.int .i64 a.x,.int .i64 a.y] 31)).alloc (.cells #[.int .i64 b.x,.int .i64 b.y] 31)).heap.size ((w.alloc (.cells #[.int .i64 a.x,.int .i64 a.y] 31)).alloc (.cells #[.int .i64 b.x,.int .i64 b.y] 31)) w')=>(show w'.cell? ⟨w.heap.size,0,none⟩=some (.int .i64 a.x)∧w'.cell? ⟨w.heap.size,1,none⟩=some (.int .i64 a.y)∧w'.cell? ⟨w.heap.size+1,0,none⟩=some (.int .i64 b.x)∧w'.cell? ⟨w.heap.size+1,1,none⟩=some (.int .i64 b.y) from
  ⟨(NA.below B (by omega)).cell (i:=0) rfl,(NA.below B (by omega)).cell (i:=1) rfl,(NB.below B (by omega)).cell (i:=0) rfl,(NB.below B (by omega)).cell (i:=1) rfl⟩))
 have HF:=Lib.hid (fun w' (B:Below ((w.alloc (.cells #[.int .i64 a.x,.int .i64 a.y] 31)).alloc (.cells #[.int .i64 b.x,.int .i64 b.y] 31)).heap.size ((w.alloc (.cells #[.int .i64 a.x,.int .i64 a.y] 31)).alloc (.cells #[.int .i64 b.x,.int .i64 b.y] 31)) w')=>HA.out.trans (B.mono HA.out.size))
 have B0:=Lib.hid (Below.refl ((w.alloc (.cells #[.int .i64 a.x,.int .i64 a.y] 31)).alloc (.cells #[.int .i64 b.x,.int .i64 b.y] 31)).heap.size ((w.alloc (.cells #[.int .i64 a.x,.int .i64 a.y] 31)).alloc (.cells #[.int .i64 b.x,.int .i64 b.y] 31)));clear NA NB hs;have fa:=fun w1=>Z32 a.x a.y w1
 have fb:=fun w1=>Z32 b.x b.y w1
 have fu:=fun w1=>Z2k u w1
 have fv:=fun w1=>Z2k v w1
 cases ha:Z4 a
 ·obtain⟨e1,e2⟩:=Z3U (a:=a) (b:=b) (u:=u) (v:=v) (.inl ha)
  have HE:=Lib.hid e1;have HL:=Lib.hid e2;clear e1 e2;rw [show placeB a.x a.y=false from ha] at fa
  have fa:=Lib.hid fa;clear ha;go_enter Tryz.func18,Tryz.ntmps18;go_wp2_with fail;refine (fa.out _).mono ?_;rintro e w1 ⟨rfl,b1⟩;have B1:=zAg B0 b1;clear b1;go_wp2;go_ret2;exact⟨.slice none 0 0,by rw [HE.out];rfl,by rw [HL.out];exact Z8.nil _ _,HF.out _ B1.out,NewI.nil _⟩
 rw [show placeB a.x a.y=true from ha] at fa
 cases hb:Z4 b
 ·obtain⟨e1,e2⟩:=Z3U (a:=a) (b:=b) (u:=u) (v:=v) (.inr (.inl hb))
  have HE:=Lib.hid e1;have HL:=Lib.hid e2;clear e1 e2;have fa:=Lib.hid fa;rw [show placeB b.x b.y=false from hb] at fb
  have fb:=Lib.hid fb;clear ha hb;go_enter Tryz.func18,Tryz.ntmps18;go_wp2_with fail;refine (fa.out _).mono ?_;rintro e w1 ⟨rfl,b1⟩;have B1:=zAg B0 b1;clear b1;obtain⟨c0,c1,c2,c3⟩:=hcell.out _ B1.out;go_wp2_with fail;refine (fb.out _).mono ?_;rintro e w2 ⟨rfl,b2⟩;have B2:=zAg B1 b2;clear b2;go_wp2;go_ret2;exact⟨.slice none 0 0,by rw [HE.out];rfl,by rw [HL.out];exact Z8.nil _ _,HF.out _ B2.out,NewI.nil _⟩
 rw [show placeB b.x b.y=true from hb] at fb
 cases hu:radOk u
 ·obtain⟨e1,e2⟩:=Z3U (a:=a) (b:=b) (u:=u) (v:=v) (.inr (.inr (.inl hu)))
  have HE:=Lib.hid e1;have HL:=Lib.hid e2;clear e1 e2;have fa:=Lib.hid fa;have fb:=Lib.hid fb;rw [show radOk u=false from hu] at fu
  have fu:=Lib.hid fu;clear ha hb hu;go_enter Tryz.func18,Tryz.ntmps18;go_wp2_with fail;refine (fa.out _).mono ?_;rintro e w1 ⟨rfl,b1⟩;have B1:=zAg B0 b1;clear b1;obtain⟨c0,c1,c2,c3⟩:=hcell.out _ B1.out;go_wp2_with fail;refine (fb.out _).mono ?_;rintro e w2 ⟨rfl,b2⟩;have B2:=zAg B1 b2;clear b2 c0 c1 c2 c3;obtain⟨c0,c1,c2,c3⟩:=hcell.out _ B2.out;go_wp2_with fail;refine (fu.out _).mono ?_;rintro e w3 ⟨rfl,b3⟩;have B3:=zAg B2 b3;clear b3;go_wp2;go_ret2;exact⟨.slice none 0 0,by rw [HE.out];rfl,by rw [HL.out];exact Z8.nil _ _,HF.out _ B3.out,NewI.nil _⟩
 rw [show radOk u=true from hu] at fu
 cases hv:radOk v
 ·obtain⟨e1,e2⟩:=Z3U (a:=a) (b:=b) (u:=u) (v:=v) (.inr (.inr (.inr (hv))))
  have HE:=Lib.hid e1;have HL:=Lib.hid e2;clear e1 e2;have fa:=Lib.hid fa;have fb:=Lib.hid fb;have fu:=Lib.hid fu;rw [show radOk v=false from hv] at fv
  have fv:=Lib.hid fv;clear ha hb hu hv;go_enter Tryz.func18,Tryz.ntmps18;go_wp2_with fail;refine (fa.out _).mono ?_;rintro e w1 ⟨rfl,b1⟩;have B1:=zAg B0 b1;clear b1;obtain⟨c0,c1,c2,c3⟩:=hcell.out _ B1.out;go_wp2_with fail;refine (fb.out _).mono ?_;rintro e w2 ⟨rfl,b2⟩;have B2:=zAg B1 b2;clear b2 c0 c1 c2 c3;obtain⟨c0,c1,c2,c3⟩:=hcell.out _ B2.out;go_wp2_with fail;refine (fu.out _).mono ?_;rintro e w3 ⟨rfl,b3⟩;have B3:=zAg B2 b3;clear b3 c0 c1 c2 c3;obtain⟨c0,c1,c2,c3⟩:=hcell.out _ B3.out;go_wp2_with fail;refine (fv.out _).mono ?_;rintro e w4 ⟨rfl,b4⟩;have B4:=zAg B3 b4;clear b4;go_wp2;go_ret2;exact⟨.slice none 0 0,by rw [HE.out];rfl,by rw [HL.out];exact Z8.nil _ _,HF.out _ B4.out,NewI.nil _⟩
 rw [show radOk v=true from hv] at fv
 have fa:=Lib.hid fa;have fb:=Lib.hid fb;have fu:=Lib.hid fu;have fv:=Lib.hid fv;have r1:0≤u∧u≤100000:=by simpa [radOk] using hu
 have r2:0≤v∧v≤100000:=by simpa [radOk] using hv
 obtain⟨n,rfl⟩:∃ n:Nat,u=n:=⟨u.toNat,by omega⟩
 obtain⟨m,rfl⟩:∃ m:Nat,v=m:=⟨v.toNat,by omega⟩
 have n1:n≤100000:=by omega
 have n2:m≤100000:=by omega
 have hE:corE a n b m=if allPl (mvL a (Z5 n))=true∧allPl (mvL b (Z5 m))=true then 0 else 3:=if_pos ⟨ha,hb,hu,hv⟩
 have hL:corL a n b m=if corE a n b m=0 then corH a n b m else []:=rfl
 have g1:=fun w1=>Z2w n w1 n1
 have g2:=fun w1=>Z2w m w1 n2
 have g3:=fun x w1 h=>Z0s x (Z5 n) a w1 h
 have g4:=fun x w1 h=>Z0s x (Z5 m) b w1 h
 rw [Z27 n1 ha] at g3;rw [Z27 n2 hb] at g4;have k3:shL (Z5 n) a=if shE (Z5 n) a=0 then mvL a (Z5 n) else []:=rfl
 have k4:shL (Z5 m) b=if shE (Z5 m) b=0 then mvL b (Z5 m) else []:=rfl
 rw [Z27 n1 ha] at k3;rw [Z27 n2 hb] at k4;clear r1 r2 ha hb hu hv;have HLD:=Lib.hid (And.intro (Z0A n) (Z0A m));have HUL:=Lib.hid (fun h1 h2=>Z97 (a:=a) (u:=n) (b:=b) (v:=m) h1 h2)
 have gs:=Lib.hid (fun x ls w1 h=>Z4X x ls w1 h)
 cases t1:allPl (mvL a (Z5 n))
 ·rw [t1] at g3 k3 hE
  rw [if_neg (by simp)] at hE
  rw [hE,if_neg (by omega)] at hL
  rw [if_neg (by simp)] at g3
  rw [if_neg (by simp)] at k3
  rw [k3] at g3;clear t1 k3 k4 HUL;have HE:=Lib.hid hE;have HL:=Lib.hid hL;have g1:=Lib.hid g1;have g2:=Lib.hid g2;have g3:=Lib.hid g3;have g4:=Lib.hid g4;clear hE hL;go_enter Tryz.func18,Tryz.ntmps18;go_wp2_with fail;refine (fa.out _).mono ?_;rintro e w1 ⟨rfl,b1⟩;have B1:=zAg B0 b1;clear b1;obtain⟨c0,c1,c2,c3⟩:=hcell.out _ B1.out;go_wp2_with fail;refine (fb.out _).mono ?_;rintro e w2 ⟨rfl,b2⟩;have B2:=zAg B1 b2;clear b2 c0 c1 c2 c3;obtain⟨c0,c1,c2,c3⟩:=hcell.out _ B2.out;go_wp2_with fail;refine (fu.out _).mono ?_;rintro e w3 ⟨rfl,b3⟩;have B3:=zAg B2 b3;clear b3 c0 c1 c2 c3;obtain⟨c0,c1,c2,c3⟩:=hcell.out _ B3.out;go_wp2_with fail;refine (fv.out _).mono ?_;rintro e w4 ⟨rfl,b4⟩;have B4:=zAg B3 b4;clear b4 c0 c1 c2 c3;obtain⟨c0,c1,c2,c3⟩:=hcell.out _ B4.out;go_wp2_with fail;refine (g1.out _).mono ?_;rintro e w5 ⟨v5,rfl,p5,b5⟩;have B5:=zAg B4 b5;have P5:=Lib.hid p5;obtain⟨a5,d5,hv5⟩:=p5.len;subst hv5;clear p5 b5 c0 c1 c2 c3;obtain⟨c0,c1,c2,c3⟩:=hcell.out _ B5.out;go_wp2_with fail;refine (g2.out _).mono ?_;rintro e w6 ⟨v6,rfl,p6,b6⟩;have B6:=zAg B5 b6;have P6:=Lib.hid p6;have Q6:=Lib.hid ((P5.out.below b6).mono b6.size);obtain⟨a6,d6,hv6⟩:=p6.len;subst hv6;clear p6 P5 b6 c0 c1 c2 c3;obtain⟨c0,c1,c2,c3⟩:=hcell.out _ B6.out;go_wp2_with fail;refine (g3.out _ _ Q6.out).mono ?_;rintro e w7 ⟨v7,rfl,p7,b7⟩;have B7:=zAg B6 b7;have P7:=Lib.hid p7;have Q7:=Lib.hid ((P6.out.below b7).mono b7.size);obtain⟨a7,d7,hv7⟩:=p7.len;subst hv7;clear p7 Q6 P6 b7 c0 c1 c2 c3;obtain⟨c0,c1,c2,c3⟩:=hcell.out _ B7.out;go_wp2;go_ret2;exact⟨.slice none 0 0,by rw [HE.out];rfl,by rw [HL.out];exact Z8.nil _ _,HF.out _ B7.out,NewI.nil _⟩
 rw [t1,if_pos rfl] at g3;rw [t1,if_pos rfl,if_pos rfl] at k3;rw [k3] at g3;rw [t1] at hE;cases t2:allPl (mvL b (Z5 m))
 ·rw [t2] at g4 k4 hE
  rw [if_neg (by simp)] at hE
  rw [hE,if_neg (by omega)] at hL
  rw [if_neg (by simp)] at g4
  rw [if_neg (by simp)] at k4
  rw [k4] at g4;clear t1 t2 k3 k4 HUL;have HE:=Lib.hid hE;have HL:=Lib.hid hL;have g1:=Lib.hid g1;have g2:=Lib.hid g2;have g3:=Lib.hid g3;have g4:=Lib.hid g4;clear hE hL;go_enter Tryz.func18,Tryz.ntmps18;go_wp2_with fail;refine (fa.out _).mono ?_;rintro e w1 ⟨rfl,b1⟩;have B1:=zAg B0 b1;clear b1;obtain⟨c0,c1,c2,c3⟩:=hcell.out _ B1.out;go_wp2_with fail;refine (fb.out _).mono ?_;rintro e w2 ⟨rfl,b2⟩;have B2:=zAg B1 b2;clear b2 c0 c1 c2 c3;obtain⟨c0,c1,c2,c3⟩:=hcell.out _ B2.out;go_wp2_with fail;refine (fu.out _).mono ?_;rintro e w3 ⟨rfl,b3⟩;have B3:=zAg B2 b3;clear b3 c0 c1 c2 c3;obtain⟨c0,c1,c2,c3⟩:=hcell.out _ B3.out;go_wp2_with fail;refine (fv.out _).mono ?_;rintro e w4 ⟨rfl,b4⟩;have B4:=zAg B3 b4;clear b4 c0 c1 c2 c3;obtain⟨c0,c1,c2,c3⟩:=hcell.out _ B4.out;go_wp2_with fail;refine (g1.out _).mono ?_;rintro e w5 ⟨v5,rfl,p5,b5⟩;have B5:=zAg B4 b5;have P5:=Lib.hid p5;obtain⟨a5,d5,hv5⟩:=p5.len;subst hv5;clear p5 b5 c0 c1 c2 c3;obtain⟨c0,c1,c2,c3⟩:=hcell.out _ B5.out;go_wp2_with fail;refine (g2.out _).mono ?_;rintro e w6 ⟨v6,rfl,p6,b6⟩;have B6:=zAg B5 b6;have P6:=Lib.hid p6;have Q6:=Lib.hid ((P5.out.below b6).mono b6.size);obtain⟨a6,d6,hv6⟩:=p6.len;subst hv6;clear p6 P5 b6 c0 c1 c2 c3;obtain⟨c0,c1,c2,c3⟩:=hcell.out _ B6.out;go_wp2_with fail;refine (g3.out _ _ Q6.out).mono ?_;rintro e w7 ⟨v7,rfl,p7,b7⟩;have B7:=zAg B6 b7;have P7:=Lib.hid p7;have Q7:=Lib.hid ((P6.out.below b7).mono b7.size);obtain⟨a7,d7,hv7⟩:=p7.len;subst hv7;clear p7 Q6 P6 b7 c0 c1 c2 c3;obtain⟨c0,c1,c2,c3⟩:=hcell.out _ B7.out;go_wp2_with fail;refine (g4.out _ _ Q7.out).mono ?_;rintro e w8 ⟨v8,rfl,p8,b8⟩;have B8:=zAg B7 b8;have P8:=Lib.hid p8;have Q8:=Lib.hid ((P7.out.below b8).mono b8.size);obtain⟨a8,d8,hv8⟩:=p8.len;subst hv8;clear p8 Q7 P7 b8 c0 c1 c2 c3;go_wp2;go_ret2;exact⟨.slice none 0 0,by rw [HE.out];rfl,by rw [HL.out];exact Z8.nil _ _,HF.out _ B8.out,NewI.nil _⟩
 ·rw [t2,if_pos rfl] at g4
  rw [t2,if_pos rfl,if_pos rfl] at k4;rw [k4] at g4;rw [t2,if_pos (by simp)] at hE
  rw [hE,if_pos rfl] at hL;have HU:=Lib.hid (HUL.out t1 t2);clear t1 t2 k3 k4 HUL;have HE:=Lib.hid hE;have HL:=Lib.hid hL;have g1:=Lib.hid g1;have g2:=Lib.hid g2;have g3:=Lib.hid g3;have g4:=Lib.hid g4;clear hE hL;go_enter Tryz.func18,Tryz.ntmps18;go_wp2_with fail;refine (fa.out _).mono ?_;rintro e w1 ⟨rfl,b1⟩;have B1:=zAg B0 b1;clear b1;obtain⟨c0,c1,c2,c3⟩:=hcell.out _ B1.out;go_wp2_with fail;refine (fb.out _).mono ?_;rintro e w2 ⟨rfl,b2⟩;have B2:=zAg B1 b2;clear b2 c0 c1 c2 c3;obtain⟨c0,c1,c2,c3⟩:=hcell.out _ B2.out;go_wp2_with fail;refine (fu.out _).mono ?_;rintro e w3 ⟨rfl,b3⟩;have B3:=zAg B2 b3;clear b3 c0 c1 c2 c3;obtain⟨c0,c1,c2,c3⟩:=hcell.out _ B3.out;go_wp2_with fail;refine (fv.out _).mono ?_;rintro e w4 ⟨rfl,b4⟩;have B4:=zAg B3 b4;clear b4 c0 c1 c2 c3;obtain⟨c0,c1,c2,c3⟩:=hcell.out _ B4.out;go_wp2_with fail;refine (g1.out _).mono ?_;rintro e w5 ⟨v5,rfl,p5,b5⟩;have B5:=zAg B4 b5;have P5:=Lib.hid p5;obtain⟨a5,d5,hv5⟩:=p5.len;subst hv5;clear p5 b5 c0 c1 c2 c3;obtain⟨c0,c1,c2,c3⟩:=hcell.out _ B5.out;go_wp2_with fail;refine (g2.out _).mono ?_;rintro e w6 ⟨v6,rfl,p6,b6⟩;have B6:=zAg B5 b6;have P6:=Lib.hid p6;have Q6:=Lib.hid ((P5.out.below b6).mono b6.size);obtain⟨a6,d6,hv6⟩:=p6.len;subst hv6;clear p6 P5 b6 c0 c1 c2 c3;obtain⟨c0,c1,c2,c3⟩:=hcell.out _ B6.out;go_wp2_with fail;refine (g3.out _ _ Q6.out).mono ?_;rintro e w7 ⟨v7,rfl,p7,b7⟩;have B7:=zAg B6 b7;have P7:=Lib.hid p7;have Q7:=Lib.hid ((P6.out.below b7).mono b7.size);obtain⟨a7,d7,hv7⟩:=p7.len;subst hv7;clear p7 Q6 P6 b7 c0 c1 c2 c3;obtain⟨c0,c1,c2,c3⟩:=hcell.out _ B7.out;go_wp2_with fail;refine (g4.out _ _ Q7.out).mono ?_;rintro e w8 ⟨v8,rfl,p8,b8⟩;have B8:=zAg B7 b8;have P8:=Lib.hid p8;have Q8:=Lib.hid ((P7.out.below b8).mono b8.size);obtain⟨a8,d8,hv8⟩:=p8.len;subst hv8;clear p8 Q7 P7 b8 c0 c1 c2 c3;have A8:=Lib.hid ((Below.refl w8.heap.size w8).alloc (Nat.le_refl _) (.cells #[.slice a7 (mvL a (Z5 n)).length ((mvL a (Z5 n)).length+d7),.slice a8 (mvL b (Z5 m)).length ((mvL b (Z5 m)).length+d8)] 23));go_wp2_with fail;have f9:=gs.out _ [mvL a (Z5 n),mvL b (Z5 m)] _ (Z7c _ rfl Q8.out P8.out) (by simp) (fun j=>by match j with | 0=>(show (mvL a (Z5 n)).length≤_;rw [Z09];have:=HLD.out.1;omega) | 1=>(show (mvL b (Z5 m)).length≤_;rw [Z09];have:=HLD.out.2;omega) | j+2=>(show ([]:List Pt).length≤_;simp))
  rw [Z8q,HU.out.1,HU.out.2] at f9;refine f9.mono ?_;rintro e w9 ⟨v9,rfl,p9,b9,n9⟩;have B9:=Lib.hid (B8.out.trans ((A8.out.trans (b9.mono A8.out.size)).mono B8.out.size));have P9:=Lib.hid p9;have N9:=Lib.hid (n9.mono (Nat.le_trans (HF.out _ B8.out).size A8.out.size));obtain⟨a9,d9,hv9⟩:=p9.len;subst hv9;clear p9 b9 f9 n9;go_wp2;go_ret2;exact⟨_,by rw [HE.out];rfl,by rw [HL.out];exact P9.out,HF.out _ B9.out,N9.out⟩
theorem Z0o (a b:Pt) (u v:Int) (w:World) :
  Calls Tryz.prog 18 #[.agg #[.int .i64 a.x,.int .i64 a.y],.int .i64 u,.agg #[.int .i64 b.x,.int .i64 b.y],.int .i64 v] w fun e w'=>∃ r,e=.returned (.tuple #[r,.int .i64 (corE a u b v)])∧Z8 w'.heap.size w' r (corL a u b v)∧Below w.heap.size w w':=(Z4B a b u v w).mono fun _ _ ⟨u,a,b,c,_⟩=>⟨u,a,b,c⟩
end
section
attribute [local irreducible] wpQuiet
open Go.RowKit
theorem HeadInv.put {md:Region.Mode} {ops:Array Oper} {k j:Nat} {listed:Array Bool} (inv:HeadInv md ops k listed) (hr:(Region.ready md ops listed).contains j=true) (hlt:j<k):HeadInv md ops k (listed.setIfInBounds j true):=inv.set (by simpa using hr) hlt
end
end Go.Proofs.YtdolkgihppgpcaaGreat
