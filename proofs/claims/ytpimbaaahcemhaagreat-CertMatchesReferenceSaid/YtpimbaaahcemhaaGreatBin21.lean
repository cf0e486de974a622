/- package rocks: First, Hit. | Plain: what Has, Common, First and Hit say of one another. | Plain geometry: polygons that have a point in common touc .. -/
import Derived.WalkMore
import Derived.Test.YtpimbaaahcemhaaGreatBin20
import Derived.Deep.CutRange
namespace Go.Proofs.YtpimbaaahcemhaaGreat
section
attribute [local irreducible] wpQuiet
open Go.RowKit
noncomputable def hitTo (c:List Pt) (ls:List (List Pt)):Nat→Option Nat
 | 0=>none
 | k+1=>if (hitTo c ls k).isSome=true then hitTo c ls k else if touchB c (rk ls k)=true then some k else none
def natO (o:Option Nat):Int:=match o with | some k=>k | none=>0
open Classical in
noncomputable def okRocks (c:List Pt) (ls:List (List Pt)):Bool:=Zc c && decide (∀ j,j<ls.length→Zc (rk ls j)=true)
noncomputable def firI (c:List Pt) (ls:List (List Pt)):Int:=if ls.length≤100∧okRocks c ls=true then natO (hitTo c ls ls.length) else 0
noncomputable def firB (c:List Pt) (ls:List (List Pt)):Bool:=if ls.length≤100∧okRocks c ls=true then (hitTo c ls ls.length).isSome else false
noncomputable def firE (c:List Pt) (ls:List (List Pt)):Int:=if ls.length≤100 then (if okRocks c ls=true then 0 else 1) else 2
theorem Z9E {c:List Pt} {ls:List (List Pt)} (h:ls.length≤100) (hk:okRocks c ls=false):firI c ls=0∧firB c ls=false∧firE c ls=1:=by
 unfold firI firB firE;simp [h,hk]
set_option linter.unusedSimpArgs false in
set_option maxRecDepth 4000 in
set_option maxHeartbeats 1600000 in
theorem Z5R (vc vr : Value) (c : List Pt) (ls : List (List Pt)) (w : World) (hc : Z8 w.heap.size w vc c) (hr : Z7 w.heap.size w vr ls) :
  Calls Tryz.prog 50 #[vc,vr] w fun e w'=>e=.returned (.tuple #[.int .i64 (firI c ls),.bool (firB c ls),.int .i64 (firE c ls)])∧Below w.heap.size w w':=by
 obtain⟨_,ar,capr,rfl,hrc⟩:=hr;by_cases hbig:100<ls.length
 ·have d1:decide ((ls.length:Int)>100)=true:=by rw [decide_eq_true_eq];omega
  have HR:=Lib.hid (show firI c ls=0∧firB c ls=false∧firE c ls=2 by unfold firI firB firE;simp [show ¬ ls.length≤100 by omega])
  obtain⟨ap,capp,rfl⟩:=hc.len;clear hbig hrc hc;go_enter Tryz.func50,Tryz.ntmps50;go_wp2
  go_step3
  go_wp2
  (try rw [Exit.noGoto_ret]);go_ret3
  exact⟨by rw [HR.out.1,HR.out.2.1,HR.out.2.2];rfl,Below.refl _ _⟩
 ·have d1 : decide ((ls.length : Int) > 100) = false := by rw [decide_eq_false_iff_not]; omega
  have hle:ls.length≤100:=by omega
  have f1:=Lib.hid (fun w1 (B:Below w.heap.size w w1)=>Z5i vc c w1 ((hc.below B).mono B.size))
  have f2:=Lib.hid (fun w1 (B:Below w.heap.size w w1)=>Zx vc c w1 ((hc.below B).mono B.size))
  have HP:=Lib.hid hc;obtain⟨ap,capp,rfl⟩:=hc.len;have HRC:=Lib.hid hrc;have hA:=(Below.refl w.heap.size w).alloc (Nat.le_refl _) (.cells #[.slice ap c.length (c.length+capp)] 23);have hN:=Lib.hid (Has.new w #[.slice ap c.length (c.length+capp)] 23);have HA:=Lib.hid hA;have hs0:w.heap.size<(w.alloc (.cells #[.slice ap c.length (c.length+capp)] 23)).heap.size:=by simp
  obtain⟨gc,hgc⟩:∃ g,Zc c=g:=⟨_,rfl⟩;rw [hgc] at f2;have HGC:=Lib.hid hgc;clear hbig hrc hc hA hgc;go_enter Tryz.func50,Tryz.ntmps50;go_wp2
  go_step3
  go_wp2_with fail;refine (f1.out _ (Below.refl _ _)).mono ?_;rintro e w1 ⟨rfl,rfl⟩;go_wp2_with fail;refine (f2.out _ HA.out).mono ?_;rintro e w2 ⟨rfl,hb2⟩;have G2:=Lib.hid (hN.out.below hb2 hs0);have B2:=zAg HA hb2;have hs2:=G2.out.lt;clear hb2;go_wp2
  go_step3
  go_wp2
  go_loopw [8,9,10,22] (fun x y r i wr=>∃ k:Nat,k≤ls.length∧i=.int .i64 (k:Int)∧r=.bool gc∧x=.int .i64 (natO (hitTo c ls k))∧y=.bool (hitTo c ls k).isSome∧(∀ j,j<k→Zc (rk ls j)=true)∧Below w2.heap.size w2 wr) (fun _ _ _ i _=>ls.length-(intOf i).toNat)
  case atStart=>exact⟨0,by omega,rfl,rfl,rfl,rfl,fun j h=>by omega,Below.refl _ _⟩
  case round =>
   obtain⟨k,hk,rfl,rfl,rfl,rfl,hall,hB⟩:=hrel;have BB:=B2.out.trans (hB.mono B2.out.size);have G:=G2.out.below hB hs2;have hzr:=hB.size;have HALL:=Lib.hid hall;clear hall;by_cases hlt:k<ls.length
   ·obtain ⟨b, o, rfl, hb, hcc⟩ : ∃ b o, ar = some ⟨b, o, none⟩ ∧ b < w.heap.size ∧ ∀ j, j < ls.length → ∃ u, w.cell? ⟨b, o + j, none⟩ = some u ∧ Z8 w.heap.size w u (rk ls j) := by
     rcases HRC.out with h | h
     ·rw [h] at hlt;simp at hlt
     ·exact h
    obtain⟨u,hu,hpu⟩:=hcc k hlt;have e0:=(BB.cell (p:=⟨b,o+k,none⟩) hb).trans hu;have hpz:=(hpu.below BB).mono BB.size;have hv:=Lib.hid (Zx u (rk ls k) wr hpz);have hcw:=G.cell (i:=0) rfl;have hst:Hid (hitTo c ls (k+1)=if (hitTo c ls k).isSome=true then hitTo c ls k else if touchB c (rk ls k)=true then some k else none):=rfl
    obtain⟨au,cu,rfl⟩:=hpu.len;have dk:decide ((k:Int)<(ls.length:Int))=true:=by simp;omega
    have kl:(k:Int)<ls.length:=by omega
    have k0:(0:Int)≤k:=by omega
    have HB:=Lib.hid hB;have HBB:=Lib.hid BB;have HG:=Lib.hid G;have HPZ:=Lib.hid hpz;have HPC:=Lib.hid ((HP.out.below BB).mono BB.size);clear hcc hu hpu hB BB G hpz hcw;generalize hht:hitTo c ls k=ht at *;cases hg:Zc (rk ls k)
    ·have HR:=Lib.hid (Z9E hle (show okRocks c ls=false by
      unfold okRocks;rw [Bool.and_eq_false_iff]
      right
      refine decide_eq_false fun h=>?_
      have:=h k hlt;rw [hg] at this;cases this))
     rw [hg] at hv;clear hg hht;go_wp2_with fail;refine hv.out.mono ?_;rintro e w3 ⟨rfl,hb3⟩;have B3:=zAg HBB hb3;clear hb3;go_wp2
     (try rw [Exit.noGoto_ret]);go_ret3
     exact⟨by rw [HR.out.1,HR.out.2.1,HR.out.2.2];rfl,B3.out⟩
    ·rw [hg] at hv
     have HALL2:Hid (∀ j,j<k+1→Zc (rk ls j)=true):=fun j hj=>by
      by_cases e:j=k
      ·rw [e];exact hg
      ·exact HALL.out j (by omega)
     clear hg;go_wp2_with fail;refine hv.out.mono ?_;rintro e w3 ⟨rfl,hb3⟩;have B3:=Lib.hid (HB.out.trans (hb3.mono (by omega)))
     have G3:=HG.out.below hb3 HG.out.lt;have c3:=Lib.hid (G3.cell (i:=0) rfl);have HP3:=Lib.hid ((HPC.out.below hb3).mono hb3.size);have HZ3:=Lib.hid ((HPZ.out.below hb3).mono hb3.size);have hz3:=B3.out.size;clear hb3 G3;cases ht with
     | some q =>
      have hst2:Hid (hitTo c ls (k+1)=some q):=by show _=_;rw [hst.out];rfl
      go_wp2;go_roundw
      case rel=>exact⟨k+1,by omega,by go_num,rfl,by rw [hst2.out],by rw [hst2.out];rfl,HALL2.out,B3.out⟩
      case measure=>simp [intOf];omega
     | none =>
      cases gc
      ·have hst2:Hid (hitTo c ls (k+1)=none):=by
        show _=_
        rw [hst.out];have:touchB c (rk ls k)=false:=by unfold touchB;rw [HGC.out];rfl
        rw [this];rfl
       go_wp2;go_roundw
       case rel=>exact⟨k+1,by omega,by go_num,rfl,by rw [hst2.out],by rw [hst2.out];rfl,HALL2.out,B3.out⟩
       case measure=>simp [intOf];omega
      ·have ht:=Lib.hid (Z4y w.heap.size _ _ c (rk ls k) w3 c3.out HP3.out HZ3.out)
       go_wp2_with fail;refine ht.out.mono ?_;rintro e w4 ⟨rfl,hb4⟩;have B4:=Lib.hid (B3.out.trans (hb4.mono (by omega)))
       clear hb4;cases htb:touchB c (rk ls k)
       ·have hst2:Hid (hitTo c ls (k+1)=none):=by show _=_;rw [hst.out,htb];rfl
        clear htb;go_wp2;go_roundw
        case rel=>exact⟨k+1,by omega,by go_num,rfl,by rw [hst2.out],by rw [hst2.out];rfl,HALL2.out,B4.out⟩
        case measure=>simp [intOf];omega
       ·have hst2:Hid (hitTo c ls (k+1)=some k):=by show _=_;rw [hst.out,htb];rfl
        clear htb;go_wp2;go_roundw
        case rel=>exact⟨k+1,by omega,by go_num,rfl,by rw [hst2.out];rfl,by rw [hst2.out];rfl,HALL2.out,B4.out⟩
        case measure=>simp [intOf];omega
   ·obtain rfl:k=ls.length:=by omega
    have dk:decide ((ls.length:Int)<(ls.length:Int))=false:=by simp
    have HBB:=Lib.hid BB;clear hB BB G;cases gc
    ·have HR:=Lib.hid (Z9E hle (show okRocks c ls=false by unfold okRocks;rw [HGC.out];rfl))
     generalize hitTo c ls ls.length=ht at *;go_wp2
     (try rw [Exit.noGoto_ret]);go_ret3
     exact⟨by rw [HR.out.1,HR.out.2.1,HR.out.2.2];rfl,HBB.out⟩
    ·have hok:okRocks c ls=true:=by
      unfold okRocks;rw [HGC.out,Bool.true_and];exact decide_eq_true HALL.out
     have HR:=Lib.hid (show firI c ls=natO (hitTo c ls ls.length)∧firB c ls=(hitTo c ls ls.length).isSome∧firE c ls=0 by unfold firI firB firE;simp [hle,hok])
     clear hok;go_wp2
     (try rw [Exit.noGoto_ret]);go_ret3
     exact⟨by rw [HR.out.1,HR.out.2.1,HR.out.2.2];rfl,HBB.out⟩
end
def validC (l : List Pt) : Bool :=
 decide (1≤l.length∧l.length≤64) && (List.range l.length).all (fun k=>Z4 (nth l k) && (decide (k=0) || decide (cmpP (nth l 0) (nth l k)<0))) &&
  (decide (l.length<3) || (List.range l.length).all (fun i=>(List.range l.length).all (fun k=>decide (nth l k=(sideP l i).1) || decide (nth l k=(sideP l i).2) || decide (0<Z6 (sideP l i).1 (sideP l i).2 (nth l k)))))
theorem Z3Z (l : List Pt) : validC l = true ↔ GoValid l := by
 simp only [validC,Bool.and_eq_true,Bool.or_eq_true,decide_eq_true_eq,List.all_eq_true,List.mem_range];constructor
 ·rintro ⟨⟨⟨h1,h2⟩,h3⟩,h4⟩
  refine⟨h1,h2,fun k hk=>⟨(h3 k hk).1,fun h0=>?_⟩,fun hn i hi k hk e1 e2=>?_⟩
  ·rcases (h3 k hk).2 with h | h
   ·omega
   ·exact h
  ·rcases h4 with h | h
   ·omega
   ·rcases h i hi k hk with (h | h) | h
    ·exact absurd h e1
    ·exact absurd h e2
    ·exact h
 ·rintro ⟨h1,h2,h3,h4⟩
  refine⟨⟨⟨h1,h2⟩,fun k hk=>⟨(h3 k hk).1,?_⟩⟩,?_⟩
  ·rcases Nat.eq_zero_or_pos k with h | h
   ·exact .inl h
   ·exact .inr ((h3 k hk).2 h)
  ·rcases Nat.lt_or_ge l.length 3 with h | h
   ·exact .inl h
   ·refine .inr fun i hi k hk=>?_
    by_cases e1:nth l k=(sideP l i).1
    ·exact .inl (.inl e1)
    ·by_cases e2:nth l k=(sideP l i).2
     ·exact .inl (.inr e2)
     ·exact .inr (h4 h i hi k hk e1 e2)
theorem Z0N (l:List Pt):Zc l=validC l:=by
 cases h:validC l
 ·have:¬ GoValid l:=fun h2=>by rw [(Z3Z l).2 h2] at h;cases h
  simpa [Zc] using this
 ·have:=(Z3Z l).1 h
  simpa [Zc] using this
theorem Zn {l:List Pt} (h:Zc l=true):GoValid l:=by simpa [Zc] using h
theorem Z3o (f:Pt→Int) (l:List Pt):∀ k,(∀ j,j<k→loTo f l k≤f (nth l j))∧loTo f l k≤f (nth l 0)
 | 0=>⟨fun j h=>by omega,Int.le_refl _⟩
 | k + 1 => by
  have ih:=Z3o f l k;simp only [loTo];constructor
  ·intro j hj
   by_cases e:j=k
   ·subst e;split <;> omega
   ·have:=ih.1 j (by omega);split <;> omega
  ·have:=ih.2;split <;> omega
theorem Z3y (f:Pt→Int) (l:List Pt):∀ k,(∀ j,j<k→f (nth l j)≤hiTo f l k)∧f (nth l 0)≤hiTo f l k
 | 0=>⟨fun j h=>by omega,Int.le_refl _⟩
 | k + 1 => by
  have ih:=Z3y f l k;simp only [hiTo];constructor
  ·intro j hj
   by_cases e:j=k
   ·subst e;split <;> omega
   ·have:=ih.1 j (by omega);split <;> omega
  ·have:=ih.2;split <;> omega
theorem Z26 {l:List Pt} (h:GoValid l) {k:Nat} (hk:k<l.length):inside l (nth l k)=true:=by
 unfold inside;by_cases h3:l.length<3
 ·rw [if_pos h3,decide_eq_true_eq]
  refine⟨?_,(Z3o bxF1 l l.length).1 k hk,(Z3y bxF1 l l.length).1 k hk,(Z3o bxF2 l l.length).1 k hk,(Z3y bxF2 l l.length).1 k hk⟩;rcases (show k=0∨k=l.length-1 by omega) with e | e
  ·rw [e];unfold Z6 turnV;grind
  ·rw [e];unfold Z6 turnV;grind
 ·rw [if_neg h3,decide_eq_true_eq]
  intro i hi;by_cases e1:nth l k=(sideP l i).1
  ·rw [e1];unfold Z6 turnV;grind
  ·by_cases e2:nth l k=(sideP l i).2
   ·rw [e2];unfold Z6 turnV;grind
   ·have:=h.2.2.2 (by omega) i hi k hk e1 e2;omega
theorem Z6H {l:List Pt} (h:Zc l=true) {k:Nat} (hk:k<l.length):hasB l (nth l k)=true:=by
 have g:=Zn h;simp only [hasB,h,(g.2.2.1 k hk).1,Z26 g hk,Bool.and_true]
noncomputable def cornersC (l m:List Pt):Nat→List Pt
 | 0=>[]
 | k+1=>if (Z4 (nth l k) && inside m (nth l k))=true then cornersC l m k++[nth l k] else cornersC l m k
theorem Z1J {l m:List Pt} (hm:Zc m=true):∀ k,cornersTo l m k=cornersC l m k
 | 0=>rfl
 | k+1=>by simp only [cornersTo,cornersC,hasB,hm,Bool.true_and,Z1J hm k]
def InH (l:List Pt) (X Y W:Int):Prop :=
 if l.length<3 then SegH (nth l 0) (nth l (l.length-1)) X Y W else ∀ i,i<l.length→0≤hturn (sideP l i).1 (sideP l i).2 X Y W
theorem Z9Z {l:List Pt} {k:Nat} (hk:k<l.length):(boxL l).x≤(nth l k).x∧(boxL l).y≤(nth l k).y:=⟨(Z3o bxF1 l l.length).1 k hk,(Z3o bxF2 l l.length).1 k hk⟩
theorem Za0 {l:List Pt} {k:Nat} (hk:k<l.length):(nth l k).x≤(boxH l).x∧(nth l k).y≤(boxH l).y:=⟨(Z3y bxF1 l l.length).1 k hk,(Z3y bxF2 l l.length).1 k hk⟩
theorem Z4S (f:Pt→Int) (l:List Pt):∀ k,(∃ j,(j<k∨j=0)∧loTo f l k=f (nth l j))
 | 0=>⟨0,.inr rfl,rfl⟩
 | k + 1 => by
  obtain⟨j,hj,e⟩:=Z4S f l k;simp only [loTo];by_cases h:f (nth l k)<loTo f l k
  ·exact⟨k,.inl (by omega),by split <;> omega⟩
  ·exact⟨j,by omega,by split <;> omega⟩
theorem Z53 (f:Pt→Int) (l:List Pt):∀ k,(∃ j,(j<k∨j=0)∧hiTo f l k=f (nth l j))
 | 0=>⟨0,.inr rfl,rfl⟩
 | k + 1 => by
  obtain⟨j,hj,e⟩:=Z53 f l k;simp only [hiTo];by_cases h:hiTo f l k<f (nth l k)
  ·exact⟨k,.inl (by omega),by split <;> omega⟩
  ·exact⟨j,by omega,by split <;> omega⟩
theorem SegH.turn {a b:Pt} {X Y W K s t:Int} (e1:K*X=s*a.x+t*b.x) (e2:K*Y=s*a.y+t*b.y) (e3:K*W=s+t) (u v:Pt):K*hturn u v X Y W=s*Z6 u v a+t*Z6 u v b:=by
 rw [← Z0Y,e1,e2,e3];unfold hturn Z6 turnV;grind
theorem Z0v {K a:Int} (hK:0<K) (h:0≤K*a):0≤a:=by
 rcases Int.lt_or_le a 0 with h' | h'
 ·have:=Int.mul_neg_of_pos_of_neg hK h';omega
 ·exact h'
def Ord (a b:Pt):Prop:=a=b∨a.x<b.x∨a.x=b.x∧a.y<b.y
theorem GoValid.ord {l:List Pt} (h:GoValid l) (h3:l.length<3):Ord (nth l 0) (nth l (l.length-1)):=by
 by_cases e:l.length=1
 ·left;rw [e]
 ·have h1:=h.1
  have e2:l.length=2:=by omega
  have:=(h.2.2.1 1 (by omega)).2 (by omega)
  rw [e2];unfold cmpP at this;rw [Z0j] at this;exact .inr this
theorem Z7E {a b x:Pt} (ho:Ord a b) (ht:Z6 a b x=0) (h1:(if b.x<a.x then b.x else a.x)≤x.x) (h2:x.x≤(if a.x<b.x then b.x else a.x)) (h3:(if b.y<a.y then b.y else a.y)≤x.y) (h4:x.y≤(if a.y<b.y then b.y else a.y)):SegH a b x.x x.y 1:=by
 rcases ho with rfl | h | ⟨h,h'⟩
 ·simp only [Int.lt_irrefl,if_false] at h1 h2 h3 h4
  exact⟨1,1,0,by omega,by omega,by omega,by omega,by omega,by omega⟩
 ·rw [if_neg (by omega)] at h1
  rw [if_pos h] at h2;refine⟨b.x-a.x,b.x-x.x,x.x-a.x,by omega,by omega,by omega,by grind,?_,by omega⟩
  unfold Z6 turnV at ht;grind
 ·have hx:x.x=a.x:=by rw [h,if_neg (by omega)] at h1 h2;omega
  rw [if_neg (by omega)] at h3
  rw [if_pos h'] at h4;refine⟨b.y-a.y,b.y-x.y,x.y-a.y,by omega,by omega,by omega,?_,by grind,by omega⟩
  rw [hx,h];grind
theorem Z00 {l:List Pt} (hl:GoValid l) {x:Pt} (h:inside l x=true):InH l x.x x.y 1:=by
 unfold inside at h;unfold InH;by_cases h3:l.length<3
 ·rw [if_pos h3] at h ⊢
  rw [decide_eq_true_eq] at h;obtain⟨ht,b1,b2,b3,b4⟩:=h;have l1:=hl.1;have two:∀ j,(j<l.length∨j=0)→nth l j=nth l 0∨nth l j=nth l (l.length-1):=fun j hj=>by
   rcases (show j=0∨j=l.length-1 by omega) with rfl | rfl
   ·exact .inl rfl
   ·exact .inr rfl
  refine Z7E (hl.ord h3) ht ?_ ?_ ?_ ?_
  ·obtain⟨j,hj,e⟩:=Z4S bxF1 l l.length
   have e':(boxL l).x=(nth l j).x:=e;rcases two j hj with q | q <;> rw [q] at e' <;> split <;> omega
  ·obtain⟨j,hj,e⟩:=Z53 bxF1 l l.length
   have e':(boxH l).x=(nth l j).x:=e;rcases two j hj with q | q <;> rw [q] at e' <;> split <;> omega
  ·obtain⟨j,hj,e⟩:=Z4S bxF2 l l.length
   have e':(boxL l).y=(nth l j).y:=e;rcases two j hj with q | q <;> rw [q] at e' <;> split <;> omega
  ·obtain⟨j,hj,e⟩:=Z53 bxF2 l l.length
   have e':(boxH l).y=(nth l j).y:=e;rcases two j hj with q | q <;> rw [q] at e' <;> split <;> omega
 ·rw [if_neg h3] at h ⊢
  rw [decide_eq_true_eq] at h;exact fun i hi=>by rw [Z2b];exact h i hi
theorem Z0e {l : List Pt} (h1 : 1 ≤ l.length) {x : Pt} (h : InH l x.x x.y 1) : inside l x = true := by
 unfold InH at h;unfold inside;by_cases h3:l.length<3
 ·rw [if_pos h3] at h ⊢
  rw [decide_eq_true_eq];obtain⟨K,s,t,hK,hs,ht,e1,e2,e3⟩:=h;have tt:=SegH.turn e1 e2 e3 (nth l 0) (nth l (l.length-1));rw [Z2b,Z2c,Z2a,Int.mul_zero,Int.mul_zero,Int.add_zero] at tt;have l0:=Z9Z (l:=l) (k:=0) (by omega)
  have l1:=Z9Z (l:=l) (k:=l.length-1) (by omega)
  have g0:=Za0 (l:=l) (k:=0) (by omega)
  have g1:=Za0 (l:=l) (k:=l.length-1) (by omega)
  generalize nth l 0=a at *;generalize nth l (l.length-1)=b at *;have lo:∀ c p q r:Int,c≤p→c≤q→K*r=s*p+t*q→c≤r:=fun c p q r hp hq e=>by
   have m1:=Int.mul_nonneg hs (show 0≤p-c by omega)
   have m2:=Int.mul_nonneg ht (show 0≤q-c by omega)
   have:0≤r-c:=Z0v hK (by
    have:K*(r-c)=s*(p-c)+t*(q-c):=by rw [Int.mul_sub,e];grind
    omega)
   omega
  have hi:∀ c p q r:Int,p≤c→q≤c→K*r=s*p+t*q→r≤c:=fun c p q r hp hq e=>by
   have m1:=Int.mul_nonneg hs (show 0≤c-p by omega)
   have m2:=Int.mul_nonneg ht (show 0≤c-q by omega)
   have:0≤c-r:=Z0v hK (by
    have:K*(c-r)=s*(c-p)+t*(c-q):=by rw [Int.mul_sub,e];grind
    omega)
   omega
  refine⟨?_,lo _ _ _ _ l0.1 l1.1 e1,hi _ _ _ _ g0.1 g1.1 e1,lo _ _ _ _ l0.2 l1.2 e2,hi _ _ _ _ g0.2 g1.2 e2⟩;rcases Int.mul_eq_zero.1 tt with h | h
  ·omega
  ·exact h
 ·rw [if_neg h3] at h ⊢
  rw [decide_eq_true_eq];exact fun i hi=>by rw [← Z2b];exact h i hi
theorem GoValid.conv {l:List Pt} (h:GoValid l) (h3:3≤l.length):Conv (nth l) l.length:=by
 have hd:=Z3z (l:=l) (fun k h1 hk=>(h.2.2.1 k hk).2 h1) (fun i hi k hk a b=>h.2.2.2 h3 i hi k hk a b)
 have ne:∀ i k,i<l.length→k<l.length→i≠k→nth l i≠nth l k:=by
  intro i k hi hk hne e;rcases Nat.lt_or_gt_of_ne hne with h' | h'
  ·exact hd _ i k rfl h' hk e
  ·exact hd _ k i rfl h' hi e.symm
 refine⟨h3,fun i hi k hk e1 e2=>h.2.2.2 h3 i hi k hk (ne _ _ hk hi e1) (ne _ _ hk (nx_lt h3) e2)⟩
theorem Z01 {l:List Pt} (h:GoValid l) {k:Nat} (hk:k<l.length):InH l (nth l k).x (nth l k).y 1:=Z00 h (Z26 h hk)
theorem Z4Z {l : List Pt} {X Y W X1 Y1 W1 X2 Y2 W2 K s t : Int} (hK : 0 < K) (hs : 0 ≤ s) (ht : 0 ≤ t) (e1 : K * X = s * X1 + t * X2) (e2 : K * Y = s * Y1 + t * Y2) (e3 : K * W = s * W1 + t * W2)
  (h1:InH l X1 Y1 W1) (h2:InH l X2 Y2 W2):InH l X Y W:=by
 unfold InH at *;by_cases h3:l.length<3
 ·rw [if_pos h3] at *
  obtain⟨k,p,q,k0,p0,q0,a1,a2,a3⟩:=h1;obtain⟨k',p',q',k0',p0',q0',b1,b2,b3⟩:=h2;have n1:=Int.mul_nonneg (Int.mul_nonneg hs (Int.le_of_lt k0')) p0;have n2:=Int.mul_nonneg (Int.mul_nonneg ht (Int.le_of_lt k0)) p0';have n3:=Int.mul_nonneg (Int.mul_nonneg hs (Int.le_of_lt k0')) q0;have n4:=Int.mul_nonneg (Int.mul_nonneg ht (Int.le_of_lt k0)) q0';refine⟨k*k'*K,s*k'*p+t*k*p',s*k'*q+t*k*q',Int.mul_pos (Int.mul_pos k0 k0') hK,by omega,by omega,?_,?_,?_⟩
  ·have:k*k'*K*X=s*k'*(k*X1)+t*k*(k'*X2):=by
    have:k*k'*K*X=k*k'*(K*X):=by grind
    rw [this,e1];grind
   rw [this,a1,b1];grind
  ·have:k*k'*K*Y=s*k'*(k*Y1)+t*k*(k'*Y2):=by
    have:k*k'*K*Y=k*k'*(K*Y):=by grind
    rw [this,e2];grind
   rw [this,a2,b2];grind
  ·have:k*k'*K*W=s*k'*(k*W1)+t*k*(k'*W2):=by
    have:k*k'*K*W=k*k'*(K*W):=by grind
    rw [this,e3];grind
   rw [this,a3,b3];grind
 ·rw [if_neg h3] at *
  intro i hi;have a:=Int.mul_nonneg hs (h1 i hi);have b:=Int.mul_nonneg ht (h2 i hi);refine Z0v hK ?_;rw [← Z0Y,e1,e2,e3,Z1h];omega
theorem Z6B {l:List Pt} {a b:Pt} (ha:InH l a.x a.y 1) (hb:InH l b.x b.y 1) {X Y W:Int} (hs:SegH a b X Y W):InH l X Y W:=by
 obtain⟨K,s,t,hK,h1,h2,e1,e2,e3⟩:=hs;exact Z4Z hK h1 h2 e1 e2 (by omega) ha hb
def CrossS (S T:Pt × Pt):Prop:=(crossB (Z6 S.1 S.2 T.1) (Z6 S.1 S.2 T.2) && crossB (Z6 T.1 T.2 S.1) (Z6 T.1 T.2 S.2))=true
theorem CrossS.symm {S T:Pt × Pt} (h:CrossS S T):CrossS T S:=by unfold CrossS at *;rwa [Bool.and_comm]
theorem Z8K {P:Nat→Pt} {n:Nat} (h:Conv P n) {u v:Pt} {X Y W:Int} (hW:0<W) (hin:∀ j,j<n→0≤hs P n j X Y W) (hsg:SegH u v X Y W) :
  (∀ j,j<n→0≤hs P n j u.x u.y 1)∨(∀ j,j<n→0≤hs P n j v.x v.y 1)∨(∃ k,k<n∧SegH u v (P k).x (P k).y 1)∨∃ i,i<n∧CrossS (P i,P ((i+1) % n)) (u,v):=by
 by_cases hu:∀ j,j<n→0≤hs P n j u.x u.y 1
 ·exact .inl hu
 by_cases hv:∀ j,j<n→0≤hs P n j v.x v.y 1
 ·exact .inr (.inl hv)
 right;right
 have hu':∃ j,j<n∧hs P n j u.x u.y 1<0:=by
  apply Classical.byContradiction
  intro hc;exact hu fun j hj=>by
   rcases Int.lt_or_le (hs P n j u.x u.y 1) 0 with h' | h'
   ·exact absurd ⟨j,hj,h'⟩ hc
   ·exact h'
 obtain⟨i,hi,hneg,hall⟩:=Z6P (fun j=>hs P n j X Y W) (fun j=>hs P n j u.x u.y 1) n hin hu'
 obtain⟨B,hB⟩:∃ B,-(hs P n i u.x u.y 1)=B:=⟨_,rfl⟩;obtain⟨A,hA⟩:∃ A,hs P n i X Y W=A:=⟨_,rfl⟩;simp only [hB,hA] at hall;have hB0:0<B:=by omega
 have hA0:0≤A:=by have:=hin i hi;omega
 have hq:∀ j,j<n→0≤hs P n j (B*X+A*u.x) (B*Y+A*u.y) (B*W+A*1):=fun j hj=>by
  have:=hall j hj;unfold hs at *;rw [Z1h];exact this
 have hq0:hs P n i (B*X+A*u.x) (B*Y+A*u.y) (B*W+A*1)=0:=by
  unfold hs at *;rw [Z1h,hA];have:hturn (P i) (P ((i+1) % n)) u.x u.y 1=-B:=by omega
  rw [this];grind
 have hqW:0<B*W+A*1:=by have:=Int.mul_pos hB0 hW;omega
 have hside:=h.on_side hq hi hq0;obtain⟨K,s,t,hK,hs0,ht0,e1,e2,e3⟩:=hsg;have g1:K*(B*X+A*u.x)=(B*s+K*A)*u.x+(B*t)*v.x:=by
  have:K*(B*X+A*u.x)=B*(K*X)+K*A*u.x:=by grind
  rw [this,e1];grind
 have g2:K*(B*Y+A*u.y)=(B*s+K*A)*u.y+(B*t)*v.y:=by
  have:K*(B*Y+A*u.y)=B*(K*Y)+K*A*u.y:=by grind
  rw [this,e2];grind
 have g3:K*(B*W+A*1)=(B*s+K*A)+(B*t):=by
  have:K*(B*W+A*1)=B*(K*W)+K*A:=by grind
  rw [this,e3];grind
 have p0:0≤B*s+K*A:=by have:=Int.mul_nonneg (Int.le_of_lt hB0) hs0;have:=Int.mul_nonneg (Int.le_of_lt hK) hA0;omega
 have q0:0≤B*t:=Int.mul_nonneg (Int.le_of_lt hB0) ht0;generalize B*s+K*A=p at *;generalize B*t=q at *;generalize B*X+A*u.x=X1 at *;generalize B*Y+A*u.y=Y1 at *;generalize B*W+A*1=W1 at *;have tq:=SegH.turn g1 g2 g3 (P i) (P ((i+1) % n));have hq0':hturn (P i) (P ((i+1) % n)) X1 Y1 W1=0:=hq0;have tu:Z6 (P i) (P ((i+1) % n)) u<0:=by have:hs P n i u.x u.y 1=_:=Z2b _ _ u;omega
 rw [hq0',Int.mul_zero] at tq;have sv:SegH u v X1 Y1 W1:=⟨K,p,q,hK,p0,q0,g1,g2,g3⟩;have pp:0<p:=by
  rcases Int.lt_or_le 0 p with h' | h'
  ·exact h'
  ·exfalso
   have pz:p=0:=by omega
   rw [pz] at g1 g2 g3;refine hv fun j hj=>?_
   have qq:0<q:=by have:=Int.mul_pos hK hqW;omega
   refine Z0v qq ?_;have:=Int.mul_nonneg (Int.le_of_lt hK) (hq j hj);unfold hs at *;rw [← Z0Y] at this ⊢;rw [show q*v.x=K*X1 by omega,show q*v.y=K*Y1 by omega,show q*1=K*W1 by omega]
   exact this
 have tv:0<q*Z6 (P i) (P ((i+1) % n)) v:=by have:=Int.mul_neg_of_pos_of_neg pp tu;omega
 have tv':0<Z6 (P i) (P ((i+1) % n)) v:=by
  rcases Int.lt_or_le 0 (Z6 (P i) (P ((i+1) % n)) v) with h' | h'
  ·exact h'
  ·have:=Int.mul_nonneg q0 (show 0≤-Z6 (P i) (P ((i+1) % n)) v by omega)
   rw [Int.mul_neg] at this;omega
 obtain⟨K',s',t',hK',s0',t0',f1,f2,f3⟩:=hside;have ends:∀ c:Pt,∀ r:Int,0<r→r*c.x=K'*X1→r*c.y=K'*Y1→r=K'*W1→SegH u v c.x c.y 1:=fun c r hr z1 z2 z3=>by
  have n1:=Int.mul_nonneg (Int.le_of_lt hK') p0;have n2:=Int.mul_nonneg (Int.le_of_lt hK') q0;refine⟨K*r,K'*p,K'*q,Int.mul_pos hK hr,n1,n2,?_,?_,?_⟩
  ·rw [Int.mul_assoc,z1,show K*(K'*X1)=K'*(K*X1) by grind,g1];grind
  ·rw [Int.mul_assoc,z2,show K*(K'*Y1)=K'*(K*Y1) by grind,g2];grind
  ·rw [Int.mul_assoc,Int.mul_one,z3,show K*(K'*W1)=K'*(K*W1) by grind,g3];grind
 have kw:0<K'*W1:=Int.mul_pos hK' hqW;by_cases hs':s'=0
 ·subst hs'
  exact .inl ⟨(i+1) % n,nx_lt h.n3,ends _ t' (by omega) (by omega) (by omega) (by omega)⟩
 by_cases ht':t'=0
 ·subst ht'
  exact .inl ⟨i,hi,ends _ s' (by omega) (by omega) (by omega) (by omega)⟩
 right
 refine⟨i,hi,?_⟩;have tt:=SegH.turn f1 f2 f3 u v;have tz:hturn u v X1 Y1 W1=0:=by
  have:=SegH.turn g1 g2 g3 u v;rw [Z2c,Z2a,Int.mul_zero,Int.mul_zero,Int.add_zero] at this;rcases Int.mul_eq_zero.1 this with h' | h'
  ·omega
  ·exact h'
 rw [tz,Int.mul_zero] at tt;have df:Z6 u v (P ((i+1) % n))-Z6 u v (P i)=Z6 (P i) (P ((i+1) % n)) u-Z6 (P i) (P ((i+1) % n)) v:=by unfold Z6 turnV;grind
 unfold CrossS crossB;simp only [Bool.and_eq_true,decide_eq_true_eq];refine⟨.inl ⟨tu,tv'⟩,?_⟩;generalize Z6 u v (P ((i+1) % n))=β at *;generalize Z6 u v (P i)=α at *;have hlt:β<α:=by omega
 have s1:0<s':=by omega
 have t1:0<t':=by omega
 right
 constructor
 ·rcases Int.lt_or_le 0 α with h' | h'
  ·exact h'
  ·have m1:=Int.mul_nonneg (Int.le_of_lt s1) (show 0≤-α by omega)
   have m2:=Int.mul_neg_of_pos_of_neg t1 (show β<0 by omega)
   rw [Int.mul_neg] at m1;omega
 ·rcases Int.lt_or_le β 0 with h' | h'
  ·exact h'
  ·have m1:=Int.mul_nonneg (Int.le_of_lt t1) h'
   have m2:=Int.mul_pos s1 (show 0<α by omega)
   omega
theorem Z8J {a b u v : Pt} (h1 : Ord a b) (h2 : Ord u v) {X Y W : Int} (hW : 0 < W) (hs1 : SegH a b X Y W) (hs2 : SegH u v X Y W) :
  SegH u v a.x a.y 1∨SegH u v b.x b.y 1∨SegH a b u.x u.y 1∨SegH a b v.x v.y 1∨CrossS (a,b) (u,v):=by
 have e1:=hs1;have e2:=hs2;obtain⟨K,s,t,hK,s0,t0,f1,f2,f3⟩:=hs1;obtain⟨L,p,q,hL,p0,q0,g1,g2,g3⟩:=hs2;have kw:0<K*W:=Int.mul_pos hK hW;have lw:0<L*W:=Int.mul_pos hL hW;have pnt:∀ (c d e:Pt) (r M:Int),0<M→0<r→r*c.x=M*X→r*c.y=M*Y→r=M*W→SegH d e X Y W→SegH d e c.x c.y 1:=fun c d e r M hM hr z1 z2 z3 hse=>by
  obtain⟨N,x,y,hN,x0,y0,a1,a2,a3⟩:=hse;refine⟨N*r,M*x,M*y,Int.mul_pos hN hr,Int.mul_nonneg (by omega) x0,Int.mul_nonneg (by omega) y0,?_,?_,?_⟩
  ·rw [Int.mul_assoc,z1,show N*(M*X)=M*(N*X) by grind,a1];grind
  ·rw [Int.mul_assoc,z2,show N*(M*Y)=M*(N*Y) by grind,a2];grind
  ·rw [Int.mul_assoc,Int.mul_one,z3,show N*(M*W)=M*(N*W) by grind,a3];grind
 by_cases zs:s=0
 ·subst zs;exact .inr (.inl (pnt b u v t K hK (by omega) (by omega) (by omega) (by omega) e2))
 by_cases zt:t=0
 ·subst zt;exact .inl (pnt a u v s K hK (by omega) (by omega) (by omega) (by omega) e2)
 by_cases zp:p=0
 ·subst zp;exact .inr (.inr (.inr (.inl (pnt v a b q L hL (by omega) (by omega) (by omega) (by omega) e1))))
 by_cases zq:q=0
 ·subst zq;exact .inr (.inr (.inl (pnt u a b p L hL (by omega) (by omega) (by omega) (by omega) e1)))
 have sp:0<s:=by omega
 have tp:0<t:=by omega
 have pp:0<p:=by omega
 have qp:0<q:=by omega
 have z1:hturn u v X Y W=0:=by
  have:=SegH.turn g1 g2 g3 u v;rw [Z2c,Z2a,Int.mul_zero,Int.mul_zero,Int.add_zero] at this;rcases Int.mul_eq_zero.1 this with h' | h' <;> omega
 have z2:hturn a b X Y W=0:=by
  have:=SegH.turn f1 f2 f3 a b;rw [Z2c,Z2a,Int.mul_zero,Int.mul_zero,Int.add_zero] at this;rcases Int.mul_eq_zero.1 this with h' | h' <;> omega
 have w1:=SegH.turn f1 f2 f3 u v;have w2:=SegH.turn g1 g2 g3 a b;rw [z1,Int.mul_zero] at w1;rw [z2,Int.mul_zero] at w2;have df:Z6 u v b-Z6 u v a=Z6 a b u-Z6 a b v:=by unfold Z6 turnV;grind
 by_cases ha:Z6 u v a=0
 ·
  have hb:Z6 u v b=0:=by
   rw [ha,Int.mul_zero,Int.zero_add] at w1;rcases Int.mul_eq_zero.1 w1.symm with h' | h'
   ·omega
   ·exact h'
  have huv:Z6 a b u=Z6 a b v:=by omega
  have hu:Z6 a b u=0:=by
   rw [← huv,← Int.add_mul] at w2;rcases Int.mul_eq_zero.1 w2.symm with h' | h' <;> omega
  have hv:Z6 a b v=0:=by omega
  have lo:∀ c d r:Int,c<d→0≤r→0<r→r*c<r*d:=fun c d r h _ hr=>Int.mul_lt_mul_of_pos_left h hr
  rcases h1 with rfl | h1 | ⟨h1,h1'⟩
  ·exact .inl (pnt a u v (s+t) K hK (by omega) (by grind) (by grind) (by omega) e2)
  ·rcases h2 with rfl | h2 | ⟨h2,h2'⟩
   ·exact .inr (.inr (.inl (pnt u a b (p+q) L hL (by omega) (by grind) (by grind) (by omega) e1)))
   ·
    have c1:u.x<b.x:=by
     rcases Int.lt_or_le u.x b.x with h' | h'
     ·exact h'
     ·exfalso
      have m1:=Int.mul_lt_mul_of_pos_left h1 sp;have m2:=Int.mul_lt_mul_of_pos_left h2 qp;have x1:K*X<K*(W*b.x):=by rw [f1,← Int.mul_assoc,f3];grind
      have x2:L*(W*u.x)<L*X:=by rw [g1,← Int.mul_assoc,g3];grind
      have y1:=Int.lt_of_mul_lt_mul_left x1 (by omega)
      have y2:=Int.lt_of_mul_lt_mul_left x2 (by omega)
      have:=Int.mul_le_mul_of_nonneg_left h' (Int.le_of_lt hW);omega
    have c2:a.x<v.x:=by
     rcases Int.lt_or_le a.x v.x with h' | h'
     ·exact h'
     ·exfalso
      have m1:=Int.mul_lt_mul_of_pos_left h1 tp;have m2:=Int.mul_lt_mul_of_pos_left h2 pp;have x1:K*(W*a.x)<K*X:=by rw [f1,← Int.mul_assoc,f3];grind
      have x2:L*X<L*(W*v.x):=by rw [g1,← Int.mul_assoc,g3];grind
      have y1:=Int.lt_of_mul_lt_mul_left x1 (by omega)
      have y2:=Int.lt_of_mul_lt_mul_left x2 (by omega)
      have:=Int.mul_le_mul_of_nonneg_left h' (Int.le_of_lt hW);omega
    rcases Int.le_total a.x u.x with h' | h'
    ·refine .inr (.inr (.inl ⟨b.x-a.x,b.x-u.x,u.x-a.x,by omega,by omega,by omega,by grind,?_,by omega⟩))
     unfold Z6 turnV at hu;grind
    ·refine .inl ⟨v.x-u.x,v.x-a.x,a.x-u.x,by omega,by omega,by omega,by grind,?_,by omega⟩
     unfold Z6 turnV at ha;grind
   ·
    exfalso
    have:(b.x-a.x)*(v.y-u.y)=0:=by unfold Z6 turnV at ha hb;grind
    rcases Int.mul_eq_zero.1 this with h' | h' <;> omega
  ·rcases h2 with rfl | h2 | ⟨h2,h2'⟩
   ·exact .inr (.inr (.inl (pnt u a b (p+q) L hL (by omega) (by grind) (by grind) (by omega) e1)))
   ·exfalso
    have:(v.x-u.x)*(b.y-a.y)=0:=by unfold Z6 turnV at hu hv;grind
    rcases Int.mul_eq_zero.1 this with h' | h' <;> omega
   ·have ex:u.x=a.x:=by
     have:(b.y-a.y)*(u.x-a.x)=0:=by unfold Z6 turnV at hu;grind
     rcases Int.mul_eq_zero.1 this with h' | h' <;> omega
    have c1:u.y<b.y:=by
     rcases Int.lt_or_le u.y b.y with h' | h'
     ·exact h'
     ·exfalso
      have m1:=Int.mul_lt_mul_of_pos_left h1' sp;have m2:=Int.mul_lt_mul_of_pos_left h2' qp;have x1:K*Y<K*(W*b.y):=by rw [f2,← Int.mul_assoc,f3];grind
      have x2:L*(W*u.y)<L*Y:=by rw [g2,← Int.mul_assoc,g3];grind
      have y1:=Int.lt_of_mul_lt_mul_left x1 (by omega)
      have y2:=Int.lt_of_mul_lt_mul_left x2 (by omega)
      have:=Int.mul_le_mul_of_nonneg_left h' (Int.le_of_lt hW);omega
    have c2:a.y<v.y:=by
     rcases Int.lt_or_le a.y v.y with h' | h'
     ·exact h'
     ·exfalso
      have m1:=Int.mul_lt_mul_of_pos_left h1' tp;have m2:=Int.mul_lt_mul_of_pos_left h2' pp;have x1:K*(W*a.y)<K*Y:=by rw [f2,← Int.mul_assoc,f3];grind
      have x2:L*Y<L*(W*v.y):=by rw [g2,← Int.mul_assoc,g3];grind
      have y1:=Int.lt_of_mul_lt_mul_left x1 (by omega)
      have y2:=Int.lt_of_mul_lt_mul_left x2 (by omega)
      have:=Int.mul_le_mul_of_nonneg_left h' (Int.le_of_lt hW);omega
    rcases Int.le_total a.y u.y with h' | h'
    ·exact .inr (.inr (.inl ⟨b.y-a.y,b.y-u.y,u.y-a.y,by omega,by omega,by omega,by grind,by grind,by omega⟩))
    ·exact .inl ⟨v.y-u.y,v.y-a.y,a.y-u.y,by omega,by omega,by omega,by grind,by grind,by omega⟩
 ·
  refine .inr (.inr (.inr (.inr ?_)));have opp:∀ x y α β:Int,0<x→0<y→0=x*α+y*β→α≠0→(α<0∧0<β∨0<α∧β<0):=fun x y α β hx hy e hα=>by
   rcases Int.lt_or_lt_of_ne hα with h' | h'
   ·have:=Int.mul_neg_of_pos_of_neg hx h'
    refine .inl ⟨h',?_⟩;rcases Int.lt_or_le 0 β with h'' | h''
    ·exact h''
    ·have:=Int.mul_nonneg (Int.le_of_lt hy) (show 0≤-β by omega)
     rw [Int.mul_neg] at this;omega
   ·have:=Int.mul_pos hx h'
    refine .inr ⟨h',?_⟩;rcases Int.lt_or_le β 0 with h'' | h''
    ·exact h''
    ·have:=Int.mul_nonneg (Int.le_of_lt hy) h'';omega
  have o1:=opp s t _ _ sp tp w1 ha;have hu:Z6 a b u≠0:=fun h'=>by
   rw [h',Int.mul_zero,Int.zero_add] at w2;rcases Int.mul_eq_zero.1 w2.symm with h'' | h'' <;> omega
  have o2:=opp p q _ _ pp qp w2 hu;unfold CrossS crossB;simp only [Bool.and_eq_true,decide_eq_true_eq];exact⟨o2,o1⟩
def Touch (l m:List Pt):Prop:=(∃ k,k<l.length∧inside m (nth l k)=true)∨(∃ k,k<m.length∧inside l (nth m k)=true)∨∃ i j,i<l.length∧j<m.length∧CrossS (sideP l i) (sideP m j)
theorem Touch.symm {l m:List Pt} (h:Touch l m):Touch m l:=by
 rcases h with h | h | ⟨i,j,hi,hj,h⟩
 ·exact .inr (.inl h)
 ·exact .inl h
 ·exact .inr (.inr ⟨j,i,hj,hi,h.symm⟩)
theorem Z36 {m:List Pt} (h1:1≤m.length) (h3:m.length<3):sideP m 0=(nth m 0,nth m (m.length-1)):=by
 unfold sideP;rcases (show m.length=1∨m.length=2 by omega) with e | e <;> rw [e]
theorem Z5k {l m:List Pt} (hl:GoValid l) (hm:GoValid m) (h3:3≤l.length) {j:Nat} (hj:j<m.length) {X Y W:Int} (hW:0<W) (h1:InH l X Y W) (h2:SegH (sideP m j).1 (sideP m j).2 X Y W):Touch l m:=by
 have hc:=hl.conv h3
 have nl:¬ l.length<3:=by omega
 have j2:(j+1) % m.length<m.length:=Nat.mod_lt _ (by omega)
 have mk:∀ x:Pt,(∀ i,i<l.length→0≤hs (nth l) l.length i x.x x.y 1)→inside l x=true:=fun x h=>Z0e hl.1 (by unfold InH;rw [if_neg nl];exact h)
 have h1':∀ i,i<l.length→0≤hs (nth l) l.length i X Y W:=by unfold InH at h1;rwa [if_neg nl] at h1
 rcases Z8K hc hW h1' h2 with h | h | ⟨k,hk,h⟩ | ⟨i,hi,h⟩
 ·exact .inr (.inl ⟨j,hj,mk _ h⟩)
 ·exact .inr (.inl ⟨(j+1) % m.length,j2,mk _ h⟩)
 ·exact .inl ⟨k,hk,Z0e hm.1 (Z6B (Z01 hm hj) (Z01 hm j2) h)⟩
 ·exact .inr (.inr ⟨i,j,hi,hj,h⟩)
theorem Z5l {l m:List Pt} (hl:GoValid l) (hm:GoValid m) (h3:3≤l.length) {X Y W:Int} (hW:0<W) (h1:InH l X Y W) (h2:InH m X Y W):Touch l m:=by
 by_cases m3:m.length<3
 ·have h2':=h2
  unfold InH at h2';rw [if_pos m3] at h2';refine Z5k hl hm h3 (j:=0) hm.1 hW h1 ?_;rw [Z36 hm.1 m3];exact h2'
 ·by_cases hin:inside m (nth l 0)=true
  ·exact .inl ⟨0,hl.1,hin⟩
  have hcm:=hm.conv (by omega)
  have h2':∀ i,i<m.length→0≤hs (nth m) m.length i X Y W:=by unfold InH at h2;rwa [if_neg m3] at h2
  have hout:∃ j,j<m.length∧hs (nth m) m.length j (nth l 0).x (nth l 0).y 1<0:=by
   apply Classical.byContradiction
   intro hc;refine hin (Z0e hm.1 ?_);unfold InH;rw [if_neg m3];intro j hj;rcases Int.lt_or_le (hturn (sideP m j).1 (sideP m j).2 (nth l 0).x (nth l 0).y 1) 0 with h' | h'
   ·exact absurd ⟨j,hj,h'⟩ hc
   ·exact h'
  obtain⟨j,hj,hneg,hall⟩:=Z6P (fun j=>hs (nth m) m.length j X Y W) (fun j=>hs (nth m) m.length j (nth l 0).x (nth l 0).y 1) m.length h2' hout
  obtain⟨B,hB⟩:∃ B,-(hs (nth m) m.length j (nth l 0).x (nth l 0).y 1)=B:=⟨_,rfl⟩;obtain⟨A,hA⟩:∃ A,hs (nth m) m.length j X Y W=A:=⟨_,rfl⟩;simp only [hB,hA] at hall;have hB0:0<B:=by omega
  have hA0:0≤A:=by have:=h2' j hj;omega
  have hq:∀ i,i<m.length→0≤hs (nth m) m.length i (B*X+A*(nth l 0).x) (B*Y+A*(nth l 0).y) (B*W+A*1):=fun i hi=>by
   have:=hall i hi;unfold hs at *;rw [Z1h];exact this
  have hq0:hs (nth m) m.length j (B*X+A*(nth l 0).x) (B*Y+A*(nth l 0).y) (B*W+A*1)=0:=by
   unfold hs at *;rw [Z1h,hA];have:hturn (nth m j) (nth m ((j+1) % m.length)) (nth l 0).x (nth l 0).y 1=-B:=by omega
   rw [this];grind
  have hqW:0<B*W+A*1:=by have:=Int.mul_pos hB0 hW;omega
  have hside:=hcm.on_side hq hj hq0;refine Z5k hl hm h3 hj hqW ?_ hside;exact Z4Z (K:=1) (s:=B) (t:=A) (by omega) (by omega) hA0 (by omega) (by omega) (by omega) h1 (Z01 hl hl.1)
theorem Z69 {l m:List Pt} (hl:GoValid l) (hm:GoValid m) {X Y W:Int} (hW:0<W) (h1:InH l X Y W) (h2:InH m X Y W):Touch l m:=by
 by_cases h3:3≤l.length
 ·exact Z5l hl hm h3 hW h1 h2
 by_cases m3:3≤m.length
 ·exact (Z5l hm hl m3 hW h2 h1).symm
 have l3:l.length<3:=by omega
 have m3':m.length<3:=by omega
 have g1:=h1;have g2:=h2;unfold InH at g1 g2;rw [if_pos l3] at g1;rw [if_pos m3'] at g2;have inm:∀ {x:Pt},SegH (nth m 0) (nth m (m.length-1)) x.x x.y 1→inside m x=true:=fun h=>Z0e hm.1 (by unfold InH;rwa [if_pos m3'])
 have inl:∀ {x:Pt},SegH (nth l 0) (nth l (l.length-1)) x.x x.y 1→inside l x=true:=fun h=>Z0e hl.1 (by unfold InH;rwa [if_pos l3])
 have l1:=hl.1;have m1:=hm.1;rcases Z8J (hl.ord l3) (hm.ord m3') hW g1 g2 with h | h | h | h | h
 ·exact .inl ⟨0,by omega,inm h⟩
 ·exact .inl ⟨l.length-1,by omega,inm h⟩
 ·exact .inr (.inl ⟨0,by omega,inl h⟩)
 ·exact .inr (.inl ⟨m.length-1,by omega,inl h⟩)
 ·exact .inr (.inr ⟨0,0,by omega,by omega,by rw [Z36 l1 l3,Z36 m1 m3'];exact h⟩)
theorem Z6T {a b c d:Pt} (h:CrossS (a,b) (c,d)):∃ X Y W:Int,0<W∧SegH a b X Y W∧SegH c d X Y W:=by
 unfold CrossS crossB at h;simp only [Bool.and_eq_true,decide_eq_true_eq] at h;obtain⟨h1,h2⟩:=h;have df:Z6 c d b-Z6 c d a=Z6 a b c-Z6 a b d:=by unfold Z6 turnV;grind
 have ix:Z6 a b d*c.x-Z6 a b c*d.x=Z6 c d a*b.x-Z6 c d b*a.x:=by unfold Z6 turnV;grind
 have iy:Z6 a b d*c.y-Z6 a b c*d.y=Z6 c d a*b.y-Z6 c d b*a.y:=by unfold Z6 turnV;grind
 generalize Z6 a b d=t at *;generalize Z6 a b c=s at *;generalize Z6 c d a=α at *;generalize Z6 c d b=β at *;rcases Int.lt_or_le s 0 with hs | hs
 ·refine⟨t*c.x-s*d.x,t*c.y-s*d.y,t-s,by omega,⟨1,-β,α,by omega,by omega,by omega,?_,?_,by omega⟩,⟨1,t,-s,by omega,by omega,by omega,by grind,by grind,by omega⟩⟩
  ·rw [ix];grind
  ·rw [iy];grind
 ·refine⟨s*d.x-t*c.x,s*d.y-t*c.y,s-t,by omega,⟨1,β,-α,by omega,by omega,by omega,?_,?_,by omega⟩,⟨1,-t,s,by omega,by omega,by omega,by grind,by grind,by omega⟩⟩
  ·rw [show s*d.x-t*c.x=-(t*c.x-s*d.x) by omega,ix];grind
  ·rw [show s*d.y-t*c.y=-(t*c.y-s*d.y) by omega,iy];grind
theorem Z6q {l m:List Pt} (hl:GoValid l) (hm:GoValid m) (h:Touch l m):∃ X Y W:Int,0<W∧InH l X Y W∧InH m X Y W:=by
 rcases h with⟨k,hk,h⟩ | ⟨k,hk,h⟩ | ⟨i,j,hi,hj,h⟩
 ·exact⟨_,_,1,by omega,Z01 hl hk,Z00 hm h⟩
 ·exact⟨_,_,1,by omega,Z00 hl h,Z01 hm hk⟩
 ·obtain⟨X,Y,W,hW,h1,h2⟩:=Z6T (a:=(sideP l i).1) (b:=(sideP l i).2) (c:=(sideP m j).1) (d:=(sideP m j).2) h
  have i2:(i+1) % l.length<l.length:=Nat.mod_lt _ (by omega)
  have j2:(j+1) % m.length<m.length:=Nat.mod_lt _ (by omega)
  exact⟨X,Y,W,hW,Z6B (Z01 hl hi) (Z01 hl i2) h1,Z6B (Z01 hm hj) (Z01 hm j2) h2⟩
def wideN (n:Nat):Nat:=if isqrt (2*n*n)*isqrt (2*n*n)=2*n*n then isqrt (2*n*n) else isqrt (2*n*n)+1
theorem Z1p (n:Nat):2*n*n≤wideN n*wideN n∧∀ m,m<wideN n→m*m<2*n*n:=by
 have h:=ZZ (2*n*n);unfold wideN;generalize isqrt (2*n*n)=r at *;generalize 2*n*n=q at *
 split
 ·refine⟨by omega,fun m hm=>?_⟩
  have:=Nat.mul_lt_mul'' hm hm;omega
 ·refine⟨by omega,fun m hm=>?_⟩
  have:=Nat.mul_le_mul (show m≤r by omega) (show m≤r by omega)
  omega
theorem Za7 {n m:Nat} (h:2*n*n≤m*m):wideN n≤m:=by
 rcases Nat.lt_or_ge m (wideN n) with h' | h'
 ·have:=(Z1p n).2 m h';omega
 ·exact h'
theorem Z2Q (n:Nat):n≤wideN n:=by
 rcases Nat.lt_or_ge (wideN n) n with h' | h'
 ·have:=(Z1p n).1
  have b:=Nat.mul_lt_mul'' h' h';rw [Nat.mul_assoc] at this;omega
 ·exact h'
theorem Z1O (n:Nat):wideN n≤2*n:=Za7 (by
 have:2*n*(2*n)=2*(2*n*n):=by grind
 omega)
def octK (n:Nat):Int:=(wideN n:Int)-n
theorem Z4P (n:Nat):0≤octK n∧octK n≤n:=by
 have:=Z2Q n;have:=Z1O n;unfold octK;omega
theorem Z27 {l h:List Pt} (k:HullOf l h) {i:Nat} (hi:i<h.length):nth h i ∈ l:=by
 by_cases h0:i=0
 ·subst h0
  by_cases hl:l=[]
  ·rw [k.none hl] at hi;simp at hi
  ·exact (k.first hl).1
 ·have:=k.next (i-1) (by omega)
  rw [show i-1+1=i by omega,Nat.mod_eq_of_lt hi] at this
  exact this.1
theorem Z9S {a b:Pt}:cmpP a b<0↔LexLt a b:=by
 unfold cmpP LexLt cmpV orI cmpI
 repeat' split
 all_goals omega
theorem Z4k {l h : List Pt} (k : HullOf l h) (hl : l ≠ []) (h64 : h.length ≤ 64) (hp : ∀ x, x ∈ l → Z4 x = true) : GoValid h := by
 have lex:∀ i,0<i→i<h.length→LexLt (nth h 0) (nth h i):=fun i h0 hi=>by
  have:=(k.first hl).2 _ (Z27 k hi)
  rcases LexLt.tri (nth h 0) (nth h i) with c | c | c
  ·exact c
  ·exact absurd c.symm (k.back i h0 hi)
  ·exact absurd c this
 refine⟨k.some hl,h64,fun i hi=>⟨hp _ (Z27 k hi),fun h0=>Z9S.2 (lex i h0 hi)⟩,fun h3 i hi j hj n1 n2=>?_⟩
 have a:=(k.next i hi).2.2 _ (Z27 k hj);unfold sideP at n1 n2 ⊢;simp only at n1 n2 ⊢;rcases Int.lt_or_le 0 (Z6 (nth h i) (nth h ((i+1) % h.length)) (nth h j)) with c | c
 ·exact c
 ·exfalso
  have z:Z6 (nth h i) (nth h ((i+1) % h.length)) (nth h j)=0:=by omega
  have bt:=a.2 z;have mi:=Z27 k hi;have mi':=Z27 k (Nat.mod_lt (i+1) (by omega):(i+1) % h.length<h.length)
  have nj:=k.next j hj;have bi:=nj.2.2 _ mi;have bi':=nj.2.2 _ mi';have ne:nth h j≠nth h ((j+1) % h.length):=fun e=>by
   have all:=nj.2.1 e.symm;exact n1 (all _ mi).symm
  generalize nth h i=p at *;generalize nth h ((i+1) % h.length)=q at *;generalize nth h j=x at *;generalize nth h ((j+1) % h.length)=t at *;clear nj mi mi' a c k lex;have hpq:∃ m n:Int,0<m∧0<n∧m*(p.x-x.x)+n*(q.x-x.x)=0∧m*(p.y-x.y)+n*(q.y-x.y)=0:=by
   unfold Btw at bt;have n1':¬ (x.x=p.x∧x.y=p.y):=fun e=>n1 (Pt.ext' e.1 e.2)
   have n2':¬ (x.x=q.x∧x.y=q.y):=fun e=>n2 (Pt.ext' e.1 e.2)
   unfold Z6 turnV at z;by_cases hx:x.x=p.x
   ·have z1:(q.x-p.x)*(x.y-p.y)=0:=by rw [hx] at z;grind
    have z2:q.x=p.x:=by have:=(Int.mul_eq_zero.1 z1).resolve_right (by omega);omega
    have e1:p.x-x.x=0:=by omega
    have e2:q.x-x.x=0:=by omega
    rw [e1,e2];rcases Int.lt_or_le p.y x.y with c | c
    ·exact⟨q.y-x.y,x.y-p.y,by omega,by omega,by omega,by grind⟩
    ·exact⟨x.y-q.y,p.y-x.y,by omega,by omega,by omega,by grind⟩
   ·by_cases hx2:x.x=q.x
    ·have z1:(q.x-p.x)*(x.y-q.y)=0:=by rw [hx2] at z;grind
     have:=(Int.mul_eq_zero.1 z1).resolve_left (by omega)
     omega
    ·rcases Int.lt_or_le p.x x.x with c | c
     ·exact⟨q.x-x.x,x.x-p.x,by omega,by omega,by grind,by grind⟩
     ·exact⟨x.x-q.x,p.x-x.x,by omega,by omega,by grind,by grind⟩
  obtain⟨m,n,hm,hn,ex,ey⟩:=hpq;have lin:m*Z6 x t p+n*Z6 x t q=0:=by
   have:m*Z6 x t p+n*Z6 x t q=(t.x-x.x)*(m*(p.y-x.y)+n*(q.y-x.y))-(t.y-x.y)*(m*(p.x-x.x)+n*(q.x-x.x)):=by unfold Z6 turnV;grind
   rw [this,ex,ey];simp
  have u1:=Int.mul_nonneg (Int.le_of_lt hm) bi.1;have u2:=Int.mul_nonneg (Int.le_of_lt hn) bi'.1;have z1:Z6 x t p=0:=(Int.mul_eq_zero.1 (show m*Z6 x t p=0 by omega)).resolve_left (by omega)
  have z2:Z6 x t q=0:=(Int.mul_eq_zero.1 (show n*Z6 x t q=0 by omega)).resolve_left (by omega)
  have b1:=bi.2 z1;have b2:=bi'.2 z2;have d1:0≤(t.x-x.x)*(p.x-x.x):=by
   unfold Btw at b1;rcases Int.le_total x.x t.x with c | c
   ·exact Int.mul_nonneg (by omega) (by omega)
   ·have:=Int.mul_nonneg (show 0≤-(t.x-x.x) by omega) (show 0≤-(p.x-x.x) by omega);rwa [Int.neg_mul_neg] at this
  have d2:0≤(t.x-x.x)*(q.x-x.x):=by
   unfold Btw at b2;rcases Int.le_total x.x t.x with c | c
   ·exact Int.mul_nonneg (by omega) (by omega)
   ·have:=Int.mul_nonneg (show 0≤-(t.x-x.x) by omega) (show 0≤-(q.x-x.x) by omega);rwa [Int.neg_mul_neg] at this
  have d3:0≤(t.y-x.y)*(p.y-x.y):=by
   unfold Btw at b1;rcases Int.le_total x.y t.y with c | c
   ·exact Int.mul_nonneg (by omega) (by omega)
   ·have:=Int.mul_nonneg (show 0≤-(t.y-x.y) by omega) (show 0≤-(p.y-x.y) by omega);rwa [Int.neg_mul_neg] at this
  have d4:0≤(t.y-x.y)*(q.y-x.y):=by
   unfold Btw at b2;rcases Int.le_total x.y t.y with c | c
   ·exact Int.mul_nonneg (by omega) (by omega)
   ·have:=Int.mul_nonneg (show 0≤-(t.y-x.y) by omega) (show 0≤-(q.y-x.y) by omega);rwa [Int.neg_mul_neg] at this
  have s1:m*((t.x-x.x)*(p.x-x.x))+n*((t.x-x.x)*(q.x-x.x))=0:=by
   have:m*((t.x-x.x)*(p.x-x.x))+n*((t.x-x.x)*(q.x-x.x))=(t.x-x.x)*(m*(p.x-x.x)+n*(q.x-x.x)):=by grind
   rw [this,ex,Int.mul_zero]
  have s2:m*((t.y-x.y)*(p.y-x.y))+n*((t.y-x.y)*(q.y-x.y))=0:=by
   have:m*((t.y-x.y)*(p.y-x.y))+n*((t.y-x.y)*(q.y-x.y))=(t.y-x.y)*(m*(p.y-x.y)+n*(q.y-x.y)):=by grind
   rw [this,ey,Int.mul_zero]
  have v1:=Int.mul_nonneg (Int.le_of_lt hm) d1;have v2:=Int.mul_nonneg (Int.le_of_lt hn) d2;have v3:=Int.mul_nonneg (Int.le_of_lt hm) d3;have v4:=Int.mul_nonneg (Int.le_of_lt hn) d4;have w1:(t.x-x.x)*(p.x-x.x)=0:=(Int.mul_eq_zero.1 (show m*((t.x-x.x)*(p.x-x.x))=0 by omega)).resolve_left (by omega)
  have w3:(t.y-x.y)*(p.y-x.y)=0:=(Int.mul_eq_zero.1 (show m*((t.y-x.y)*(p.y-x.y))=0 by omega)).resolve_left (by omega)
  have hne:¬ (t.x=x.x∧t.y=x.y):=fun e=>ne (Pt.ext' e.1.symm e.2.symm)
  have hpx:¬ (p.x=x.x∧p.y=x.y):=fun e=>n1 (Pt.ext' e.1.symm e.2.symm)
  unfold Z6 turnV at z1;rcases Int.mul_eq_zero.1 w1 with c | c
  ·have c3:=(Int.mul_eq_zero.1 w3).resolve_left (by omega)
   rw [c,c3] at z1;have z1':(t.y-x.y)*(p.x-x.x)=0:=by grind
   have:=(Int.mul_eq_zero.1 z1').resolve_left (by omega)
   omega
  ·have c3:t.y-x.y=0:=(Int.mul_eq_zero.1 w3).resolve_right (by omega)
   rw [c,c3] at z1;have z1':(t.x-x.x)*(p.y-x.y)=0:=by grind
   have:=(Int.mul_eq_zero.1 z1').resolve_left (by omega)
   omega
section
attribute [local irreducible] wpQuiet
open Go.RowKit
open Classical in
noncomputable def polysB (ls:List (List Pt)):Bool:=decide (∀ j,j<ls.length→Zc (rk ls j)=true)
theorem Z2o {ls:List (List Pt)}:polysB ls=true↔∀ j,j<ls.length→Zc (rk ls j)=true:=by unfold polysB;rw [decide_eq_true_eq]
theorem Z8.has {W:World} {B:Nat} {cs:Array Value} {t:TypeId} {l:List Pt} {cap:Nat} (h:Has W B cs t) (hl:l.length≤70368744177663) (hcs:cs=(Zb l).toArray) :
  Z8 W.heap.size W (.slice (some ⟨B,0,none⟩) l.length (l.length+cap)) l:=by
 subst hcs;refine⟨hl,some ⟨B,0,none⟩,cap,rfl,.inr ⟨B,0,rfl,h.lt,fun j hj=>?_⟩⟩
 obtain⟨f0,f1⟩:=Z06 l j hj;rw [Nat.zero_add];exact⟨h.cell (by simpa using f0),h.cell (by simpa using f1)⟩
theorem Z7.has {W:World} {B:Nat} {cs:Array Value} {t:TypeId} {ls:List (List Pt)} {cap:Nat} (h:Has W B cs t) (hl:ls.length≤70368744177663)
  (hcs:∀ j,j<ls.length→∃ u,cs[j]?=some u∧Z8 W.heap.size W u (rk ls j)) :
  Z7 W.heap.size W (.slice (some ⟨B,0,none⟩) ls.length (ls.length+cap)) ls:=by
 refine⟨hl,some ⟨B,0,none⟩,cap,rfl,.inr ⟨B,0,rfl,h.lt,fun j hj=>?_⟩⟩
 obtain⟨u,hu,hp⟩:=hcs j hj;exact⟨u,h.cell (by rw [Nat.zero_add];exact hu),hp⟩
end
theorem Z2t {c : List Pt} {ls : List (List Pt)} : ∀ {k i}, hitTo c ls k = some i → i < k ∧ touchB c (rk ls i) = true ∧ ∀ j, j < i → touchB c (rk ls j) = false
 | 0,i,h=>by cases h
 | k + 1, i, h => by
  simp only [hitTo] at h;cases hk:hitTo c ls k with
  | some q =>
   rw [hk] at h;simp only [Option.isSome_some,if_true] at h;cases h;obtain⟨h1,h2,h3⟩:=Z2t hk;exact⟨by omega,h2,h3⟩
  | none =>
   rw [hk] at h;simp only [Option.isSome_none,Bool.false_eq_true,if_false] at h
   split at h
   ·cases h
    refine⟨by omega,by assumption,fun j hj=>?_⟩
    exact hitTo_none hk j hj
   ·cases h
where
 hitTo_none {c:List Pt} {ls:List (List Pt)}:∀ {k},hitTo c ls k=none→∀ j,j<k→touchB c (rk ls j)=false
 | 0,_,j,hj=>by omega
 | k + 1, h, j, hj => by
  simp only [hitTo] at h;cases hk:hitTo c ls k with
  | some q=>rw [hk] at h;cases h
  | none =>
   rw [hk] at h;simp only [Option.isSome_none,Bool.false_eq_true,if_false] at h
   split at h
   ·cases h
   ·rename_i ht
    by_cases e:j=k
    ·rw [e];simpa using ht
    ·exact hitTo_none hk j (by omega)
theorem hitTo_none {c:List Pt} {ls:List (List Pt)} {k:Nat} (h:hitTo c ls k=none):∀ j,j<k→touchB c (rk ls j)=false:=Z2t.hitTo_none h
theorem Z9B (a b:Pt) (s t:Int):frameP a b s t≠[]:=by unfold frameP;simp
theorem Z4q {S T:Pt × Pt}:crossST S T≠[]↔CrossS S T:=by
 unfold crossST CrossS
 split
 ·exact⟨fun _=>by assumption,fun _=>Z9B _ _ _ _⟩
 ·rename_i h;exact⟨fun h'=>absurd rfl h',fun h'=>absurd h' h⟩
theorem Z9Q {l m:List Pt}:crossP l m≠[]↔∃ i j,i<l.length∧j<m.length∧CrossS (sideP l i) (sideP m j):=by
 unfold crossP crossL rowS sidesL;constructor
 ·intro h
  obtain⟨x,hx⟩:=List.exists_mem_of_ne_nil _ h;simp only [List.mem_flatMap,Z0X] at hx;obtain⟨S,⟨i,hi,rfl⟩,T,⟨j,hj,rfl⟩,hx⟩:=hx;exact⟨i,j,hi,hj,Z4q.1 (List.ne_nil_of_mem hx)⟩
 ·rintro ⟨i,j,hi,hj,h⟩
  obtain⟨x,hx⟩:=List.exists_mem_of_ne_nil _ (Z4q.2 h);refine List.ne_nil_of_mem (a:=x) ?_;simp only [List.mem_flatMap,Z0X];exact⟨_,⟨i,hi,rfl⟩,_,⟨j,hj,rfl⟩,hx⟩
theorem ZP {l:List Pt} (h:GoValid l):Zc l=true:=by simpa [Zc] using h
theorem Z54 {l:List Pt} {x:Pt} (hl:GoValid l) (hx:Z4 x=true):hasB l x=true↔inside l x=true:=by
 unfold hasB;rw [ZP hl,hx];simp
theorem Z3F {l m:List Pt} (hl:GoValid l) (hm:GoValid m):cornersP l m≠[]↔∃ k,k<l.length∧inside m (nth l k)=true:=by
 constructor
 ·intro h
  obtain⟨x,hx⟩:=List.exists_mem_of_ne_nil _ h;obtain⟨k,hk,rfl,hb⟩:=(Z0d _).1 hx;exact⟨k,hk,(Z54 hm (hl.2.2.1 k hk).1).1 hb⟩
 ·rintro ⟨k,hk,h⟩
  exact List.ne_nil_of_mem ((Z0d _).2 ⟨k,hk,rfl,(Z54 hm (hl.2.2.1 k hk).1).2 h⟩)
theorem Z1t {l m:List Pt} (hl:GoValid l) (hm:GoValid m):touchB l m=true↔Touch l m:=by
 unfold touchB;rw [ZP hl,ZP hm];simp only [Bool.and_true,Bool.true_and,Bool.not_eq_true',decide_eq_false_iff_not];rw [show ((sharedP l m).length=0)=(sharedP l m=[]) from propext List.length_eq_zero_iff]
 unfold sharedP Touch;rw [← Z3F hl hm,← Z3F hm hl,← Z9Q];by_cases h1:cornersP l m=[]
 ·by_cases h2:cornersP m l=[]
  ·by_cases h3:crossP l m=[]
   ·simp [h1,h2,h3]
   ·simp [h1,h2,h3]
  ·simp [h2]
 ·simp [h1]
theorem Z6C {l : List Pt} (hl : GoValid l) {X Y W : Int} (h : InH l X Y W) : ∃ a b c : Nat, a < l.length ∧ b < l.length ∧ c < l.length ∧ ∃ K r s t : Int, 0 < K ∧ 0 ≤ r ∧ 0 ≤ s ∧ 0 ≤ t ∧
  K*X=r*(nth l a).x+s*(nth l b).x+t*(nth l c).x∧K*Y=r*(nth l a).y+s*(nth l b).y+t*(nth l c).y∧K*W=r+s+t:=by
 have l1:=hl.1;unfold InH at h;by_cases h3:l.length<3
 ·rw [if_pos h3] at h
  obtain⟨K,s,t,hK,hs,ht,e1,e2,e3⟩:=h;exact⟨0,l.length-1,0,by omega,by omega,by omega,K,s,t,0,hK,hs,ht,by omega,by omega,by omega,by omega⟩
 ·rw [if_neg h3] at h
  have hc:=hl.conv (by omega)
  have g:∃ k,1≤k∧k+1<l.length∧0≤hturn (nth l 0) (nth l k) X Y W∧hturn (nth l 0) (nth l (k+1)) X Y W≤0:=by
   have f1:0≤hturn (nth l 0) (nth l 1) X Y W:=by have:=h 0 (by omega);unfold sideP at this;rwa [Nat.mod_eq_of_lt (by omega)] at this
   have fn:hturn (nth l 0) (nth l (l.length-1)) X Y W≤0:=by
    have:=h (l.length-1) (by omega)
    unfold sideP at this;rw [show l.length-1+1=l.length by omega,Nat.mod_self] at this
    have this':0≤hturn (nth l (l.length-1)) (nth l 0) X Y W:=this;have e:hturn (nth l 0) (nth l (l.length-1)) X Y W=-hturn (nth l (l.length-1)) (nth l 0) X Y W:=by unfold hturn;grind
    omega
   have step:∀ d k,1≤k→k+d=l.length-1→0≤hturn (nth l 0) (nth l k) X Y W→(k<l.length-1)→∃ k,1≤k∧k+1<l.length∧0≤hturn (nth l 0) (nth l k) X Y W∧hturn (nth l 0) (nth l (k+1)) X Y W≤0:=fun d=>by
    induction d with
    | zero=>intro k h1 h2 h4 h5;omega
    | succ d ih =>
     intro k h1 h2 h4 h5;rcases Int.lt_or_le 0 (hturn (nth l 0) (nth l (k+1)) X Y W) with h' | h'
     ·by_cases e:k+1=l.length-1
      ·rw [e] at h';omega
      ·exact ih (k+1) (by omega) (by omega) (by omega) (by omega)
     ·exact⟨k,h1,by omega,h4,h'⟩
   exact step (l.length-2) 1 (by omega) (by omega) f1 (by omega)
  obtain⟨k,k1,k2,p,q⟩:=g;have r:=h k (by omega)
  unfold sideP at r;rw [Nat.mod_eq_of_lt (by omega)] at r
  have T:=hc.left k (by omega) 0 (by omega) (by omega) (by rw [Nat.mod_eq_of_lt (by omega)];omega)
  rw [Nat.mod_eq_of_lt (by omega)] at T
  refine⟨0,k,k+1,by omega,by omega,by omega,Z6 (nth l k) (nth l (k+1)) (nth l 0),hturn (nth l k) (nth l (k+1)) X Y W,-hturn (nth l 0) (nth l (k+1)) X Y W,hturn (nth l 0) (nth l k) X Y W,T,r,by omega,p,?_,?_,?_⟩
  all_goals generalize nth l 0=a at *
  all_goals generalize nth l k=b at *
  all_goals generalize nth l (k+1)=c at *
  ·unfold Z6 turnV hturn;grind
  ·unfold Z6 turnV hturn;grind
  ·unfold Z6 turnV hturn;grind
theorem Z88 {l m:List Pt} (hl:GoValid l) (h:∀ k,k<l.length→inside m (nth l k)=true) (hm:GoValid m) {X Y W:Int} (hx:InH l X Y W):InH m X Y W:=by
 obtain⟨a,b,c,ha,hb,hc,K,r,s,t,hK,hr,hs,ht,e1,e2,e3⟩:=Z6C hl hx;have ia:=Z00 hm (h a ha);have ib:=Z00 hm (h b hb);have ic:=Z00 hm (h c hc);have i1:InH m (r*(nth l a).x+s*(nth l b).x) (r*(nth l a).y+s*(nth l b).y) (r+s):=Z4Z (K:=1) (by omega) hr hs (by omega) (by omega) (by omega) ia ib
 exact Z4Z (s:=1) (t:=t) hK (by omega) ht (by omega) (by omega) (by omega) i1 ic
theorem Z5j {c l m:List Pt} (hc:Zc c=true) (hl:Zc l=true) (hm:Zc m=true) (h:∀ k,k<l.length→inside m (nth l k)=true) (ht:touchB c m=false):touchB c l=false:=by
 cases hb:touchB c l
 ·rfl
 obtain⟨X,Y,W,hW,h1,h2⟩:=Z6q (Zn hc) (Zn hl) ((Z1t (Zn hc) (Zn hl)).1 hb);have:=(Z1t (Zn hc) (Zn hm)).2 (Z69 (Zn hc) (Zn hm) hW h1 (Z88 (Zn hl) h (Zn hm) h2));rw [this] at ht;cases ht
theorem Z33 {l m:List Pt} (hl:Zc l=true) (hm:Zc m=true):touchB m l=touchB l m:=by
 rw [Bool.eq_iff_iff,Z1t (Zn hm) (Zn hl),Z1t (Zn hl) (Zn hm)];exact⟨Touch.symm,Touch.symm⟩
def mvP (b x:Pt):Pt:=⟨x.x+b.x,x.y+b.y⟩
def mvL (b:Pt) (l:List Pt):List Pt:=l.map (mvP b)
def mvS (b:Pt) (s:Pt × Pt):Pt × Pt:=(mvP b s.1,mvP b s.2)
theorem ZQ (b:Pt) (l:List Pt):(mvL b l).length=l.length:=by simp [mvL]
theorem Z3j (b:Pt) {l:List Pt} {k:Nat} (h:k<l.length):nth (mvL b l) k=mvP b (nth l k):=by
 simp [mvL,nth,List.getD_eq_getElem?_getD,List.getElem?_eq_getElem h]
theorem Zbd (b p q r:Pt):Z6 (mvP b p) (mvP b q) (mvP b r)=Z6 p q r:=by unfold Z6 turnV mvP;grind
theorem Zbg (b:Pt) {l:List Pt} {k:Nat} (h:k<l.length):sideP (mvL b l) k=mvS b (sideP l k):=by
 unfold sideP mvS;rw [ZQ,Z3j b h,Z3j b (Nat.mod_lt _ (by omega))]
theorem Z90 {D p d:Int} (hd:0<d) (h0:0≤p) (h1:p≤d):(D≤(D*p).fdiv d∨0≤(D*p).fdiv d)∧((D*p).fdiv d≤0∨(D*p).fdiv d≤D):=by
 rw [Int.fdiv_eq_ediv_of_nonneg _ (Int.le_of_lt hd)];rcases Int.le_total 0 D with h | h
 ·have a:=Int.mul_nonneg h h0
  have b:=Int.mul_le_mul_of_nonneg_left h1 h;exact⟨.inr (Int.le_ediv_of_mul_le hd (by omega)),.inr (Int.ediv_le_of_le_mul hd b)⟩
 ·have a:=Int.mul_nonneg (show 0≤-D by omega) h0
  have b:=Int.mul_le_mul_of_nonneg_left h1 (show 0≤-D by omega)
  rw [Int.neg_mul] at a b;rw [Int.neg_mul] at b;exact⟨.inl (Int.le_ediv_of_mul_le hd (by omega)),.inl (Int.ediv_le_of_le_mul hd (by omega))⟩
theorem Z7a {D s t:Int} (h:crossB s t=true):(D≤(D*s).fdiv (s-t)∨0≤(D*s).fdiv (s-t))∧((D*s).fdiv (s-t)≤0∨(D*s).fdiv (s-t)≤D):=by
 unfold crossB at h;rw [decide_eq_true_eq] at h;rcases h with h | h
 ·have e:(D*s).fdiv (s-t)=(D*-s).fdiv (-(s-t)):=by rw [Int.mul_neg,Int.neg_fdiv_neg]
  rw [e];exact Z90 (by omega) (by omega) (by omega)
 ·exact Z90 (by omega) (by omega) (by omega)
theorem Z9C {u v s t:Int} (h:crossB s t=true):(u≤frLo u v s t∨v≤frLo u v s t)∧(frLo u v s t≤u∨frLo u v s t≤v):=by
 have:=Z7a (D:=v-u) h;unfold frLo;omega
theorem Z9D {u v s t:Int} (h:crossB s t=true):(u≤frHi u v s t∨v≤frHi u v s t)∧(frHi u v s t≤u∨frHi u v s t≤v):=by
 have:=Z7a (D:=-(v-u)) h;rw [Int.neg_mul] at this;unfold frHi;omega
theorem ZS {p:Pt}:Z4 p=true↔-500000≤p.x∧p.x≤500000∧-500000≤p.y∧p.y≤500000:=by simp [Z4,placeB]
theorem Z5Q {a b:Pt} {s t:Int} (h:crossB s t=true) (ha:Z4 a=true) (hb:Z4 b=true) {x:Pt} (hx:x ∈ frameP a b s t):Z4 x=true:=by
 rw [ZS] at *;have h1:=Z9C (u:=a.x) (v:=b.x) h;have h2:=Z9D (u:=a.x) (v:=b.x) h;have h3:=Z9C (u:=a.y) (v:=b.y) h;have h4:=Z9D (u:=a.y) (v:=b.y) h;simp only [frameP,List.mem_cons,List.not_mem_nil,or_false] at hx;rcases hx with rfl | rfl | rfl | rfl
 ·show -500000≤frLo _ _ _ _∧frLo _ _ _ _≤500000∧-500000≤frLo _ _ _ _∧frLo _ _ _ _≤500000
  omega
 ·show -500000≤frLo _ _ _ _∧frLo _ _ _ _≤500000∧-500000≤frHi _ _ _ _∧frHi _ _ _ _≤500000
  omega
 ·show -500000≤frHi _ _ _ _∧frHi _ _ _ _≤500000∧-500000≤frLo _ _ _ _∧frLo _ _ _ _≤500000
  omega
 ·show -500000≤frHi _ _ _ _∧frHi _ _ _ _≤500000∧-500000≤frHi _ _ _ _∧frHi _ _ _ _≤500000
  omega
theorem Z44 {l:List Pt} (h:∀ k,k<l.length→Z4 (nth l k)=true) {i:Nat} (hi:i<l.length):Z4 (sideP l i).1=true∧Z4 (sideP l i).2=true:=⟨h i hi,h _ (Nat.mod_lt _ (by omega))⟩
theorem Z5Y {l m:List Pt} (hm:∀ k,k<m.length→Z4 (nth m k)=true) {x:Pt} (hx:x ∈ crossP l m):Z4 x=true:=by
 unfold crossP crossL rowS sidesL at hx;simp only [List.mem_flatMap,Z0X] at hx;obtain⟨S,⟨i,hi,rfl⟩,T,⟨j,hj,rfl⟩,hx⟩:=hx;unfold crossST at hx
 split at hx
 ·rename_i h
  simp only [Bool.and_eq_true] at h;exact Z5Q h.1 (Z44 hm hj).1 (Z44 hm hj).2 hx
 ·cases hx
theorem cmp_mv (b p q:Pt):cmpP (mvP b p) (mvP b q)=cmpP p q:=by
 have c:∀ u v w:Int,cmpI (u+w) (v+w)=cmpI u v:=fun u v w=>by
  unfold cmpI;repeat' split
  all_goals omega
 simp only [cmpP,cmpV,mvP,c]
section
variable {b:Pt} {l m:List Pt} (hl:Zc l=true) (hm:Zc m=true) (hl':Zc (mvL b l)=true) (hm':Zc (mvL b m)=true)
include hl hm hl' hm'
end
end Go.Proofs.YtpimbaaahcemhaaGreat
