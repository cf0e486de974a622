/- package rocks: First, Hit. | Plain: what Has, Common, First and Hit say of one another. | Plain geometry: polygons that have a point in common touc .. -/
import Derived.WalkMore
import Derived.Test.YtcfkhkgldboddaaGreatBin20
import Derived.Deep.CutRange
set_option linter.unusedSimpArgs false
namespace Go.Proofs.YtcfkhkgldboddaaGreat
section
attribute [local irreducible] wpQuiet
open Go.RowKit
noncomputable def hitTo (c:List Pt) (ls:List (List Pt)):Nat→Option Nat
 | 0=>none
 | k+1=>if (hitTo c ls k).isSome=true then hitTo c ls k else if touchB c (rk ls k)=true then some k else none
def natO (o:Option Nat):Int:=match o with | some k=>k | none=>0
open Classical in
noncomputable def okRocks (c:List Pt) (ls:List (List Pt)):Bool:=Zb c && decide (∀ j,j<ls.length→Zb (rk ls j)=true)
noncomputable def firI (c:List Pt) (ls:List (List Pt)):Int:=if ls.length≤100∧okRocks c ls=true then natO (hitTo c ls ls.length) else 0
noncomputable def firB (c:List Pt) (ls:List (List Pt)):Bool:=if ls.length≤100∧okRocks c ls=true then (hitTo c ls ls.length).isSome else false
noncomputable def firE (c:List Pt) (ls:List (List Pt)):Int:=if ls.length≤100 then (if okRocks c ls=true then 0 else 1) else 2
theorem Z9s {c:List Pt} {ls:List (List Pt)} (h:ls.length≤100) (hk:okRocks c ls=false):firI c ls=0∧firB c ls=false∧firE c ls=1:=by
 unfold firI firB firE;simp [h,hk]
set_option maxRecDepth 4000 in
set_option maxHeartbeats 1600000 in
theorem Z9r (vc vr : Value) (c : List Pt) (ls : List (List Pt)) (w : World) (hc : Z8 w.heap.size w vc c) (hr : Z7 w.heap.size w vr ls) :
  Calls Tryz.prog 64 #[vc,vr] w fun e w'=>e=.returned (.tuple #[.int .i64 (firI c ls),.bool (firB c ls),.int .i64 (firE c ls)])∧Below w.heap.size w w':=by
 obtain⟨_,ar,capr,rfl,hrc⟩:=hr;by_cases hbig:100<ls.length
 ·have d1:decide ((ls.length:Int)>100)=true:=by rw [decide_eq_true_eq];omega
  have HR:=Lib.hid (show firI c ls=0∧firB c ls=false∧firE c ls=2 by unfold firI firB firE;simp [show ¬ ls.length≤100 by omega])
  obtain⟨ap,capp,rfl⟩:=hc.len;clear hbig hrc hc;go_enter Tryz.func64,Tryz.ntmps64;go_wp2
  go_step3
  go_wp2
  (try rw [Exit.noGoto_ret]);go_ret3
  exact⟨by rw [HR.out.1,HR.out.2.1,HR.out.2.2];rfl,Below.refl _ _⟩
 ·have d1 : decide ((ls.length : Int) > 100) = false := by rw [decide_eq_false_iff_not]; omega
  have hle:ls.length≤100:=by omega
  have f1:=Lib.hid (fun w1 (B:Below w.heap.size w w1)=>Z4O vc c w1 ((hc.below B).mono B.size))
  have f2:=Lib.hid (fun w1 (B:Below w.heap.size w w1)=>Zv vc c w1 ((hc.below B).mono B.size))
  have HP:=Lib.hid hc;obtain⟨ap,capp,rfl⟩:=hc.len;have HRC:=Lib.hid hrc;have hA:=(Below.refl w.heap.size w).alloc (Nat.le_refl _) (.cells #[.slice ap c.length (c.length+capp)] 23);have hN:=Lib.hid (Has.new w #[.slice ap c.length (c.length+capp)] 23);have HA:=Lib.hid hA;have hs0:w.heap.size<(w.alloc (.cells #[.slice ap c.length (c.length+capp)] 23)).heap.size:=by simp
  obtain⟨gc,hgc⟩:∃ g,Zb c=g:=⟨_,rfl⟩;rw [hgc] at f2;have HGC:=Lib.hid hgc;clear hbig hrc hc hA hgc;go_enter Tryz.func64,Tryz.ntmps64;go_wp2
  go_step3
  go_wp2_with fail;refine (f1.out _ (Below.refl _ _)).mono ?_;rintro e w1 ⟨rfl,rfl⟩;go_wp2_with fail;refine (f2.out _ HA.out).mono ?_;rintro e w2 ⟨rfl,hb2⟩;have G2:=Lib.hid (hN.out.below hb2 hs0);have B2:=zAi HA hb2;have hs2:=G2.out.lt;clear hb2;go_wp2
  go_step3
  go_wp2
  go_loopw [8,9,10,22] (fun x y r i wr=>∃ k:Nat,k≤ls.length∧i=.int .i64 (k:Int)∧r=.bool gc∧x=.int .i64 (natO (hitTo c ls k))∧y=.bool (hitTo c ls k).isSome∧(∀ j,j<k→Zb (rk ls j)=true)∧Below w2.heap.size w2 wr) (fun _ _ _ i _=>ls.length-(intOf i).toNat)
  case atStart=>exact⟨0,by omega,rfl,rfl,rfl,rfl,fun j h=>by omega,Below.refl _ _⟩
  case round =>
   obtain⟨k,hk,rfl,rfl,rfl,rfl,hall,hB⟩:=hrel;have BB:=B2.out.trans (hB.mono B2.out.size);have G:=G2.out.below hB hs2;have hzr:=hB.size;have HALL:=Lib.hid hall;clear hall;by_cases hlt:k<ls.length
   ·obtain ⟨b, o, rfl, hb, hcc⟩ : ∃ b o, ar = some ⟨b, o, none⟩ ∧ b < w.heap.size ∧ ∀ j, j < ls.length → ∃ u, w.cell? ⟨b, o + j, none⟩ = some u ∧ Z8 w.heap.size w u (rk ls j) := by
     rcases HRC.out with h | h
     ·rw [h] at hlt;simp at hlt
     ·exact h
    obtain⟨u,hu,hpu⟩:=hcc k hlt;have e0:=(BB.cell (p:=⟨b,o+k,none⟩) hb).trans hu;have hpz:=(hpu.below BB).mono BB.size;have hv:=Lib.hid (Zv u (rk ls k) wr hpz);have hcw:=G.cell (i:=0) rfl;have hst:Hid (hitTo c ls (k+1)=if (hitTo c ls k).isSome=true then hitTo c ls k else if touchB c (rk ls k)=true then some k else none):=rfl
    obtain⟨au,cu,rfl⟩:=hpu.len;have dk:decide ((k:Int)<(ls.length:Int))=true:=by simp;omega
    have kl:(k:Int)<ls.length:=by omega
    have k0:(0:Int)≤k:=by omega
    have HB:=Lib.hid hB;have HBB:=Lib.hid BB;have HG:=Lib.hid G;have HPZ:=Lib.hid hpz;have HPC:=Lib.hid ((HP.out.below BB).mono BB.size);clear hcc hu hpu hB BB G hpz hcw;generalize hht:hitTo c ls k=ht at *;cases hg:Zb (rk ls k)
    ·have HR:=Lib.hid (Z9s hle (show okRocks c ls=false by
      unfold okRocks;rw [Bool.and_eq_false_iff]
      right
      refine decide_eq_false fun h=>?_
      have:=h k hlt;rw [hg] at this;cases this))
     rw [hg] at hv;clear hg hht;go_wp2_with fail;refine hv.out.mono ?_;rintro e w3 ⟨rfl,hb3⟩;have B3:=zAi HBB hb3;clear hb3;go_wp2
     (try rw [Exit.noGoto_ret]);go_ret3
     exact⟨by rw [HR.out.1,HR.out.2.1,HR.out.2.2];rfl,B3.out⟩
    ·rw [hg] at hv
     have HALL2:Hid (∀ j,j<k+1→Zb (rk ls j)=true):=fun j hj=>by
      by_cases e:j=k
      ·rw [e];exact hg
      ·exact HALL.out j (by omega)
     clear hg;go_wp2_with fail;refine hv.out.mono ?_;rintro e w3 ⟨rfl,hb3⟩;have B3:=Lib.hid (HB.out.trans (hb3.mono (by omega)))
     have G3:=HG.out.below hb3 HG.out.lt;have c3:=Lib.hid (G3.cell (i:=0) rfl);have HP3:=Lib.hid ((HPC.out.below hb3).mono hb3.size);have HZ3:=Lib.hid ((HPZ.out.below hb3).mono hb3.size);have hz3:=B3.out.size;clear hb3 G3;cases ht with
     | some q =>
      have hst2:Hid (hitTo c ls (k+1)=some q):=by show _=_;rw [hst.out];rfl
      go_wp2;go_roundw
      case rel=>exact⟨k+1,by omega,by go_num,rfl,by rw [hst2.out],by rw [hst2.out];rfl,HALL2.out,B3.out⟩
      case measure=>simp [intOf];omega
     | none =>
      cases gc
      ·have hst2:Hid (hitTo c ls (k+1)=none):=by
        show _=_
        rw [hst.out];have:touchB c (rk ls k)=false:=by unfold touchB;rw [HGC.out];rfl
        rw [this];rfl
       go_wp2;go_roundw
       case rel=>exact⟨k+1,by omega,by go_num,rfl,by rw [hst2.out],by rw [hst2.out];rfl,HALL2.out,B3.out⟩
       case measure=>simp [intOf];omega
      ·have ht:=Lib.hid (Z4l w.heap.size _ _ c (rk ls k) w3 c3.out HP3.out HZ3.out)
       go_wp2_with fail;refine ht.out.mono ?_;rintro e w4 ⟨rfl,hb4⟩;have B4:=Lib.hid (B3.out.trans (hb4.mono (by omega)))
       clear hb4;cases htb:touchB c (rk ls k)
       ·have hst2:Hid (hitTo c ls (k+1)=none):=by show _=_;rw [hst.out,htb];rfl
        clear htb;go_wp2;go_roundw
        case rel=>exact⟨k+1,by omega,by go_num,rfl,by rw [hst2.out],by rw [hst2.out];rfl,HALL2.out,B4.out⟩
        case measure=>simp [intOf];omega
       ·have hst2:Hid (hitTo c ls (k+1)=some k):=by show _=_;rw [hst.out,htb];rfl
        clear htb;go_wp2;go_roundw
        case rel=>exact⟨k+1,by omega,by go_num,rfl,by rw [hst2.out];rfl,by rw [hst2.out];rfl,HALL2.out,B4.out⟩
        case measure=>simp [intOf];omega
   ·obtain rfl:k=ls.length:=by omega
    have dk:decide ((ls.length:Int)<(ls.length:Int))=false:=by simp
    have HBB:=Lib.hid BB;clear hB BB G;cases gc
    ·have HR:=Lib.hid (Z9s hle (show okRocks c ls=false by unfold okRocks;rw [HGC.out];rfl))
     generalize hitTo c ls ls.length=ht at *;go_wp2
     (try rw [Exit.noGoto_ret]);go_ret3
     exact⟨by rw [HR.out.1,HR.out.2.1,HR.out.2.2];rfl,HBB.out⟩
    ·have hok:okRocks c ls=true:=by
      unfold okRocks;rw [HGC.out,Bool.true_and];exact decide_eq_true HALL.out
     have HR:=Lib.hid (show firI c ls=natO (hitTo c ls ls.length)∧firB c ls=(hitTo c ls ls.length).isSome∧firE c ls=0 by unfold firI firB firE;simp [hle,hok])
     clear hok;go_wp2
     (try rw [Exit.noGoto_ret]);go_ret3
     exact⟨by rw [HR.out.1,HR.out.2.1,HR.out.2.2];rfl,HBB.out⟩
end
def validC (l : List Pt) : Bool :=
 decide (1≤l.length∧l.length≤64) && (List.range l.length).all (fun k=>Z4 (nth l k) && (decide (k=0) || decide (cmpP (nth l 0) (nth l k)<0))) &&
  (decide (l.length<3) || (List.range l.length).all (fun i=>(List.range l.length).all (fun k=>decide (nth l k=(sideP l i).1) || decide (nth l k=(sideP l i).2) || decide (0<Z6 (sideP l i).1 (sideP l i).2 (nth l k)))))
theorem Z3G (l : List Pt) : validC l = true ↔ GoValid l := by
 simp only [validC,Bool.and_eq_true,Bool.or_eq_true,decide_eq_true_eq,List.all_eq_true,List.mem_range];constructor
 ·rintro ⟨⟨⟨h1,h2⟩,h3⟩,h4⟩
  refine⟨h1,h2,fun k hk=>⟨(h3 k hk).1,fun h0=>?_⟩,fun hn i hi k hk e1 e2=>?_⟩
  ·rcases (h3 k hk).2 with h | h
   ·omega
   ·exact h
  ·rcases h4 with h | h
   ·omega
   ·rcases h i hi k hk with (h | h) | h
    ·exact absurd h e1
    ·exact absurd h e2
    ·exact h
 ·rintro ⟨h1,h2,h3,h4⟩
  refine⟨⟨⟨h1,h2⟩,fun k hk=>⟨(h3 k hk).1,?_⟩⟩,?_⟩
  ·rcases Nat.eq_zero_or_pos k with h | h
   ·exact .inl h
   ·exact .inr ((h3 k hk).2 h)
  ·rcases Nat.lt_or_ge l.length 3 with h | h
   ·exact .inl h
   ·refine .inr fun i hi k hk=>?_
    by_cases e1:nth l k=(sideP l i).1
    ·exact .inl (.inl e1)
    ·by_cases e2:nth l k=(sideP l i).2
     ·exact .inl (.inr e2)
     ·exact .inr (h4 h i hi k hk e1 e2)
theorem Z05 (l:List Pt):Zb l=validC l:=by
 cases h:validC l
 ·have:¬ GoValid l:=fun h2=>by rw [(Z3G l).2 h2] at h;cases h
  simpa [Zb] using this
 ·have:=(Z3G l).1 h
  simpa [Zb] using this
theorem Zy {l:List Pt} (h:Zb l=true):GoValid l:=by simpa [Zb] using h
theorem Z9q {c p:List Pt} (hc:Zb c=true) (hp:Zb p=true):firB c [p]=touchB c p∧firE c [p]=0:=by
 have hok:okRocks c [p]=true:=by
  unfold okRocks;rw [hc,Bool.true_and];refine decide_eq_true fun j hj=>?_
  obtain rfl:j=0:=by simpa using hj
  exact hp
 unfold firB firE;simp only [List.length_singleton,hok,and_true,if_true,show (1:Nat)≤100 by omega]
 show (if (none:Option Nat).isSome=true then none else if touchB c p=true then some 0 else none:Option Nat).isSome=touchB c p
 cases touchB c p <;> rfl
noncomputable def cornersC (l m:List Pt):Nat→List Pt
 | 0=>[]
 | k+1=>if (Z4 (nth l k) && inside m (nth l k))=true then cornersC l m k++[nth l k] else cornersC l m k
theorem ZD {l m:List Pt} (hm:Zb m=true):∀ k,cornersTo l m k=cornersC l m k
 | 0=>rfl
 | k+1=>by simp only [cornersTo,cornersC,hasB,hm,Bool.true_and,ZD hm k]
theorem SegH.turn {a b:Pt} {X Y W K s t:Int} (e1:K*X=s*a.x+t*b.x) (e2:K*Y=s*a.y+t*b.y) (e3:K*W=s+t) (u v:Pt):K*hturn u v X Y W=s*Z6 u v a+t*Z6 u v b:=by
 rw [← Z6b,e1,e2,e3];unfold hturn Z6 turnV;grind
theorem GoValid.conv {l:List Pt} (h:GoValid l) (h3:3≤l.length):Conv (nth l) l.length:=by
 have hd:=Z3j (l:=l) (fun k h1 hk=>(h.2.2.1 k hk).2 h1) (fun i hi k hk a b=>h.2.2.2 h3 i hi k hk a b)
 have ne:∀ i k,i<l.length→k<l.length→i≠k→nth l i≠nth l k:=by
  intro i k hi hk hne e;rcases Nat.lt_or_gt_of_ne hne with h' | h'
  ·exact hd _ i k rfl h' hk e
  ·exact hd _ k i rfl h' hi e.symm
 refine⟨h3,fun i hi k hk e1 e2=>h.2.2.2 h3 i hi k hk (ne _ _ hk hi e1) (ne _ _ hk (nx_lt h3) e2)⟩
def CrossS (S T:Pt × Pt):Prop:=(crossB (Z6 S.1 S.2 T.1) (Z6 S.1 S.2 T.2) && crossB (Z6 T.1 T.2 S.1) (Z6 T.1 T.2 S.2))=true
theorem CrossS.symm {S T:Pt × Pt} (h:CrossS S T):CrossS T S:=by unfold CrossS at *;rwa [Bool.and_comm]
def Touch (l m:List Pt):Prop:=(∃ k,k<l.length∧inside m (nth l k)=true)∨(∃ k,k<m.length∧inside l (nth m k)=true)∨∃ i j,i<l.length∧j<m.length∧CrossS (sideP l i) (sideP m j)
theorem Touch.symm {l m:List Pt} (h:Touch l m):Touch m l:=by
 rcases h with h | h | ⟨i,j,hi,hj,h⟩
 ·exact .inr (.inl h)
 ·exact .inl h
 ·exact .inr (.inr ⟨j,i,hj,hi,h.symm⟩)
section
attribute [local irreducible] wpQuiet
open Go.RowKit
def minI (a b:Int):Int:=if b<a then b else a
def maxI (a b:Int):Int:=if a<b then b else a
def btwB (ax ay bx by' px py:Int):Bool:=decide (minI ax bx≤px) && decide (px≤maxI ax bx) && decide (minI ay by'≤py) && decide (py≤maxI ay by')
theorem Z2M (ax ay bx by' px py:Int) (w:World) :
  Calls Tryz.prog 185 #[.agg #[.int .i64 ax,.int .i64 ay],.agg #[.int .i64 bx,.int .i64 by'],.agg #[.int .i64 px,.int .i64 py]] w fun e w'=>e=.returned (.bool (btwB ax ay bx by' px py))∧Below w.heap.size w w':=by
 unfold btwB minI maxI;cases d1:decide ((if bx<ax then bx else ax)≤px)
 ·go_enter Tryz.func185,Tryz.ntmps185
  go_wp2
  all_goals (go_ret;exact⟨rfl,zB2⟩)
 cases d2:decide (px≤(if ax<bx then bx else ax))
 ·go_enter Tryz.func185,Tryz.ntmps185
  go_wp2
  all_goals (go_ret;exact⟨rfl,zB2⟩)
 cases d3:decide ((if by'<ay then by' else ay)≤py)
 ·go_enter Tryz.func185,Tryz.ntmps185
  go_wp2
  all_goals (go_ret;exact⟨rfl,zB2⟩)
 cases d4:decide (py≤(if ay<by' then by' else ay))
 ·go_enter Tryz.func185,Tryz.ntmps185
  go_wp2
  all_goals (go_ret;exact⟨rfl,zB2⟩)
 ·go_enter Tryz.func185,Tryz.ntmps185
  go_wp2
  all_goals (go_ret;exact⟨rfl,zB2⟩)
theorem Z57 (f:Pt→Int) {l:List Pt} (h:l.length=2):loTo f l l.length=minI (f (nth l 0)) (f (nth l 1)):=by
 rw [h];simp only [loTo,minI,Int.lt_irrefl,if_false]
theorem Z5h (f:Pt→Int) {l:List Pt} (h:l.length=2):hiTo f l l.length=maxI (f (nth l 0)) (f (nth l 1)):=by
 rw [h];simp only [hiTo,maxI,Int.lt_irrefl,if_false]
theorem Z7K {l:List Pt} (h:l.length=2) (x:Pt):inside l x=(decide (turnV (nth l 0).x (nth l 0).y (nth l 1).x (nth l 1).y x.x x.y=0) && btwB (nth l 0).x (nth l 0).y (nth l 1).x (nth l 1).y x.x x.y):=by
 have e1:(boxL l).x=minI (nth l 0).x (nth l 1).x:=Z57 bxF1 h;have e2:(boxL l).y=minI (nth l 0).y (nth l 1).y:=Z57 bxF2 h;have e3:(boxH l).x=maxI (nth l 0).x (nth l 1).x:=Z5h bxF1 h;have e4:(boxH l).y=maxI (nth l 0).y (nth l 1).y:=Z5h bxF2 h;unfold inside btwB;rw [if_pos (by omega),h,e1,e2,e3,e4,Bool.eq_iff_iff]
 simp only [Bool.and_eq_true,decide_eq_true_eq];exact⟨fun ⟨a,b,c,d,e⟩=>⟨a,⟨⟨b,c⟩,d⟩,e⟩,fun ⟨a,⟨⟨b,c⟩,d⟩,e⟩=>⟨a,b,c,d,e⟩⟩
theorem Z7L {l:List Pt} (h:l.length=1) (x:Pt):inside l x=true↔(nth l 0).x=x.x∧(nth l 0).y=x.y:=by
 have e1:(boxL l).x=(nth l 0).x:=by show loTo bxF1 l l.length=_;rw [h];simp [loTo,bxF1]
 have e2:(boxL l).y=(nth l 0).y:=by show loTo bxF2 l l.length=_;rw [h];simp [loTo,bxF2]
 have e3:(boxH l).x=(nth l 0).x:=by show hiTo bxF1 l l.length=_;rw [h];simp [hiTo,bxF1]
 have e4:(boxH l).y=(nth l 0).y:=by show hiTo bxF2 l l.length=_;rw [h];simp [hiTo,bxF2]
 unfold inside;rw [if_pos (by omega),h,e1,e2,e3,e4,decide_eq_true_eq]
 constructor
 ·rintro ⟨_,a,b,c,d⟩;omega
 ·rintro ⟨a,b⟩;exact⟨Z27 _ _,by omega,by omega,by omega,by omega⟩
set_option maxRecDepth 8000 in
set_option maxHeartbeats 2000000 in
theorem Z5R (v : Value) (l : List Pt) (x : Pt) (w : World) (hp : Z8 w.heap.size w v l) (hl : GoValid l) (hx : Z4 x = true) :
  Calls Tryz.prog 170 #[v,.agg #[.int .i64 x.x,.int .i64 x.y]] w fun e w'=>e=.returned (.bool (inside l x))∧Below w.heap.size w w':=by
 have hin:=hl.1;have h64:=hl.2.1;have hpl:∀ k,k<l.length→Z4 (nth l k)=true:=fun k hk=>(hl.2.2.1 k hk).1
 obtain⟨hll,a,cap,rfl,hc⟩:=hp;obtain⟨b,o,rfl,hb,hc⟩:∃ b o,a=some ⟨b,o,none⟩∧b<w.heap.size∧∀ j,j<l.length→w.cell? ⟨b,o+j*2,none⟩=some (.int .i64 (nth l j).x)∧w.cell? ⟨b,o+j*2+1,none⟩=some (.int .i64 (nth l j).y):=by
  rcases hc with rfl | h
  ·simp at hin
  ·exact h
 have HL:=Lib.hid hl;have HPL:=Lib.hid hpl;have px:=Zi hx;obtain⟨x,y⟩:=x;simp only at px;have hA:=(Below.refl w.heap.size w).alloc (Nat.le_refl _) (.cells #[.int .i64 x,.int .i64 y] 41);have hN:=Has.new w #[.int .i64 x,.int .i64 y] 41;have n0:=Low.fact (hN.cell (i:=0) rfl);have n1:=Low.fact (hN.cell (i:=1) rfl);have cc:=fun j hj=>And.intro ((hA.cell (p:=⟨b,o+j*2,none⟩) hb).trans (hc j hj).1) ((hA.cell (p:=⟨b,o+j*2+1,none⟩) hb).trans (hc j hj).2)
 have g1:=Low.fact (cc 0 (by omega)).1
 have g2:=Low.fact (cc 0 (by omega)).2
 simp only [Nat.zero_mul,Nat.add_zero] at g1 g2;have p0:=Zi (HPL.out 0 (by omega))
 have CC:=Lib.hid cc;have HA:=Lib.hid hA;have HN:=Lib.hid hN;have hne:¬ l=[]:=by intro h;rw [h] at hin;simp at hin
 by_cases e1:l.length=1
 ·have d1:((l.length:Int) == 1)=true:=by simp [e1]
  have hi:=Z7L e1 ⟨x,y⟩;have k1:(0:Int)<(l.length:Int):=by omega
  have HI:=Lib.hid hi;clear hc hA hN cc hl hpl hx hi;generalize (nth l 0).x=ax at *;generalize (nth l 0).y=ay at *;have hcase:(ax=x∧ay=y)∨(ax=x∧¬ ay=y)∨¬ ax=x:=by omega
  have HI2:Hid (inside l ⟨x,y⟩=true↔ax=x∧ay=y):=HI.out;clear HI;rcases hcase with⟨rfl,rfl⟩ | ⟨rfl,h⟩ | h
  ·go_enter Tryz.func170,Tryz.ntmps170
   go_wp2
   (refine Ze (by kernel_rfl) (by kernel_rfl) ?_;(iterate 6 (apply Zd;(case hw=>rfl);(case hval=>(intro w1 hw1;have hcx:=Low.cells hw1;simp only [Oper.quietAt];go_simp;first | done | rfl | exact⟨rfl,rfl⟩));simp only [Act.put,zq4,zr4,zs4]));refine wpQuiet_nil ?_;intro w2 hw2)
   go_wp2;go_ret;exact⟨by rw [HI2.out.2 (by simp)];rfl,HA.out.trans (hw2.out.mono (by simp))⟩
  ·have hf:inside l ⟨ax,y⟩=false:=by
    cases h':inside l ⟨ax,y⟩
    ·rfl
    ·exact absurd (HI2.out.1 h').2 h
   go_enter Tryz.func170,Tryz.ntmps170;go_wp2
   (refine Ze (by kernel_rfl) (by kernel_rfl) ?_;(iterate 6 (apply Zd;(case hw=>rfl);(case hval=>(intro w1 hw1;have hcx:=Low.cells hw1;simp only [Oper.quietAt];go_simp;first | done | rfl | exact⟨rfl,rfl⟩));simp only [Act.put,zq4,zr4,zs4]));refine wpQuiet_nil ?_;intro w2 hw2)
   go_wp2;go_ret;exact⟨by rw [hf];rfl,HA.out.trans (hw2.out.mono (by simp))⟩
  ·have hf:inside l ⟨x,y⟩=false:=by
    cases h':inside l ⟨x,y⟩
    ·rfl
    ·exact absurd (HI2.out.1 h').1 h
   go_enter Tryz.func170,Tryz.ntmps170;go_wp2
   (refine Ze (by kernel_rfl) (by kernel_rfl) ?_;(iterate 6 (apply Zd;(case hw=>rfl);(case hval=>(intro w1 hw1;have hcx:=Low.cells hw1;simp only [Oper.quietAt];go_simp;first | done | rfl | exact⟨rfl,rfl⟩));simp only [Act.put,zq4,zr4,zs4]));refine wpQuiet_nil ?_;intro w2 hw2)
   go_wp2;go_ret;exact⟨by rw [hf];rfl,HA.out.trans (hw2.out.mono (by simp))⟩
 have d1:((l.length:Int) == 1)=false:=by rw [beq_eq_false_iff_ne];omega
 by_cases e2:l.length=2
 ·have d2:((l.length:Int) == 2)=true:=by simp [e2]
  have g3:=Low.fact (cc 1 (by omega)).1
  have g4:=Low.fact (cc 1 (by omega)).2
  simp only [Nat.one_mul] at g3 g4;have p1:=Zi (HPL.out 1 (by omega))
  have hi:=Z7K e2 ⟨x,y⟩;have k1:(0:Int)<(l.length:Int):=by omega
  have k2:(1:Int)<(l.length:Int):=by omega
  rw [hi];clear hc hA hN cc hl hpl hx hi;generalize (nth l 0).x=ax at *;generalize (nth l 0).y=ay at *;generalize (nth l 1).x=bx at *;generalize (nth l 1).y=by' at *
  have hcr:=fun w1=>Z0o ax ay bx by' x y w1 (by omega) (by omega) (by omega) (by omega) (by omega) (by omega) (by omega) (by omega) (by omega) (by omega) (by omega) (by omega)
  by_cases ht:turnV ax ay bx by' x y=0
  ·rw [ht] at hcr ⊢
   have dt:((0:Int) == 0)=true:=rfl;clear ht;go_enter Tryz.func170,Tryz.ntmps170;go_wp2
   (refine Ze (by kernel_rfl) (by kernel_rfl) ?_;(iterate 20 (apply Zd;(case hw=>rfl);(case hval=>(intro w1 hw1;have hcx:=Low.cells hw1;simp only [Oper.quietAt];go_simp;first | done | (first | (go_at_call 68;exact Low.calls hw1 (hcr _)) | (go_at_call 185;exact Low.calls hw1 (Z2M _ _ _ _ _ _ _))) | rfl | exact⟨rfl,rfl⟩));simp only [Act.put,zq4,zr4,zs4]));refine wpQuiet_nil ?_;intro w2 hw2)
   go_wp2;go_ret;exact⟨by simp,HA.out.trans (hw2.out.mono (by simp))⟩
  ·have dt:(turnV ax ay bx by' x y == 0)=false:=by rw [beq_eq_false_iff_ne];exact ht
   rw [decide_eq_false ht];clear ht;generalize turnV ax ay bx by' x y=t at *
   go_enter Tryz.func170,Tryz.ntmps170;go_wp2
   (refine Ze (by kernel_rfl) (by kernel_rfl) ?_;(iterate 10 (apply Zd;(case hw=>rfl);(case hval=>(intro w1 hw1;have hcx:=Low.cells hw1;simp only [Oper.quietAt];go_simp;first | done | (first | (go_at_call 68;exact Low.calls hw1 (hcr _)) | (go_at_call 185;exact Low.calls hw1 (Z2M _ _ _ _ _ _ _))) | rfl | exact⟨rfl,rfl⟩));simp only [Act.put,zq4,zr4,zs4]));(iterate 8 (apply Zp;(case hw=>rfl);simp only [Act.put,zq4,zr4,zs4]));(iterate 2 (apply Zd;(case hw=>rfl);(case hval=>(intro w1 hw1;have hcx:=Low.cells hw1;simp only [Oper.quietAt];go_simp;first | done | (first | (go_at_call 68;exact Low.calls hw1 (hcr _)) | (go_at_call 185;exact Low.calls hw1 (Z2M _ _ _ _ _ _ _))) | rfl | exact⟨rfl,rfl⟩));simp only [Act.put,zq4,zr4,zs4]));refine wpQuiet_nil ?_;intro w2 hw2)
   go_wp2;go_ret;exact⟨rfl,HA.out.trans (hw2.out.mono (by simp))⟩
 have d2:((l.length:Int) == 2)=false:=by rw [beq_eq_false_iff_ne];omega
 have h3:3≤l.length:=by omega
 have hiff:inside l ⟨x,y⟩=true↔∀ i,i<l.length→0≤Z6 (sideP l i).1 (sideP l i).2 ⟨x,y⟩:=by unfold inside;rw [if_neg (by omega),decide_eq_true_eq]
 have HIFF:=Lib.hid hiff;clear hc hA hN cc hl hpl hx hiff n0 n1 g1 g2 p0;go_enter Tryz.func170,Tryz.ntmps170;go_wp2
 go_loopw [6] (fun i wr=>∃ k:Nat,k≤l.length∧i=.int .i64 (k:Int)∧(∀ j,j<k→0≤Z6 (sideP l j).1 (sideP l j).2 ⟨x,y⟩)∧Below (w.heap.size+1) (w.alloc (.cells #[.int .i64 x,.int .i64 y] 41)) wr) (fun i _=>l.length-(intOf i).toNat)
 case atStart=>exact⟨0,by omega,rfl,fun j h=>by omega,Below.refl _ _⟩
 case round =>
  obtain⟨k,hk,rfl,hall,hB⟩:=hrel;have HALL:=Lib.hid hall;clear hall;have hzr:=hB.size;simp only [World.size_alloc] at hzr;have hBw:=HA.out.trans (hB.mono (by omega))
  by_cases hlt:k<l.length
  ·obtain⟨m,hm⟩:∃ m,(k+1) % l.length=m:=⟨_,rfl⟩
   have hmlt:m<l.length:=by rw [← hm];exact Nat.mod_lt _ (by omega)
   have m1:IntKind.i64.wrap ((k:Int)+1)=(k:Int)+1:=zW2;have m2:((k:Int)+1).tmod (l.length:Int)=(m:Int):=by
    have:((k:Int)+1).tmod (l.length:Int)=(((k+1) % l.length:Nat):Int):=by
     rw [Int.tmod_eq_emod_of_nonneg (by omega)];rfl
    rw [this,hm]
   have HM:=Lib.hid hm;have dk:decide ((k:Int)<(l.length:Int))=true:=by simp;omega
   have pk:=Zi (HPL.out k hlt);have pm:=Zi (HPL.out m hmlt);have c1:=Low.fact ((hB.cell (p:=⟨b,o+k*2,none⟩) (Nat.lt_succ_of_lt hb)).trans (CC.out k hlt).1);have c2:=Low.fact ((hB.cell (p:=⟨b,o+k*2+1,none⟩) (Nat.lt_succ_of_lt hb)).trans (CC.out k hlt).2);have c3:=Low.fact ((hB.cell (p:=⟨b,o+m*2,none⟩) (Nat.lt_succ_of_lt hb)).trans (CC.out m hmlt).1);have c4:=Low.fact ((hB.cell (p:=⟨b,o+m*2+1,none⟩) (Nat.lt_succ_of_lt hb)).trans (CC.out m hmlt).2);have N:=HN.out.below hB (by omega)
   have n0:=Low.fact (N.cell (i:=0) rfl);have n1:=Low.fact (N.cell (i:=1) rfl);have kl:(k:Int)<l.length:=by omega
   have k0:(0:Int)≤k:=by omega
   have ml:(m:Int)<l.length:=by omega
   have m0:(0:Int)≤m:=by omega
   have hs:Hid ((sideP l k).1=nth l k∧(sideP l k).2=nth l m):=⟨rfl,by show nth l ((k+1) % l.length)=_;rw [HM.out]⟩
   have HB:=Lib.hid hB;clear hm hB N;have hcr:=fun w1=>Z0o (nth l k).x (nth l k).y (nth l m).x (nth l m).y x y w1 (by omega) (by omega) (by omega) (by omega) (by omega) (by omega) (by omega) (by omega) (by omega) (by omega) (by omega) (by omega)
   have htv:Hid (Z6 (sideP l k).1 (sideP l k).2 ⟨x,y⟩=turnV (nth l k).x (nth l k).y (nth l m).x (nth l m).y x y):=by show _=_;rw [hs.out.1,hs.out.2];rfl
   clear pk pm;generalize (nth l k).x=ax at *;generalize (nth l k).y=ay at *;generalize (nth l m).x=bx at *;generalize (nth l m).y=by' at *
   by_cases ht:turnV ax ay bx by' x y<0
   ·have dt:decide (turnV ax ay bx by' x y<0)=true:=by simpa using ht
    have hf:inside l ⟨x,y⟩=false:=by
     cases h':inside l ⟨x,y⟩
     ·rfl
     ·have:=HIFF.out.1 h' k hlt
      rw [htv.out] at this;omega
    have HF:=Lib.hid hf;clear ht hf htv;generalize turnV ax ay bx by' x y=t at *
    go_wp2
    (refine Ze (by kernel_rfl) (by kernel_rfl) ?_;(iterate 14 (apply Zd;(case hw=>rfl);(case hval=>(intro w1 hw1;have hcx:=Low.cells hw1;simp only [Oper.quietAt];go_simp;first | done | (first | (go_at_call 68;exact Low.calls hw1 (hcr _))) | rfl | exact⟨rfl,rfl⟩));simp only [Act.put,zq4,zr4,zs4]));refine wpQuiet_nil ?_;intro w2 hw2)
    go_wp2;go_ret;exact⟨by rw [HF.out];rfl,hBw.trans (hw2.out.mono (by omega))⟩
   ·have dt:decide (turnV ax ay bx by' x y<0)=false:=by simpa using ht
    have HALL2:Hid (∀ j,j<k+1→0≤Z6 (sideP l j).1 (sideP l j).2 ⟨x,y⟩):=fun j hj=>by
     by_cases e:j=k
     ·rw [e,htv.out];omega
     ·exact HALL.out j (by omega)
    clear ht htv;generalize turnV ax ay bx by' x y=t at *
    go_wp2
    (refine Ze (by kernel_rfl) (by kernel_rfl) ?_;(iterate 14 (apply Zd;(case hw=>rfl);(case hval=>(intro w1 hw1;have hcx:=Low.cells hw1;simp only [Oper.quietAt];go_simp;first | done | (first | (go_at_call 68;exact Low.calls hw1 (hcr _))) | rfl | exact⟨rfl,rfl⟩));simp only [Act.put,zq4,zr4,zs4]));refine wpQuiet_nil ?_;intro w2 hw2)
    go_wp2;go_roundw
    case rel=>exact⟨k+1,by omega,by go_num,HALL2.out,HB.out.trans (hw2.out.mono (by omega))⟩
    case measure=>simp [intOf];omega
  ·obtain rfl:k=l.length:=by omega
   have dk:decide ((l.length:Int)<(l.length:Int))=false:=by simp
   have HF:=Lib.hid (HIFF.out.2 HALL.out);clear hB;go_wp2;go_ret;exact⟨by rw [HF.out];rfl,hBw⟩
theorem Z8.has {W:World} {B:Nat} {cs:Array Value} {t:TypeId} {l:List Pt} {cap:Nat} (h:Has W B cs t) (hl:l.length≤70368744177663) (hcs:cs=(Za l).toArray) :
  Z8 W.heap.size W (.slice (some ⟨B,0,none⟩) l.length (l.length+cap)) l:=by
 subst hcs;refine⟨hl,some ⟨B,0,none⟩,cap,rfl,.inr ⟨B,0,rfl,h.lt,fun j hj=>?_⟩⟩
 obtain⟨f0,f1⟩:=Z02 l j hj;rw [Nat.zero_add];exact⟨h.cell (by simpa using f0),h.cell (by simpa using f1)⟩
theorem Has.alloc {W:World} {B:Nat} {cs:Array Value} {t:TypeId} (h:Has W B cs t) (o:Obj):Has (W.alloc o) B cs t :=
 h.below ((Below.refl W.heap.size W).alloc (Nat.le_refl _) o) h.lt
theorem Z7.has {W:World} {B:Nat} {cs:Array Value} {t:TypeId} {ls:List (List Pt)} {cap:Nat} (h:Has W B cs t) (hl:ls.length≤70368744177663)
  (hcs:∀ j,j<ls.length→∃ u,cs[j]?=some u∧Z8 W.heap.size W u (rk ls j)) :
  Z7 W.heap.size W (.slice (some ⟨B,0,none⟩) ls.length (ls.length+cap)) ls:=by
 refine⟨hl,some ⟨B,0,none⟩,cap,rfl,.inr ⟨B,0,rfl,h.lt,fun j hj=>?_⟩⟩
 obtain⟨u,hu,hp⟩:=hcs j hj;exact⟨u,h.cell (by rw [Nat.zero_add];exact hu),hp⟩
end
end Go.Proofs.YtcfkhkgldboddaaGreat
