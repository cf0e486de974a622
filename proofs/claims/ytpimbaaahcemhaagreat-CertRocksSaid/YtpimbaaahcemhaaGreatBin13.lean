/- package rocks: First, Hit. | Plain: what Has, Common, First and Hit say of one another. | Plain geometry: polygons that have a point in common touc .. -/
import Derived.WalkMore
import Derived.Test.YtpimbaaahcemhaaGreatBin12
import Derived.Test.YtpimbaaahcemhaaGreatBin00
import Derived.Test.YtpimbaaahcemhaaGreatBin10
import Derived.Deep.CutRange
import Derived.Test.YtpimbaaahcemhaaGreatBin02
namespace Go.Proofs.YtpimbaaahcemhaaGreat
open Go.RowKit
attribute [local irreducible] wpQuiet
noncomputable def hitTo (c:List Pt) (ls:List (List Pt)):Nat→Option Nat
 | 0=>none
 | k+1=>if (hitTo c ls k).isSome=true then hitTo c ls k else if touchB c (rk ls k)=true then some k else none
def natO (o:Option Nat):Int:=match o with | some k=>k | none=>0
open Classical in
noncomputable def okRocks (c:List Pt) (ls:List (List Pt)):Bool:=goValid c && decide (∀ j,j<ls.length→goValid (rk ls j)=true)
noncomputable def firI (c:List Pt) (ls:List (List Pt)):Int:=if ls.length≤100∧okRocks c ls=true then natO (hitTo c ls ls.length) else 0
noncomputable def firB (c:List Pt) (ls:List (List Pt)):Bool:=if ls.length≤100∧okRocks c ls=true then (hitTo c ls ls.length).isSome else false
noncomputable def firE (c:List Pt) (ls:List (List Pt)):Int:=if ls.length≤100 then (if okRocks c ls=true then 0 else 1) else 2
theorem fir_bad {c:List Pt} {ls:List (List Pt)} (h:ls.length≤100) (hk:okRocks c ls=false):firI c ls=0∧firB c ls=false∧firE c ls=1:=by
 unfold firI firB firE
 simp [h,hk]
set_option linter.unusedSimpArgs false in
set_option maxRecDepth 4000 in
set_option maxHeartbeats 1600000 in
theorem first_any (vc vr : Value) (c : List Pt) (ls : List (List Pt)) (w : World) (hc : PtsAt w.heap.size w vc c) (hr : RocksAt w.heap.size w vr ls) :
  Calls Tryz.prog 50 #[vc,vr] w fun e w'=>e=.returned (.tuple #[.int .i64 (firI c ls),.bool (firB c ls),.int .i64 (firE c ls)])∧Below w.heap.size w w':=by
 obtain⟨_,ar,capr,rfl,hrc⟩:=hr
 by_cases hbig:100<ls.length
 ·have d1:decide ((ls.length:Int)>100)=true:=by rw [decide_eq_true_eq];omega
  have HR:=Lib.hid (show firI c ls=0∧firB c ls=false∧firE c ls=2 by unfold firI firB firE;simp [show ¬ ls.length≤100 by omega])
  obtain⟨ap,capp,rfl⟩:=hc.len
  clear hbig hrc hc
  go_enter Tryz.func50,Tryz.ntmps50
  go_wp2
  go_step3
  go_wp2
  (try rw [Exit.noGoto_ret]);go_ret3
  exact⟨by rw [HR.out.1,HR.out.2.1,HR.out.2.2];rfl,Below.refl _ _⟩
 ·have d1 : decide ((ls.length : Int) > 100) = false := by rw [decide_eq_false_iff_not]; omega
  have hle:ls.length≤100:=by omega
  have f1:=Lib.hid (fun w1 (B:Below w.heap.size w w1)=>touching_any vc c w1 ((hc.below B).mono B.size))
  have f2:=Lib.hid (fun w1 (B:Below w.heap.size w w1)=>hullValid_any vc c w1 ((hc.below B).mono B.size))
  have HP:=Lib.hid hc
  obtain⟨ap,capp,rfl⟩:=hc.len
  have HRC:=Lib.hid hrc
  have hA:=(Below.refl w.heap.size w).alloc (Nat.le_refl _) (.cells #[.slice ap c.length (c.length+capp)] 23)
  have hN:=Lib.hid (Has.new w #[.slice ap c.length (c.length+capp)] 23)
  have HA:=Lib.hid hA
  have hs0:w.heap.size<(w.alloc (.cells #[.slice ap c.length (c.length+capp)] 23)).heap.size:=by simp
  obtain⟨gc,hgc⟩:∃ g,goValid c=g:=⟨_,rfl⟩
  rw [hgc] at f2
  have HGC:=Lib.hid hgc
  clear hbig hrc hc hA hgc
  go_enter Tryz.func50,Tryz.ntmps50
  go_wp2
  go_step3
  go_wp2_with fail
  refine (f1.out _ (Below.refl _ _)).mono ?_
  rintro e w1 ⟨rfl,rfl⟩
  go_wp2_with fail
  refine (f2.out _ HA.out).mono ?_
  rintro e w2 ⟨rfl,hb2⟩
  have G2:=Lib.hid (hN.out.below hb2 hs0)
  have B2:=Lib.hid (HA.out.trans (hb2.mono HA.out.size))
  have hs2:=G2.out.lt
  clear hb2
  go_wp2
  go_step3
  go_wp2
  go_loopw [8,9,10,22] (fun x y r i wr=>∃ k:Nat,k≤ls.length∧i=.int .i64 (k:Int)∧r=.bool gc∧x=.int .i64 (natO (hitTo c ls k))∧y=.bool (hitTo c ls k).isSome∧(∀ j,j<k→goValid (rk ls j)=true)∧Below w2.heap.size w2 wr) (fun _ _ _ i _=>ls.length - (intOf i).toNat)
  case atStart=>exact⟨0,by omega,rfl,rfl,rfl,rfl,fun j h=>by omega,Below.refl _ _⟩
  case round =>
   obtain⟨k,hk,rfl,rfl,rfl,rfl,hall,hB⟩:=hrel
   have BB:=B2.out.trans (hB.mono B2.out.size)
   have G:=G2.out.below hB hs2
   have hzr:=hB.size
   have HALL:=Lib.hid hall
   clear hall
   by_cases hlt:k<ls.length
   ·obtain ⟨b, o, rfl, hb, hcc⟩ : ∃ b o, ar = some ⟨b, o, none⟩ ∧ b < w.heap.size ∧ ∀ j, j < ls.length → ∃ u, w.cell? ⟨b, o + j, none⟩ = some u ∧ PtsAt w.heap.size w u (rk ls j) := by
     rcases HRC.out with h | h
     ·rw [h] at hlt;simp at hlt
     ·exact h
    obtain⟨u,hu,hpu⟩:=hcc k hlt
    have e0:=(BB.cell (p:=⟨b,o+k,none⟩) hb).trans hu
    have hpz:=(hpu.below BB).mono BB.size
    have hv:=Lib.hid (hullValid_any u (rk ls k) wr hpz)
    have hcw:=G.cell (i:=0) rfl
    have hst:Hid (hitTo c ls (k+1)=if (hitTo c ls k).isSome=true then hitTo c ls k else if touchB c (rk ls k)=true then some k else none):=rfl
    obtain⟨au,cu,rfl⟩:=hpu.len
    have dk:decide ((k:Int)<(ls.length:Int))=true:=by simp;omega
    have kl:(k:Int)<ls.length:=by omega
    have k0:(0:Int)≤k:=by omega
    have HB:=Lib.hid hB
    have HBB:=Lib.hid BB
    have HG:=Lib.hid G
    have HPZ:=Lib.hid hpz
    have HPC:=Lib.hid ((HP.out.below BB).mono BB.size)
    clear hcc hu hpu hB BB G hpz hcw
    generalize hht:hitTo c ls k=ht at *
    cases hg:goValid (rk ls k)
    ·have HR:=Lib.hid (fir_bad hle (show okRocks c ls=false by
      unfold okRocks
      rw [Bool.and_eq_false_iff]
      right
      refine decide_eq_false fun h=>?_
      have:=h k hlt
      rw [hg] at this;cases this))
     rw [hg] at hv
     clear hg hht
     go_wp2_with fail
     refine hv.out.mono ?_
     rintro e w3 ⟨rfl,hb3⟩
     have B3:=Lib.hid (HBB.out.trans (hb3.mono HBB.out.size))
     clear hb3
     go_wp2
     (try rw [Exit.noGoto_ret]);go_ret3
     exact⟨by rw [HR.out.1,HR.out.2.1,HR.out.2.2];rfl,B3.out⟩
    ·rw [hg] at hv
     have HALL2:Hid (∀ j,j<k+1→goValid (rk ls j)=true):=fun j hj=>by
      by_cases e:j=k
      ·rw [e];exact hg
      ·exact HALL.out j (by omega)
     clear hg
     go_wp2_with fail
     refine hv.out.mono ?_
     rintro e w3 ⟨rfl,hb3⟩
     have B3:=Lib.hid (HB.out.trans (hb3.mono (by omega)))
     have G3:=HG.out.below hb3 HG.out.lt
     have c3:=Lib.hid (G3.cell (i:=0) rfl)
     have HP3:=Lib.hid ((HPC.out.below hb3).mono hb3.size)
     have HZ3:=Lib.hid ((HPZ.out.below hb3).mono hb3.size)
     have hz3:=B3.out.size
     clear hb3 G3
     cases ht with
     | some q =>
      have hst2:Hid (hitTo c ls (k+1)=some q):=by show _=_;rw [hst.out];rfl
      go_wp2
      go_roundw
      case rel=>exact⟨k+1,by omega,by go_num,rfl,by rw [hst2.out],by rw [hst2.out];rfl,HALL2.out,B3.out⟩
      case measure=>simp [intOf];omega
     | none =>
      cases gc
      ·have hst2:Hid (hitTo c ls (k+1)=none):=by
        show _=_
        rw [hst.out]
        have:touchB c (rk ls k)=false:=by unfold touchB;rw [HGC.out];rfl
        rw [this];rfl
       go_wp2
       go_roundw
       case rel=>exact⟨k+1,by omega,by go_num,rfl,by rw [hst2.out],by rw [hst2.out];rfl,HALL2.out,B3.out⟩
       case measure=>simp [intOf];omega
      ·have ht:=Lib.hid (touching1_any w.heap.size _ _ c (rk ls k) w3 c3.out HP3.out HZ3.out)
       go_wp2_with fail
       refine ht.out.mono ?_
       rintro e w4 ⟨rfl,hb4⟩
       have B4:=Lib.hid (B3.out.trans (hb4.mono (by omega)))
       clear hb4
       cases htb:touchB c (rk ls k)
       ·have hst2:Hid (hitTo c ls (k+1)=none):=by show _=_;rw [hst.out,htb];rfl
        clear htb
        go_wp2
        go_roundw
        case rel=>exact⟨k+1,by omega,by go_num,rfl,by rw [hst2.out],by rw [hst2.out];rfl,HALL2.out,B4.out⟩
        case measure=>simp [intOf];omega
       ·have hst2:Hid (hitTo c ls (k+1)=some k):=by show _=_;rw [hst.out,htb];rfl
        clear htb
        go_wp2
        go_roundw
        case rel=>exact⟨k+1,by omega,by go_num,rfl,by rw [hst2.out];rfl,by rw [hst2.out];rfl,HALL2.out,B4.out⟩
        case measure=>simp [intOf];omega
   ·obtain rfl:k=ls.length:=by omega
    have dk:decide ((ls.length:Int)<(ls.length:Int))=false:=by simp
    have HBB:=Lib.hid BB
    clear hB BB G
    cases gc
    ·have HR:=Lib.hid (fir_bad hle (show okRocks c ls=false by unfold okRocks;rw [HGC.out];rfl))
     generalize hitTo c ls ls.length=ht at *
     go_wp2
     (try rw [Exit.noGoto_ret]);go_ret3
     exact⟨by rw [HR.out.1,HR.out.2.1,HR.out.2.2];rfl,HBB.out⟩
    ·have hok:okRocks c ls=true:=by
      unfold okRocks
      rw [HGC.out,Bool.true_and]
      exact decide_eq_true HALL.out
     have HR:=Lib.hid (show firI c ls=natO (hitTo c ls ls.length)∧firB c ls=(hitTo c ls ls.length).isSome∧firE c ls=0 by unfold firI firB firE;simp [hle,hok])
     clear hok
     go_wp2
     (try rw [Exit.noGoto_ret]);go_ret3
     exact⟨by rw [HR.out.1,HR.out.2.1,HR.out.2.2];rfl,HBB.out⟩
end Go.Proofs.YtpimbaaahcemhaaGreat
namespace Go.Proofs.YtpimbaaahcemhaaGreat
def validC (l : List Pt) : Bool :=
 decide (1≤l.length∧l.length≤64) && (List.range l.length).all (fun k=>placeP (nth l k) && (decide (k=0) || decide (cmpP (nth l 0) (nth l k)<0))) &&
  (decide (l.length<3) || (List.range l.length).all (fun i=>(List.range l.length).all (fun k=>decide (nth l k=(sideP l i).1) || decide (nth l k=(sideP l i).2) || decide (0<turnP (sideP l i).1 (sideP l i).2 (nth l k)))))
theorem validC_iff (l : List Pt) : validC l = true ↔ GoValid l := by
 simp only [validC,Bool.and_eq_true,Bool.or_eq_true,decide_eq_true_eq,List.all_eq_true,List.mem_range]
 constructor
 ·rintro ⟨⟨⟨h1,h2⟩,h3⟩,h4⟩
  refine⟨h1,h2,fun k hk=>⟨(h3 k hk).1,fun h0=>?_⟩,fun hn i hi k hk e1 e2=>?_⟩
  ·rcases (h3 k hk).2 with h | h
   ·omega
   ·exact h
  ·rcases h4 with h | h
   ·omega
   ·rcases h i hi k hk with (h | h) | h
    ·exact absurd h e1
    ·exact absurd h e2
    ·exact h
 ·rintro ⟨h1,h2,h3,h4⟩
  refine⟨⟨⟨h1,h2⟩,fun k hk=>⟨(h3 k hk).1,?_⟩⟩,?_⟩
  ·rcases Nat.eq_zero_or_pos k with h | h
   ·exact .inl h
   ·exact .inr ((h3 k hk).2 h)
  ·rcases Nat.lt_or_ge l.length 3 with h | h
   ·exact .inl h
   ·refine .inr fun i hi k hk=>?_
    by_cases e1:nth l k=(sideP l i).1
    ·exact .inl (.inl e1)
    ·by_cases e2:nth l k=(sideP l i).2
     ·exact .inl (.inr e2)
     ·exact .inr (h4 h i hi k hk e1 e2)
theorem goValid_eq (l:List Pt):goValid l=validC l:=by
 cases h:validC l
 ·have:¬ GoValid l:=fun h2=>by rw [(validC_iff l).2 h2] at h;cases h
  simpa [goValid] using this
 ·have:=(validC_iff l).1 h
  simpa [goValid] using this
theorem goValid_true {l:List Pt} (h:goValid l=true):GoValid l:=by simpa [goValid] using h
theorem loTo_le (f:Pt→Int) (l:List Pt):∀ k,(∀ j,j<k→loTo f l k≤f (nth l j))∧loTo f l k≤f (nth l 0)
 | 0=>⟨fun j h=>by omega,Int.le_refl _⟩
 | k + 1 => by
  have ih:=loTo_le f l k
  simp only [loTo]
  constructor
  ·intro j hj
   by_cases e:j=k
   ·subst e;split <;> omega
   ·have:=ih.1 j (by omega);split <;> omega
  ·have:=ih.2;split <;> omega
theorem hiTo_ge (f:Pt→Int) (l:List Pt):∀ k,(∀ j,j<k→f (nth l j)≤hiTo f l k)∧f (nth l 0)≤hiTo f l k
 | 0=>⟨fun j h=>by omega,Int.le_refl _⟩
 | k + 1 => by
  have ih:=hiTo_ge f l k
  simp only [hiTo]
  constructor
  ·intro j hj
   by_cases e:j=k
   ·subst e;split <;> omega
   ·have:=ih.1 j (by omega);split <;> omega
  ·have:=ih.2;split <;> omega
theorem inside_corner {l:List Pt} (h:GoValid l) {k:Nat} (hk:k<l.length):inside l (nth l k)=true:=by
 unfold inside
 by_cases h3:l.length<3
 ·rw [if_pos h3,decide_eq_true_eq]
  refine⟨?_,(loTo_le bxF1 l l.length).1 k hk,(hiTo_ge bxF1 l l.length).1 k hk,(loTo_le bxF2 l l.length).1 k hk,(hiTo_ge bxF2 l l.length).1 k hk⟩
  rcases (show k=0∨k=l.length - 1 by omega) with e | e
  ·rw [e];unfold turnP turnV;grind
  ·rw [e];unfold turnP turnV;grind
 ·rw [if_neg h3,decide_eq_true_eq]
  intro i hi
  by_cases e1:nth l k=(sideP l i).1
  ·rw [e1];unfold turnP turnV;grind
  ·by_cases e2:nth l k=(sideP l i).2
   ·rw [e2];unfold turnP turnV;grind
   ·have:=h.2.2.2 (by omega) i hi k hk e1 e2;omega
theorem hasB_corner {l:List Pt} (h:goValid l=true) {k:Nat} (hk:k<l.length):hasB l (nth l k)=true:=by
 have g:=goValid_true h
 simp only [hasB,h,(g.2.2.1 k hk).1,inside_corner g hk,Bool.and_true]
noncomputable def cornersC (l m:List Pt):Nat→List Pt
 | 0=>[]
 | k+1=>if (placeP (nth l k) && inside m (nth l k))=true then cornersC l m k++[nth l k] else cornersC l m k
theorem cornersC_eq {l m:List Pt} (hm:goValid m=true):∀ k,cornersTo l m k=cornersC l m k
 | 0=>rfl
 | k+1=>by simp only [cornersTo,cornersC,hasB,hm,Bool.true_and,cornersC_eq hm k]
end Go.Proofs.YtpimbaaahcemhaaGreat
namespace Go.Proofs.YtpimbaaahcemhaaGreat
theorem SegH.turn {a b:Pt} {X Y W K s t:Int} (e1:K*X=s*a.x+t*b.x) (e2:K*Y=s*a.y+t*b.y) (e3:K*W=s+t) (u v:Pt):K*hturn u v X Y W=s*turnP u v a+t*turnP u v b:=by
 rw [← hturn_scale,e1,e2,e3]
 unfold hturn turnP turnV;grind
def CrossS (S T:Pt × Pt):Prop:=(crossB (turnP S.1 S.2 T.1) (turnP S.1 S.2 T.2) && crossB (turnP T.1 T.2 S.1) (turnP T.1 T.2 S.2))=true
theorem CrossS.symm {S T:Pt × Pt} (h:CrossS S T):CrossS T S:=by unfold CrossS at *;rwa [Bool.and_comm]
def Touch (l m:List Pt):Prop:=(∃ k,k<l.length∧inside m (nth l k)=true)∨(∃ k,k<m.length∧inside l (nth m k)=true)∨∃ i j,i<l.length∧j<m.length∧CrossS (sideP l i) (sideP m j)
theorem Touch.symm {l m:List Pt} (h:Touch l m):Touch m l:=by
 rcases h with h | h | ⟨i,j,hi,hj,h⟩
 ·exact .inr (.inl h)
 ·exact .inl h
 ·exact .inr (.inr ⟨j,i,hj,hi,h.symm⟩)
end Go.Proofs.YtpimbaaahcemhaaGreat
namespace Go.Proofs.YtpimbaaahcemhaaGreat
def wideN (n:Nat):Nat:=if isqrt (2*n*n)*isqrt (2*n*n)=2*n*n then isqrt (2*n*n) else isqrt (2*n*n)+1
theorem wideN_spec (n:Nat):2*n*n≤wideN n*wideN n∧∀ m,m<wideN n→m*m<2*n*n:=by
 have h:=isqrt_spec (2*n*n)
 unfold wideN
 generalize isqrt (2*n*n)=r at *
 generalize 2*n*n=q at *
 split
 ·refine⟨by omega,fun m hm=>?_⟩
  have:=Nat.mul_lt_mul'' hm hm
  omega
 ·refine⟨by omega,fun m hm=>?_⟩
  have:=Nat.mul_le_mul (show m≤r by omega) (show m≤r by omega)
  omega
theorem wideN_le {n m:Nat} (h:2*n*n≤m*m):wideN n≤m:=by
 rcases Nat.lt_or_ge m (wideN n) with h' | h'
 ·have:=(wideN_spec n).2 m h';omega
 ·exact h'
theorem wideN_ge (n:Nat):n≤wideN n:=by
 rcases Nat.lt_or_ge (wideN n) n with h' | h'
 ·have:=(wideN_spec n).1
  have b:=Nat.mul_lt_mul'' h' h'
  rw [Nat.mul_assoc] at this
  omega
 ·exact h'
theorem wideN_two (n:Nat):wideN n≤2*n:=wideN_le (by
 have:2*n*(2*n)=2*(2*n*n):=by grind
 omega)
def octK (n:Nat):Int:=(wideN n:Int) - n
theorem octK_bd (n:Nat):0≤octK n∧octK n≤n:=by
 have:=wideN_ge n
 have:=wideN_two n
 unfold octK;omega
theorem hull_mem {l h:List Pt} (k:HullOf l h) {i:Nat} (hi:i<h.length):nth h i ∈ l:=by
 by_cases h0:i=0
 ·subst h0
  by_cases hl:l=[]
  ·rw [k.none hl] at hi;simp at hi
  ·exact (k.first hl).1
 ·have:=k.next (i - 1) (by omega)
  rw [show i - 1+1=i by omega,Nat.mod_eq_of_lt hi] at this
  exact this.1
theorem cmp_lex {a b:Pt}:cmpP a b<0↔LexLt a b:=by
 unfold cmpP LexLt cmpV orI cmpI
 repeat' split
 all_goals omega
theorem hull_valid {l h : List Pt} (k : HullOf l h) (hl : l ≠ []) (h64 : h.length ≤ 64) (hp : ∀ x, x ∈ l → placeP x = true) : GoValid h := by
 have lex:∀ i,0<i→i<h.length→LexLt (nth h 0) (nth h i):=fun i h0 hi=>by
  have:=(k.first hl).2 _ (hull_mem k hi)
  rcases LexLt.tri (nth h 0) (nth h i) with c | c | c
  ·exact c
  ·exact absurd c.symm (k.back i h0 hi)
  ·exact absurd c this
 refine⟨k.some hl,h64,fun i hi=>⟨hp _ (hull_mem k hi),fun h0=>cmp_lex.2 (lex i h0 hi)⟩,fun h3 i hi j hj n1 n2=>?_⟩
 have a:=(k.next i hi).2.2 _ (hull_mem k hj)
 unfold sideP at n1 n2 ⊢
 simp only at n1 n2 ⊢
 rcases Int.lt_or_le 0 (turnP (nth h i) (nth h ((i+1) % h.length)) (nth h j)) with c | c
 ·exact c
 ·exfalso
  have z:turnP (nth h i) (nth h ((i+1) % h.length)) (nth h j)=0:=by omega
  have bt:=a.2 z
  have mi:=hull_mem k hi
  have mi':=hull_mem k (Nat.mod_lt (i+1) (by omega):(i+1) % h.length<h.length)
  have nj:=k.next j hj
  have bi:=nj.2.2 _ mi
  have bi':=nj.2.2 _ mi'
  have ne:nth h j≠nth h ((j+1) % h.length):=fun e=>by
   have all:=nj.2.1 e.symm
   exact n1 (all _ mi).symm
  generalize nth h i=p at *
  generalize nth h ((i+1) % h.length)=q at *
  generalize nth h j=x at *
  generalize nth h ((j+1) % h.length)=t at *
  clear nj mi mi' a c k lex
  have hpq:∃ m n:Int,0<m∧0<n∧m*(p.x - x.x)+n*(q.x - x.x)=0∧m*(p.y - x.y)+n*(q.y - x.y)=0:=by
   unfold Btw at bt
   have n1':¬ (x.x=p.x∧x.y=p.y):=fun e=>n1 (Pt.ext' e.1 e.2)
   have n2':¬ (x.x=q.x∧x.y=q.y):=fun e=>n2 (Pt.ext' e.1 e.2)
   unfold turnP turnV at z
   by_cases hx:x.x=p.x
   ·have z1:(q.x - p.x)*(x.y - p.y)=0:=by rw [hx] at z;grind
    have z2:q.x=p.x:=by have:=(Int.mul_eq_zero.1 z1).resolve_right (by omega);omega
    have e1:p.x - x.x=0:=by omega
    have e2:q.x - x.x=0:=by omega
    rw [e1,e2]
    rcases Int.lt_or_le p.y x.y with c | c
    ·exact⟨q.y - x.y,x.y - p.y,by omega,by omega,by omega,by grind⟩
    ·exact⟨x.y - q.y,p.y - x.y,by omega,by omega,by omega,by grind⟩
   ·by_cases hx2:x.x=q.x
    ·have z1:(q.x - p.x)*(x.y - q.y)=0:=by rw [hx2] at z;grind
     have:=(Int.mul_eq_zero.1 z1).resolve_left (by omega)
     omega
    ·rcases Int.lt_or_le p.x x.x with c | c
     ·exact⟨q.x - x.x,x.x - p.x,by omega,by omega,by grind,by grind⟩
     ·exact⟨x.x - q.x,p.x - x.x,by omega,by omega,by grind,by grind⟩
  obtain⟨m,n,hm,hn,ex,ey⟩:=hpq
  have lin:m*turnP x t p+n*turnP x t q=0:=by
   have:m*turnP x t p+n*turnP x t q=(t.x - x.x)*(m*(p.y - x.y)+n*(q.y - x.y)) - (t.y - x.y)*(m*(p.x - x.x)+n*(q.x - x.x)):=by unfold turnP turnV;grind
   rw [this,ex,ey];simp
  have u1:=Int.mul_nonneg (Int.le_of_lt hm) bi.1
  have u2:=Int.mul_nonneg (Int.le_of_lt hn) bi'.1
  have z1:turnP x t p=0:=(Int.mul_eq_zero.1 (show m*turnP x t p=0 by omega)).resolve_left (by omega)
  have z2:turnP x t q=0:=(Int.mul_eq_zero.1 (show n*turnP x t q=0 by omega)).resolve_left (by omega)
  have b1:=bi.2 z1
  have b2:=bi'.2 z2
  have d1:0≤(t.x - x.x)*(p.x - x.x):=by
   unfold Btw at b1
   rcases Int.le_total x.x t.x with c | c
   ·exact Int.mul_nonneg (by omega) (by omega)
   ·have:=Int.mul_nonneg (show 0≤-(t.x - x.x) by omega) (show 0≤-(p.x - x.x) by omega);rwa [Int.neg_mul_neg] at this
  have d2:0≤(t.x - x.x)*(q.x - x.x):=by
   unfold Btw at b2
   rcases Int.le_total x.x t.x with c | c
   ·exact Int.mul_nonneg (by omega) (by omega)
   ·have:=Int.mul_nonneg (show 0≤-(t.x - x.x) by omega) (show 0≤-(q.x - x.x) by omega);rwa [Int.neg_mul_neg] at this
  have d3:0≤(t.y - x.y)*(p.y - x.y):=by
   unfold Btw at b1
   rcases Int.le_total x.y t.y with c | c
   ·exact Int.mul_nonneg (by omega) (by omega)
   ·have:=Int.mul_nonneg (show 0≤-(t.y - x.y) by omega) (show 0≤-(p.y - x.y) by omega);rwa [Int.neg_mul_neg] at this
  have d4:0≤(t.y - x.y)*(q.y - x.y):=by
   unfold Btw at b2
   rcases Int.le_total x.y t.y with c | c
   ·exact Int.mul_nonneg (by omega) (by omega)
   ·have:=Int.mul_nonneg (show 0≤-(t.y - x.y) by omega) (show 0≤-(q.y - x.y) by omega);rwa [Int.neg_mul_neg] at this
  have s1:m*((t.x - x.x)*(p.x - x.x))+n*((t.x - x.x)*(q.x - x.x))=0:=by
   have:m*((t.x - x.x)*(p.x - x.x))+n*((t.x - x.x)*(q.x - x.x))=(t.x - x.x)*(m*(p.x - x.x)+n*(q.x - x.x)):=by grind
   rw [this,ex,Int.mul_zero]
  have s2:m*((t.y - x.y)*(p.y - x.y))+n*((t.y - x.y)*(q.y - x.y))=0:=by
   have:m*((t.y - x.y)*(p.y - x.y))+n*((t.y - x.y)*(q.y - x.y))=(t.y - x.y)*(m*(p.y - x.y)+n*(q.y - x.y)):=by grind
   rw [this,ey,Int.mul_zero]
  have v1:=Int.mul_nonneg (Int.le_of_lt hm) d1
  have v2:=Int.mul_nonneg (Int.le_of_lt hn) d2
  have v3:=Int.mul_nonneg (Int.le_of_lt hm) d3
  have v4:=Int.mul_nonneg (Int.le_of_lt hn) d4
  have w1:(t.x - x.x)*(p.x - x.x)=0:=(Int.mul_eq_zero.1 (show m*((t.x - x.x)*(p.x - x.x))=0 by omega)).resolve_left (by omega)
  have w3:(t.y - x.y)*(p.y - x.y)=0:=(Int.mul_eq_zero.1 (show m*((t.y - x.y)*(p.y - x.y))=0 by omega)).resolve_left (by omega)
  have hne:¬ (t.x=x.x∧t.y=x.y):=fun e=>ne (Pt.ext' e.1.symm e.2.symm)
  have hpx:¬ (p.x=x.x∧p.y=x.y):=fun e=>n1 (Pt.ext' e.1.symm e.2.symm)
  unfold turnP turnV at z1
  rcases Int.mul_eq_zero.1 w1 with c | c
  ·have c3:=(Int.mul_eq_zero.1 w3).resolve_left (by omega)
   rw [c,c3] at z1
   have z1':(t.y - x.y)*(p.x - x.x)=0:=by grind
   have:=(Int.mul_eq_zero.1 z1').resolve_left (by omega)
   omega
  ·have c3:t.y - x.y=0:=(Int.mul_eq_zero.1 w3).resolve_right (by omega)
   rw [c,c3] at z1
   have z1':(t.x - x.x)*(p.y - x.y)=0:=by grind
   have:=(Int.mul_eq_zero.1 z1').resolve_left (by omega)
   omega
end Go.Proofs.YtpimbaaahcemhaaGreat
namespace Go.Proofs.YtpimbaaahcemhaaGreat
open Go.RowKit
attribute [local irreducible] wpQuiet
open Classical in
noncomputable def polysB (ls:List (List Pt)):Bool:=decide (∀ j,j<ls.length→goValid (rk ls j)=true)
theorem polysB_iff {ls:List (List Pt)}:polysB ls=true↔∀ j,j<ls.length→goValid (rk ls j)=true:=by unfold polysB;rw [decide_eq_true_eq]
end Go.Proofs.YtpimbaaahcemhaaGreat
namespace Go.Proofs.YtpimbaaahcemhaaGreat
open Go.RowKit
attribute [local irreducible] wpQuiet
theorem PtsAt.has {W:World} {B:Nat} {cs:Array Value} {t:TypeId} {l:List Pt} {cap:Nat} (h:Has W B cs t) (hl:l.length≤70368744177663) (hcs:cs=(ptCells l).toArray) :
  PtsAt W.heap.size W (.slice (some ⟨B,0,none⟩) l.length (l.length+cap)) l:=by
 subst hcs
 refine⟨hl,some ⟨B,0,none⟩,cap,rfl,.inr ⟨B,0,rfl,h.lt,fun j hj=>?_⟩⟩
 obtain⟨f0,f1⟩:=ptCells_get l j hj
 rw [Nat.zero_add]
 exact⟨h.cell (by simpa using f0),h.cell (by simpa using f1)⟩
theorem Has.alloc {W:World} {B:Nat} {cs:Array Value} {t:TypeId} (h:Has W B cs t) (o:Obj):Has (W.alloc o) B cs t :=
 h.below ((Below.refl W.heap.size W).alloc (Nat.le_refl _) o) h.lt
theorem RocksAt.has {W:World} {B:Nat} {cs:Array Value} {t:TypeId} {ls:List (List Pt)} {cap:Nat} (h:Has W B cs t) (hl:ls.length≤70368744177663)
  (hcs:∀ j,j<ls.length→∃ u,cs[j]?=some u∧PtsAt W.heap.size W u (rk ls j)) :
  RocksAt W.heap.size W (.slice (some ⟨B,0,none⟩) ls.length (ls.length+cap)) ls:=by
 refine⟨hl,some ⟨B,0,none⟩,cap,rfl,.inr ⟨B,0,rfl,h.lt,fun j hj=>?_⟩⟩
 obtain⟨u,hu,hp⟩:=hcs j hj
 exact⟨u,h.cell (by rw [Nat.zero_add];exact hu),hp⟩
end Go.Proofs.YtpimbaaahcemhaaGreat
namespace Go.Proofs.YtpimbaaahcemhaaGreat
theorem hitTo_some {c : List Pt} {ls : List (List Pt)} : ∀ {k i}, hitTo c ls k = some i → i < k ∧ touchB c (rk ls i) = true ∧ ∀ j, j < i → touchB c (rk ls j) = false
 | 0,i,h=>by cases h
 | k + 1, i, h => by
  simp only [hitTo] at h
  cases hk:hitTo c ls k with
  | some q =>
   rw [hk] at h
   simp only [Option.isSome_some,if_true] at h
   cases h
   obtain⟨h1,h2,h3⟩:=hitTo_some hk
   exact⟨by omega,h2,h3⟩
  | none =>
   rw [hk] at h
   simp only [Option.isSome_none,Bool.false_eq_true,if_false] at h
   split at h
   ·cases h
    refine⟨by omega,by assumption,fun j hj=>?_⟩
    exact hitTo_none hk j hj
   ·cases h
where
 hitTo_none {c:List Pt} {ls:List (List Pt)}:∀ {k},hitTo c ls k=none→∀ j,j<k→touchB c (rk ls j)=false
 | 0,_,j,hj=>by omega
 | k + 1, h, j, hj => by
  simp only [hitTo] at h
  cases hk:hitTo c ls k with
  | some q=>rw [hk] at h;cases h
  | none =>
   rw [hk] at h
   simp only [Option.isSome_none,Bool.false_eq_true,if_false] at h
   split at h
   ·cases h
   ·rename_i ht
    by_cases e:j=k
    ·rw [e];simpa using ht
    ·exact hitTo_none hk j (by omega)
theorem hitTo_none {c:List Pt} {ls:List (List Pt)} {k:Nat} (h:hitTo c ls k=none):∀ j,j<k→touchB c (rk ls j)=false:=hitTo_some.hitTo_none h
theorem rk_take {ls:List (List Pt)} {n j:Nat} (h:j<n):rk (ls.take n) j=rk ls j:=by
 unfold rk;simp [List.getD_eq_getElem?_getD,h]
theorem RocksAt.take {n0:Nat} {W:World} {a:Option Addr} {ls:List (List Pt)} {cap:Nat} (h:RocksAt n0 W (.slice a ls.length (ls.length+cap)) ls) {n:Nat} (hn:n≤ls.length) :
  RocksAt n0 W (.slice a n (ls.length+cap)) (ls.take n):=by
 obtain⟨hl,a',cap',he,hc⟩:=h
 have e:(ls.take n).length=n:=by simp;omega
 simp only [Value.slice.injEq] at he
 obtain⟨rfl,_,hcap⟩:=he
 refine⟨by omega,a,ls.length - n+cap,by rw [e,show n+(ls.length - n+cap)=ls.length+cap by omega],?_⟩
 rcases hc with rfl | ⟨b,o,rfl,hb,hcc⟩
 ·left;simp
 ·refine .inr ⟨b,o,rfl,hb,fun j hj=>?_⟩
  rw [e] at hj
  rw [rk_take hj]
  exact hcc j (by omega)
theorem RocksAt.one {n0:Nat} {W:World} {b o:Nat} {ls:List (List Pt)} {cap cap1:Nat} (h:RocksAt n0 W (.slice (some ⟨b,o,none⟩) ls.length (ls.length+cap)) ls) {i:Nat} (hi:i<ls.length) :
  RocksAt n0 W (.slice (some ⟨b,o+i,none⟩) 1 (1+cap1)) [rk ls i]:=by
 obtain⟨hl,a',cap',he,hc⟩:=h
 simp only [Value.slice.injEq] at he
 obtain⟨rfl,_,hcap⟩:=he
 refine⟨by simp,some ⟨b,o+i,none⟩,cap1,rfl,?_⟩
 rcases hc with rfl | ⟨b',o',e,hb,hcc⟩
 ·simp at hi
 ·cases e
  refine .inr ⟨b,o+i,rfl,hb,fun j hj=>?_⟩
  obtain rfl:j=0:=by simpa using hj
  exact hcc i hi
end Go.Proofs.YtpimbaaahcemhaaGreat
namespace Go.Proofs.YtpimbaaahcemhaaGreat
theorem goValid_of {l:List Pt} (h:GoValid l):goValid l=true:=by simpa [goValid] using h
theorem hasB_iff {l:List Pt} {x:Pt} (hl:GoValid l) (hx:placeP x=true):hasB l x=true↔inside l x=true:=by
 unfold hasB;rw [goValid_of hl,hx];simp
end Go.Proofs.YtpimbaaahcemhaaGreat
namespace Go.Proofs.YtpimbaaahcemhaaGreat
def mvP (b x:Pt):Pt:=⟨x.x+b.x,x.y+b.y⟩
def mvL (b:Pt) (l:List Pt):List Pt:=l.map (mvP b)
def mvS (b:Pt) (s:Pt × Pt):Pt × Pt:=(mvP b s.1,mvP b s.2)
theorem mvL_len (b:Pt) (l:List Pt):(mvL b l).length=l.length:=by simp [mvL]
theorem nth_mvL (b:Pt) {l:List Pt} {k:Nat} (h:k<l.length):nth (mvL b l) k=mvP b (nth l k):=by
 simp [mvL,nth,List.getD_eq_getElem?_getD,List.getElem?_eq_getElem h]
theorem turn_mv (b p q r:Pt):turnP (mvP b p) (mvP b q) (mvP b r)=turnP p q r:=by unfold turnP turnV mvP;grind
theorem side_mv (b:Pt) {l:List Pt} {k:Nat} (h:k<l.length):sideP (mvL b l) k=mvS b (sideP l k):=by
 unfold sideP mvS
 rw [mvL_len,nth_mvL b h,nth_mvL b (Nat.mod_lt _ (by omega))]
theorem part_in {D p d:Int} (hd:0<d) (h0:0≤p) (h1:p≤d):(D≤(D*p).fdiv d∨0≤(D*p).fdiv d)∧((D*p).fdiv d≤0∨(D*p).fdiv d≤D):=by
 rw [Int.fdiv_eq_ediv_of_nonneg _ (Int.le_of_lt hd)]
 rcases Int.le_total 0 D with h | h
 ·have a:=Int.mul_nonneg h h0
  have b:=Int.mul_le_mul_of_nonneg_left h1 h
  exact⟨.inr (Int.le_ediv_of_mul_le hd (by omega)),.inr (Int.ediv_le_of_le_mul hd b)⟩
 ·have a:=Int.mul_nonneg (show 0≤-D by omega) h0
  have b:=Int.mul_le_mul_of_nonneg_left h1 (show 0≤-D by omega)
  rw [Int.neg_mul] at a b
  rw [Int.neg_mul] at b
  exact⟨.inl (Int.le_ediv_of_mul_le hd (by omega)),.inl (Int.ediv_le_of_le_mul hd (by omega))⟩
theorem part_in2 {D s t:Int} (h:crossB s t=true):(D≤(D*s).fdiv (s - t)∨0≤(D*s).fdiv (s - t))∧((D*s).fdiv (s - t)≤0∨(D*s).fdiv (s - t)≤D):=by
 unfold crossB at h
 rw [decide_eq_true_eq] at h
 rcases h with h | h
 ·have e:(D*s).fdiv (s - t)=(D*-s).fdiv (-(s - t)):=by rw [Int.mul_neg,Int.neg_fdiv_neg]
  rw [e]
  exact part_in (by omega) (by omega) (by omega)
 ·exact part_in (by omega) (by omega) (by omega)
theorem frLo_in {u v s t:Int} (h:crossB s t=true):(u≤frLo u v s t∨v≤frLo u v s t)∧(frLo u v s t≤u∨frLo u v s t≤v):=by
 have:=part_in2 (D:=v - u) h
 unfold frLo
 omega
theorem frHi_in {u v s t:Int} (h:crossB s t=true):(u≤frHi u v s t∨v≤frHi u v s t)∧(frHi u v s t≤u∨frHi u v s t≤v):=by
 have:=part_in2 (D:=-(v - u)) h
 rw [Int.neg_mul] at this
 unfold frHi
 omega
theorem place_iff {p:Pt}:placeP p=true↔-500000≤p.x∧p.x≤500000∧-500000≤p.y∧p.y≤500000:=by simp [placeP,placeB]
theorem frameP_place {a b:Pt} {s t:Int} (h:crossB s t=true) (ha:placeP a=true) (hb:placeP b=true) {x:Pt} (hx:x ∈ frameP a b s t):placeP x=true:=by
 rw [place_iff] at *
 have h1:=frLo_in (u:=a.x) (v:=b.x) h
 have h2:=frHi_in (u:=a.x) (v:=b.x) h
 have h3:=frLo_in (u:=a.y) (v:=b.y) h
 have h4:=frHi_in (u:=a.y) (v:=b.y) h
 simp only [frameP,List.mem_cons,List.not_mem_nil,or_false] at hx
 rcases hx with rfl | rfl | rfl | rfl
 ·show -500000≤frLo _ _ _ _∧frLo _ _ _ _≤500000∧-500000≤frLo _ _ _ _∧frLo _ _ _ _≤500000
  omega
 ·show -500000≤frLo _ _ _ _∧frLo _ _ _ _≤500000∧-500000≤frHi _ _ _ _∧frHi _ _ _ _≤500000
  omega
 ·show -500000≤frHi _ _ _ _∧frHi _ _ _ _≤500000∧-500000≤frLo _ _ _ _∧frLo _ _ _ _≤500000
  omega
 ·show -500000≤frHi _ _ _ _∧frHi _ _ _ _≤500000∧-500000≤frHi _ _ _ _∧frHi _ _ _ _≤500000
  omega
theorem side_place {l:List Pt} (h:∀ k,k<l.length→placeP (nth l k)=true) {i:Nat} (hi:i<l.length):placeP (sideP l i).1=true∧placeP (sideP l i).2=true:=⟨h i hi,h _ (Nat.mod_lt _ (by omega))⟩
theorem crossP_place {l m:List Pt} (hm:∀ k,k<m.length→placeP (nth m k)=true) {x:Pt} (hx:x ∈ crossP l m):placeP x=true:=by
 unfold crossP crossL rowS sidesL at hx
 simp only [List.mem_flatMap,mem_upto] at hx
 obtain⟨S,⟨i,hi,rfl⟩,T,⟨j,hj,rfl⟩,hx⟩:=hx
 unfold crossST at hx
 split at hx
 ·rename_i h
  simp only [Bool.and_eq_true] at h
  exact frameP_place h.1 (side_place hm hj).1 (side_place hm hj).2 hx
 ·cases hx
theorem cmp_mv (b p q:Pt):cmpP (mvP b p) (mvP b q)=cmpP p q:=by
 have c:∀ u v w:Int,cmpI (u+w) (v+w)=cmpI u v:=fun u v w=>by
  unfold cmpI;repeat' split
  all_goals omega
 simp only [cmpP,cmpV,mvP,c]
section
variable {b:Pt} {l m:List Pt} (hl:goValid l=true) (hm:goValid m=true) (hl':goValid (mvL b l)=true) (hm':goValid (mvL b m)=true)
include hl hm hl' hm'
end
end Go.Proofs.YtpimbaaahcemhaaGreat
namespace Go.Proofs.YtpimbaaahcemhaaGreat
open Go.RowKit
attribute [local irreducible] wpQuiet
def minI (a b:Int):Int:=if b<a then b else a
def maxI (a b:Int):Int:=if a<b then b else a
def btwB (ax ay bx by' px py:Int):Bool:=decide (minI ax bx≤px) && decide (px≤maxI ax bx) && decide (minI ay by'≤py) && decide (py≤maxI ay by')
set_option linter.unusedSimpArgs false in
theorem rbtw_any (ax ay bx by' px py:Int) (w:World) :
  Calls Tryz.prog 184 #[.agg #[.int .i64 ax,.int .i64 ay],.agg #[.int .i64 bx,.int .i64 by'],.agg #[.int .i64 px,.int .i64 py]] w fun e w'=>e=.returned (.bool (btwB ax ay bx by' px py))∧Below w.heap.size w w':=by
 unfold btwB minI maxI
 cases d1:decide ((if bx<ax then bx else ax)≤px)
 ·go_enter Tryz.func184,Tryz.ntmps184
  go_wp2
  all_goals (go_ret;exact⟨rfl,by repeat (first | exact Below.refl _ _ | assumption | apply Below.drew | refine Below.setCell ?_ (by first | omega | (simp;done) | (simp;omega)) _ | refine Below.alloc ?_ (by first | omega | (simp;done) | (simp;omega)) _ | refine Below.call (by assumption) ?_ (by first | omega | (simp;done) | (simp;omega)))⟩)
 cases d2:decide (px≤(if ax<bx then bx else ax))
 ·go_enter Tryz.func184,Tryz.ntmps184
  go_wp2
  all_goals (go_ret;exact⟨rfl,by repeat (first | exact Below.refl _ _ | assumption | apply Below.drew | refine Below.setCell ?_ (by first | omega | (simp;done) | (simp;omega)) _ | refine Below.alloc ?_ (by first | omega | (simp;done) | (simp;omega)) _ | refine Below.call (by assumption) ?_ (by first | omega | (simp;done) | (simp;omega)))⟩)
 cases d3:decide ((if by'<ay then by' else ay)≤py)
 ·go_enter Tryz.func184,Tryz.ntmps184
  go_wp2
  all_goals (go_ret;exact⟨rfl,by repeat (first | exact Below.refl _ _ | assumption | apply Below.drew | refine Below.setCell ?_ (by first | omega | (simp;done) | (simp;omega)) _ | refine Below.alloc ?_ (by first | omega | (simp;done) | (simp;omega)) _ | refine Below.call (by assumption) ?_ (by first | omega | (simp;done) | (simp;omega)))⟩)
 cases d4:decide (py≤(if ay<by' then by' else ay))
 ·go_enter Tryz.func184,Tryz.ntmps184
  go_wp2
  all_goals (go_ret;exact⟨rfl,by repeat (first | exact Below.refl _ _ | assumption | apply Below.drew | refine Below.setCell ?_ (by first | omega | (simp;done) | (simp;omega)) _ | refine Below.alloc ?_ (by first | omega | (simp;done) | (simp;omega)) _ | refine Below.call (by assumption) ?_ (by first | omega | (simp;done) | (simp;omega)))⟩)
 ·go_enter Tryz.func184,Tryz.ntmps184
  go_wp2
  all_goals (go_ret;exact⟨rfl,by repeat (first | exact Below.refl _ _ | assumption | apply Below.drew | refine Below.setCell ?_ (by first | omega | (simp;done) | (simp;omega)) _ | refine Below.alloc ?_ (by first | omega | (simp;done) | (simp;omega)) _ | refine Below.call (by assumption) ?_ (by first | omega | (simp;done) | (simp;omega)))⟩)
theorem loTo_pair (f:Pt→Int) {l:List Pt} (h:l.length=2):loTo f l l.length=minI (f (nth l 0)) (f (nth l 1)):=by
 rw [h];simp only [loTo,minI,Int.lt_irrefl,if_false]
theorem hiTo_pair (f:Pt→Int) {l:List Pt} (h:l.length=2):hiTo f l l.length=maxI (f (nth l 0)) (f (nth l 1)):=by
 rw [h];simp only [hiTo,maxI,Int.lt_irrefl,if_false]
theorem inside_two {l:List Pt} (h:l.length=2) (x:Pt):inside l x=(decide (turnV (nth l 0).x (nth l 0).y (nth l 1).x (nth l 1).y x.x x.y=0) && btwB (nth l 0).x (nth l 0).y (nth l 1).x (nth l 1).y x.x x.y):=by
 have e1:(boxL l).x=minI (nth l 0).x (nth l 1).x:=loTo_pair bxF1 h
 have e2:(boxL l).y=minI (nth l 0).y (nth l 1).y:=loTo_pair bxF2 h
 have e3:(boxH l).x=maxI (nth l 0).x (nth l 1).x:=hiTo_pair bxF1 h
 have e4:(boxH l).y=maxI (nth l 0).y (nth l 1).y:=hiTo_pair bxF2 h
 unfold inside btwB
 rw [if_pos (by omega),h,e1,e2,e3,e4,Bool.eq_iff_iff]
 simp only [Bool.and_eq_true,decide_eq_true_eq]
 exact⟨fun ⟨a,b,c,d,e⟩=>⟨a,⟨⟨b,c⟩,d⟩,e⟩,fun ⟨a,⟨⟨b,c⟩,d⟩,e⟩=>⟨a,b,c,d,e⟩⟩
theorem inside_one {l:List Pt} (h:l.length=1) (x:Pt):inside l x=true↔(nth l 0).x=x.x∧(nth l 0).y=x.y:=by
 have e1:(boxL l).x=(nth l 0).x:=by show loTo bxF1 l l.length=_;rw [h];simp [loTo,bxF1]
 have e2:(boxL l).y=(nth l 0).y:=by show loTo bxF2 l l.length=_;rw [h];simp [loTo,bxF2]
 have e3:(boxH l).x=(nth l 0).x:=by show hiTo bxF1 l l.length=_;rw [h];simp [hiTo,bxF1]
 have e4:(boxH l).y=(nth l 0).y:=by show hiTo bxF2 l l.length=_;rw [h];simp [hiTo,bxF2]
 unfold inside
 rw [if_pos (by omega),h,e1,e2,e3,e4,decide_eq_true_eq]
 constructor
 ·rintro ⟨_,a,b,c,d⟩;omega
 ·rintro ⟨a,b⟩;exact⟨turnP_self _ _,by omega,by omega,by omega,by omega⟩
set_option linter.unusedSimpArgs false in
set_option maxRecDepth 8000 in
set_option maxHeartbeats 2000000 in
theorem rinside_any (v : Value) (l : List Pt) (x : Pt) (w : World) (hp : PtsAt w.heap.size w v l) (hl : GoValid l) (hx : placeP x = true) :
  Calls Tryz.prog 192 #[v,.agg #[.int .i64 x.x,.int .i64 x.y]] w fun e w'=>e=.returned (.bool (inside l x))∧Below w.heap.size w w':=by
 have hin:=hl.1
 have h64:=hl.2.1
 have hpl:∀ k,k<l.length→placeP (nth l k)=true:=fun k hk=>(hl.2.2.1 k hk).1
 obtain⟨hll,a,cap,rfl,hc⟩:=hp
 obtain⟨b,o,rfl,hb,hc⟩:∃ b o,a=some ⟨b,o,none⟩∧b<w.heap.size∧∀ j,j<l.length→w.cell? ⟨b,o+j*2,none⟩=some (.int .i64 (nth l j).x)∧w.cell? ⟨b,o+j*2+1,none⟩=some (.int .i64 (nth l j).y):=by
  rcases hc with rfl | h
  ·simp at hin
  ·exact h
 have HL:=Lib.hid hl
 have HPL:=Lib.hid hpl
 have px:=placeB_true hx
 obtain⟨x,y⟩:=x
 simp only at px
 have hA:=(Below.refl w.heap.size w).alloc (Nat.le_refl _) (.cells #[.int .i64 x,.int .i64 y] 58)
 have hN:=Has.new w #[.int .i64 x,.int .i64 y] 58
 have n0:=Low.fact (hN.cell (i:=0) rfl)
 have n1:=Low.fact (hN.cell (i:=1) rfl)
 have cc:=fun j hj=>And.intro ((hA.cell (p:=⟨b,o+j*2,none⟩) hb).trans (hc j hj).1) ((hA.cell (p:=⟨b,o+j*2+1,none⟩) hb).trans (hc j hj).2)
 have g1:=Low.fact (cc 0 (by omega)).1
 have g2:=Low.fact (cc 0 (by omega)).2
 simp only [Nat.zero_mul,Nat.add_zero] at g1 g2
 have p0:=placeB_true (HPL.out 0 (by omega))
 have CC:=Lib.hid cc
 have HA:=Lib.hid hA
 have HN:=Lib.hid hN
 have hne:¬ l=[]:=by intro h;rw [h] at hin;simp at hin
 by_cases e1:l.length=1
 ·have d1:((l.length:Int) == 1)=true:=by simp [e1]
  have hi:=inside_one e1 ⟨x,y⟩
  have k1:(0:Int)<(l.length:Int):=by omega
  have HI:=Lib.hid hi
  clear hc hA hN cc hl hpl hx hi
  generalize (nth l 0).x=ax at *
  generalize (nth l 0).y=ay at *
  have hcase:(ax=x∧ay=y)∨(ax=x∧¬ ay=y)∨¬ ax=x:=by omega
  have HI2:Hid (inside l ⟨x,y⟩=true↔ax=x∧ay=y):=HI.out
  clear HI
  rcases hcase with⟨rfl,rfl⟩ | ⟨rfl,h⟩ | h
  ·go_enter Tryz.func192,Tryz.ntmps192
   go_wp2
   (refine wp_region_low (by kernel_rfl) (by kernel_rfl) ?_;(iterate 6 (apply quiet_want;(case hw=>rfl);(case hval=>(intro w1 hw1;have hcx:=Low.cells hw1;simp only [Oper.quietAt];go_simp;first | done | (first | fail) | rfl | exact⟨rfl,rfl⟩));simp only [Act.put,List.setIfInBounds_toArray,List.set_cons_zero,List.set_cons_succ]));refine wpQuiet_nil ?_;intro w2 hw2)
   go_wp2
   go_ret
   exact⟨by rw [HI2.out.2 (by simp)];rfl,HA.out.trans (hw2.out.mono (by simp))⟩
  ·have hf:inside l ⟨ax,y⟩=false:=by
    cases h':inside l ⟨ax,y⟩
    ·rfl
    ·exact absurd (HI2.out.1 h').2 h
   go_enter Tryz.func192,Tryz.ntmps192
   go_wp2
   (refine wp_region_low (by kernel_rfl) (by kernel_rfl) ?_;(iterate 6 (apply quiet_want;(case hw=>rfl);(case hval=>(intro w1 hw1;have hcx:=Low.cells hw1;simp only [Oper.quietAt];go_simp;first | done | (first | fail) | rfl | exact⟨rfl,rfl⟩));simp only [Act.put,List.setIfInBounds_toArray,List.set_cons_zero,List.set_cons_succ]));refine wpQuiet_nil ?_;intro w2 hw2)
   go_wp2
   go_ret
   exact⟨by rw [hf];rfl,HA.out.trans (hw2.out.mono (by simp))⟩
  ·have hf:inside l ⟨x,y⟩=false:=by
    cases h':inside l ⟨x,y⟩
    ·rfl
    ·exact absurd (HI2.out.1 h').1 h
   go_enter Tryz.func192,Tryz.ntmps192
   go_wp2
   (refine wp_region_low (by kernel_rfl) (by kernel_rfl) ?_;(iterate 6 (apply quiet_want;(case hw=>rfl);(case hval=>(intro w1 hw1;have hcx:=Low.cells hw1;simp only [Oper.quietAt];go_simp;first | done | (first | fail) | rfl | exact⟨rfl,rfl⟩));simp only [Act.put,List.setIfInBounds_toArray,List.set_cons_zero,List.set_cons_succ]));refine wpQuiet_nil ?_;intro w2 hw2)
   go_wp2
   go_ret
   exact⟨by rw [hf];rfl,HA.out.trans (hw2.out.mono (by simp))⟩
 have d1:((l.length:Int) == 1)=false:=by rw [beq_eq_false_iff_ne];omega
 by_cases e2:l.length=2
 ·have d2:((l.length:Int) == 2)=true:=by simp [e2]
  have g3:=Low.fact (cc 1 (by omega)).1
  have g4:=Low.fact (cc 1 (by omega)).2
  simp only [Nat.one_mul] at g3 g4
  have p1:=placeB_true (HPL.out 1 (by omega))
  have hi:=inside_two e2 ⟨x,y⟩
  have k1:(0:Int)<(l.length:Int):=by omega
  have k2:(1:Int)<(l.length:Int):=by omega
  rw [hi]
  clear hc hA hN cc hl hpl hx hi
  generalize (nth l 0).x=ax at *
  generalize (nth l 0).y=ay at *
  generalize (nth l 1).x=bx at *
  generalize (nth l 1).y=by' at *
  have hcr:=fun w1=>cross_any ax ay bx by' x y w1 (by omega) (by omega) (by omega) (by omega) (by omega) (by omega) (by omega) (by omega) (by omega) (by omega) (by omega) (by omega)
  by_cases ht:turnV ax ay bx by' x y=0
  ·rw [ht] at hcr ⊢
   have dt:((0:Int) == 0)=true:=rfl
   clear ht
   go_enter Tryz.func192,Tryz.ntmps192
   go_wp2
   (refine wp_region_low (by kernel_rfl) (by kernel_rfl) ?_;(iterate 20 (apply quiet_want;(case hw=>rfl);(case hval=>(intro w1 hw1;have hcx:=Low.cells hw1;simp only [Oper.quietAt];go_simp;first | done | (first | (go_at_call 59;exact Low.calls hw1 (hcr _)) | (go_at_call 184;exact Low.calls hw1 (rbtw_any _ _ _ _ _ _ _))) | rfl | exact⟨rfl,rfl⟩));simp only [Act.put,List.setIfInBounds_toArray,List.set_cons_zero,List.set_cons_succ]));refine wpQuiet_nil ?_;intro w2 hw2)
   go_wp2
   go_ret
   exact⟨by simp,HA.out.trans (hw2.out.mono (by simp))⟩
  ·have dt:(turnV ax ay bx by' x y == 0)=false:=by rw [beq_eq_false_iff_ne];exact ht
   rw [decide_eq_false ht]
   clear ht
   generalize turnV ax ay bx by' x y=t at *
   go_enter Tryz.func192,Tryz.ntmps192
   go_wp2
   (refine wp_region_low (by kernel_rfl) (by kernel_rfl) ?_;(iterate 10 (apply quiet_want;(case hw=>rfl);(case hval=>(intro w1 hw1;have hcx:=Low.cells hw1;simp only [Oper.quietAt];go_simp;first | done | (first | (go_at_call 59;exact Low.calls hw1 (hcr _)) | (go_at_call 184;exact Low.calls hw1 (rbtw_any _ _ _ _ _ _ _))) | rfl | exact⟨rfl,rfl⟩));simp only [Act.put,List.setIfInBounds_toArray,List.set_cons_zero,List.set_cons_succ]));(iterate 8 (apply quiet_skip;(case hw=>rfl);simp only [Act.put,List.setIfInBounds_toArray,List.set_cons_zero,List.set_cons_succ]));(iterate 2 (apply quiet_want;(case hw=>rfl);(case hval=>(intro w1 hw1;have hcx:=Low.cells hw1;simp only [Oper.quietAt];go_simp;first | done | (first | (go_at_call 59;exact Low.calls hw1 (hcr _)) | (go_at_call 184;exact Low.calls hw1 (rbtw_any _ _ _ _ _ _ _))) | rfl | exact⟨rfl,rfl⟩));simp only [Act.put,List.setIfInBounds_toArray,List.set_cons_zero,List.set_cons_succ]));refine wpQuiet_nil ?_;intro w2 hw2)
   go_wp2
   go_ret
   exact⟨rfl,HA.out.trans (hw2.out.mono (by simp))⟩
 have d2:((l.length:Int) == 2)=false:=by rw [beq_eq_false_iff_ne];omega
 have h3:3≤l.length:=by omega
 have hiff:inside l ⟨x,y⟩=true↔∀ i,i<l.length→0≤turnP (sideP l i).1 (sideP l i).2 ⟨x,y⟩:=by unfold inside;rw [if_neg (by omega),decide_eq_true_eq]
 have HIFF:=Lib.hid hiff
 clear hc hA hN cc hl hpl hx hiff n0 n1 g1 g2 p0
 go_enter Tryz.func192,Tryz.ntmps192
 go_wp2
 go_loopw [6] (fun i wr=>∃ k:Nat,k≤l.length∧i=.int .i64 (k:Int)∧(∀ j,j<k→0≤turnP (sideP l j).1 (sideP l j).2 ⟨x,y⟩)∧Below (w.heap.size+1) (w.alloc (.cells #[.int .i64 x,.int .i64 y] 58)) wr) (fun i _=>l.length - (intOf i).toNat)
 case atStart=>exact⟨0,by omega,rfl,fun j h=>by omega,Below.refl _ _⟩
 case round =>
  obtain⟨k,hk,rfl,hall,hB⟩:=hrel
  have HALL:=Lib.hid hall
  clear hall
  have hzr:=hB.size
  simp only [World.size_alloc] at hzr
  have hBw:=HA.out.trans (hB.mono (by omega))
  by_cases hlt:k<l.length
  ·obtain⟨m,hm⟩:∃ m,(k+1) % l.length=m:=⟨_,rfl⟩
   have hmlt:m<l.length:=by rw [← hm];exact Nat.mod_lt _ (by omega)
   have m1:IntKind.i64.wrap ((k:Int)+1)=(k:Int)+1:=IntWalk.i64_in _ (by omega)
   have m2:((k:Int)+1).tmod (l.length:Int)=(m:Int):=by
    have:((k:Int)+1).tmod (l.length:Int)=(((k+1) % l.length:Nat):Int):=by
     rw [Int.tmod_eq_emod_of_nonneg (by omega)];rfl
    rw [this,hm]
   have HM:=Lib.hid hm
   have dk:decide ((k:Int)<(l.length:Int))=true:=by simp;omega
   have pk:=placeB_true (HPL.out k hlt)
   have pm:=placeB_true (HPL.out m hmlt)
   have c1:=Low.fact ((hB.cell (p:=⟨b,o+k*2,none⟩) (Nat.lt_succ_of_lt hb)).trans (CC.out k hlt).1)
   have c2:=Low.fact ((hB.cell (p:=⟨b,o+k*2+1,none⟩) (Nat.lt_succ_of_lt hb)).trans (CC.out k hlt).2)
   have c3:=Low.fact ((hB.cell (p:=⟨b,o+m*2,none⟩) (Nat.lt_succ_of_lt hb)).trans (CC.out m hmlt).1)
   have c4:=Low.fact ((hB.cell (p:=⟨b,o+m*2+1,none⟩) (Nat.lt_succ_of_lt hb)).trans (CC.out m hmlt).2)
   have N:=HN.out.below hB (by omega)
   have n0:=Low.fact (N.cell (i:=0) rfl)
   have n1:=Low.fact (N.cell (i:=1) rfl)
   have kl:(k:Int)<l.length:=by omega
   have k0:(0:Int)≤k:=by omega
   have ml:(m:Int)<l.length:=by omega
   have m0:(0:Int)≤m:=by omega
   have hs:Hid ((sideP l k).1=nth l k∧(sideP l k).2=nth l m):=⟨rfl,by show nth l ((k+1) % l.length)=_;rw [HM.out]⟩
   have HB:=Lib.hid hB
   clear hm hB N
   have hcr:=fun w1=>cross_any (nth l k).x (nth l k).y (nth l m).x (nth l m).y x y w1 (by omega) (by omega) (by omega) (by omega) (by omega) (by omega) (by omega) (by omega) (by omega) (by omega) (by omega) (by omega)
   have htv:Hid (turnP (sideP l k).1 (sideP l k).2 ⟨x,y⟩=turnV (nth l k).x (nth l k).y (nth l m).x (nth l m).y x y):=by show _=_;rw [hs.out.1,hs.out.2];rfl
   clear pk pm
   generalize (nth l k).x=ax at *
   generalize (nth l k).y=ay at *
   generalize (nth l m).x=bx at *
   generalize (nth l m).y=by' at *
   by_cases ht:turnV ax ay bx by' x y<0
   ·have dt:decide (turnV ax ay bx by' x y<0)=true:=by simpa using ht
    have hf:inside l ⟨x,y⟩=false:=by
     cases h':inside l ⟨x,y⟩
     ·rfl
     ·have:=HIFF.out.1 h' k hlt
      rw [htv.out] at this;omega
    have HF:=Lib.hid hf
    clear ht hf htv
    generalize turnV ax ay bx by' x y=t at *
    go_wp2
    (refine wp_region_low (by kernel_rfl) (by kernel_rfl) ?_;(iterate 14 (apply quiet_want;(case hw=>rfl);(case hval=>(intro w1 hw1;have hcx:=Low.cells hw1;simp only [Oper.quietAt];go_simp;first | done | (first | (go_at_call 59;exact Low.calls hw1 (hcr _))) | rfl | exact⟨rfl,rfl⟩));simp only [Act.put,List.setIfInBounds_toArray,List.set_cons_zero,List.set_cons_succ]));refine wpQuiet_nil ?_;intro w2 hw2)
    go_wp2
    go_ret
    exact⟨by rw [HF.out];rfl,hBw.trans (hw2.out.mono (by omega))⟩
   ·have dt:decide (turnV ax ay bx by' x y<0)=false:=by simpa using ht
    have HALL2:Hid (∀ j,j<k+1→0≤turnP (sideP l j).1 (sideP l j).2 ⟨x,y⟩):=fun j hj=>by
     by_cases e:j=k
     ·rw [e,htv.out];omega
     ·exact HALL.out j (by omega)
    clear ht htv
    generalize turnV ax ay bx by' x y=t at *
    go_wp2
    (refine wp_region_low (by kernel_rfl) (by kernel_rfl) ?_;(iterate 14 (apply quiet_want;(case hw=>rfl);(case hval=>(intro w1 hw1;have hcx:=Low.cells hw1;simp only [Oper.quietAt];go_simp;first | done | (first | (go_at_call 59;exact Low.calls hw1 (hcr _))) | rfl | exact⟨rfl,rfl⟩));simp only [Act.put,List.setIfInBounds_toArray,List.set_cons_zero,List.set_cons_succ]));refine wpQuiet_nil ?_;intro w2 hw2)
    go_wp2
    go_roundw
    case rel=>exact⟨k+1,by omega,by go_num,HALL2.out,HB.out.trans (hw2.out.mono (by omega))⟩
    case measure=>simp [intOf];omega
  ·obtain rfl:k=l.length:=by omega
   have dk:decide ((l.length:Int)<(l.length:Int))=false:=by simp
   have HF:=Lib.hid (HIFF.out.2 HALL.out)
   clear hB
   go_wp2
   go_ret
   exact⟨by rw [HF.out];rfl,hBw⟩
end Go.Proofs.YtpimbaaahcemhaaGreat
