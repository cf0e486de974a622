/- The reference of layer 3: Less, Cross, Valid. | The reference's Valid of layer 3. | Both functions Valid of layer 3 say the same. | mission.up, mis .. -/
import Derived.Test.YtpimbaaahcemhaaGreatBin04
import Derived.Test.YtpimbaaahcemhaaGreatBin01
import Derived.Test.YtpimbaaahcemhaaGreatBin02
namespace Go.Proofs.YtpimbaaahcemhaaGreat
open Go.RowKit Go.Shelf
attribute [local irreducible] wpQuiet
theorem cmpV_lt_iff (ax ay bx by':Int):cmpV ax ay bx by'<0↔ax<bx∨ax=bx∧ay<by':=by
 unfold cmpV orI cmpI
 repeat' split
 all_goals omega
def lessB (ax ay bx by':Int):Bool:=decide (cmpV ax ay bx by'<0)
theorem rless_any (ax ay bx by':Int) (w:World) :
  Calls Tryz.prog 58 #[.agg #[.int .i64 ax,.int .i64 ay],.agg #[.int .i64 bx,.int .i64 by']] w fun e w'=>e=.returned (.bool (lessB ax ay bx by'))∧Below w.heap.size w w':=by
 rcases Int.lt_trichotomy ax bx with h | rfl | h
 ·have e:lessB ax ay bx by'=true:=by simp only [lessB,decide_eq_true_eq,cmpV_lt_iff];omega
  rw [e];clear e
  go_enter Tryz.func58,Tryz.ntmps58
  go_wp2
  go_ret
  exact⟨rfl,by repeat (first | exact Below.refl _ _ | assumption | apply Below.drew | refine Below.setCell ?_ (by first | omega | (simp;done) | (simp;omega)) _ | refine Below.alloc ?_ (by first | omega | (simp;done) | (simp;omega)) _ | refine Below.call (by assumption) ?_ (by first | omega | (simp;done) | (simp;omega)))⟩
 ·by_cases h2:ay<by'
  ·have e:lessB ax ay ax by'=true:=by simp only [lessB,decide_eq_true_eq,cmpV_lt_iff];exact Or.inr ⟨trivial,h2⟩
   rw [e];clear e
   go_enter Tryz.func58,Tryz.ntmps58
   go_wp2
   go_ret
   exact⟨rfl,by repeat (first | exact Below.refl _ _ | assumption | apply Below.drew | refine Below.setCell ?_ (by first | omega | (simp;done) | (simp;omega)) _ | refine Below.alloc ?_ (by first | omega | (simp;done) | (simp;omega)) _ | refine Below.call (by assumption) ?_ (by first | omega | (simp;done) | (simp;omega)))⟩
  ·have e:lessB ax ay ax by'=false:=by simp only [lessB,decide_eq_false_iff_not,cmpV_lt_iff];rintro (h | ⟨_,h⟩) <;> omega
   have d:decide (ay<by')=false:=by simpa using h2
   rw [e];clear e
   go_enter Tryz.func58,Tryz.ntmps58
   go_wp2
   go_ret
   exact⟨rfl,by repeat (first | exact Below.refl _ _ | assumption | apply Below.drew | refine Below.setCell ?_ (by first | omega | (simp;done) | (simp;omega)) _ | refine Below.alloc ?_ (by first | omega | (simp;done) | (simp;omega)) _ | refine Below.call (by assumption) ?_ (by first | omega | (simp;done) | (simp;omega)))⟩
 ·have e:lessB ax ay bx by'=false:=by simp only [lessB,decide_eq_false_iff_not,cmpV_lt_iff];omega
  have d:decide (ax<bx)=false:=by simp;omega
  have d2:(ax == bx)=false:=by simp;omega
  rw [e];clear e
  go_enter Tryz.func58,Tryz.ntmps58
  go_wp2
  go_ret
  exact⟨rfl,by repeat (first | exact Below.refl _ _ | assumption | apply Below.drew | refine Below.setCell ?_ (by first | omega | (simp;done) | (simp;omega)) _ | refine Below.alloc ?_ (by first | omega | (simp;done) | (simp;omega)) _ | refine Below.call (by assumption) ?_ (by first | omega | (simp;done) | (simp;omega)))⟩
theorem cross_any (ax ay bx by' cx cy:Int) (w:World) (a1:-1000000≤ax) (a2:ax≤1000000) (a3:-1000000≤ay) (a4:ay≤1000000)
  (b1:-1000000≤bx) (b2:bx≤1000000) (b3:-1000000≤by') (b4:by'≤1000000) (c1:-1000000≤cx) (c2:cx≤1000000) (c3:-1000000≤cy) (c4:cy≤1000000) :
  Calls Tryz.prog 59 #[.agg #[.int .i64 ax,.int .i64 ay],.agg #[.int .i64 bx,.int .i64 by'],.agg #[.int .i64 cx,.int .i64 cy]] w fun e w'=>e=.returned (.int .i64 (turnV ax ay bx by' cx cy))∧Below w.heap.size w w':=by
 have p:=prod_bd (a:=bx - ax) (b:=cy - ay) (m:=2000000) (n:=2000000) (by omega) (by omega) (by omega) (by omega)
 have q:=prod_bd (a:=by' - ay) (b:=cx - ax) (m:=2000000) (n:=2000000) (by omega) (by omega) (by omega) (by omega)
 have p':IntKind.i64.wrap ((bx - ax)*(cy - ay))=(bx - ax)*(cy - ay):=IntWalk.i64_in _ (by omega)
 have q':IntKind.i64.wrap ((by' - ay)*(cx - ax))=(by' - ay)*(cx - ax):=IntWalk.i64_in _ (by omega)
 have r':IntKind.i64.wrap ((bx - ax)*(cy - ay) - (by' - ay)*(cx - ax))=(bx - ax)*(cy - ay) - (by' - ay)*(cx - ax):=IntWalk.i64_in _ (by omega)
 clear p q
 unfold turnV
 go_enter Tryz.func59,Tryz.ntmps59
 go_wp2
 go_ret
 exact⟨rfl,by repeat (first | exact Below.refl _ _ | assumption | apply Below.drew | refine Below.setCell ?_ (by first | omega | (simp;done) | (simp;omega)) _ | refine Below.alloc ?_ (by first | omega | (simp;done) | (simp;omega)) _ | refine Below.call (by assumption) ?_ (by first | omega | (simp;done) | (simp;omega)))⟩
def RefValid (l:List Pt):Prop:=1≤l.length∧l.length≤64∧(∀ k,k<l.length→placeP (nth l k)=true)∧(∀ k,1≤k→k<l.length→cmpP (nth l 0) (nth l k)<0) ∧
 (2<l.length→∀ i,i<l.length→∀ k,k<l.length→k≠i→k≠(i+1) % l.length→0<turnP (nth l i) (nth l ((i+1) % l.length)) (nth l k))
open Classical in
noncomputable def refValid (l:List Pt):Bool:=decide (RefValid l)
def lessTo (l:List Pt) (k:Nat):Prop:=∀ j,1≤j→j<k→cmpP (nth l 0) (nth l j)<0
def leftTo (l:List Pt) (i k:Nat):Prop:=∀ j,j<k→j≠i→j≠(i+1) % l.length→0<turnP (nth l i) (nth l ((i+1) % l.length)) (nth l j)
theorem rvalid_size (v:Value) (l:List Pt) (w:World) (hp:PtsAt w.heap.size w v l) (hs:l.length<1∨64<l.length) :
  Calls Tryz.prog 19 #[v] w fun e w'=>e=.returned (.bool (refValid l))∧Below w.heap.size w w':=by
 have hr:refValid l=false:=by simp only [refValid,decide_eq_false_iff_not];rintro ⟨h1,h2,_⟩;omega
 rw [hr];clear hr
 obtain⟨hl,a,cap,rfl,hc⟩:=hp
 clear hc
 rcases hs with hs | hs
 ·have d:decide ((l.length:Int)<1)=true:=by simp;omega
  have hs':=Lib.hid hs
  clear hs
  go_enter Tryz.func19,Tryz.ntmps19
  go_wp2
  go_ret
  exact⟨rfl,by repeat (first | exact Below.refl _ _ | assumption | apply Below.drew | refine Below.setCell ?_ (by first | omega | (simp;done) | (simp;omega)) _ | refine Below.alloc ?_ (by first | omega | (simp;done) | (simp;omega)) _ | refine Below.call (by assumption) ?_ (by first | omega | (simp;done) | (simp;omega)))⟩
 ·have d:decide ((l.length:Int)<1)=false:=by simp;omega
  have d:decide (64<(l.length:Int))=true:=by simp;omega
  have hs':=Lib.hid hs
  clear hs
  go_enter Tryz.func19,Tryz.ntmps19
  go_wp2
  go_ret
  exact⟨rfl,by repeat (first | exact Below.refl _ _ | assumption | apply Below.drew | refine Below.setCell ?_ (by first | omega | (simp;done) | (simp;omega)) _ | refine Below.alloc ?_ (by first | omega | (simp;done) | (simp;omega)) _ | refine Below.call (by assumption) ?_ (by first | omega | (simp;done) | (simp;omega)))⟩
end Go.Proofs.YtpimbaaahcemhaaGreat
namespace Go.Proofs.YtpimbaaahcemhaaGreat
open Go.RowKit Go.Shelf
attribute [local irreducible] wpQuiet
set_option maxRecDepth 100000 in
set_option maxHeartbeats 4000000 in
theorem rvalid_two (v : Value) (l : List Pt) (w : World) (hp : PtsAt w.heap.size w v l) (h1 : 1 ≤ l.length) (h2 : l.length ≤ 64) :
  Calls Tryz.prog 19 #[v] w fun e w'=>e=.returned (.bool (refValid l))∧Below w.heap.size w w':=by
 have HP:=Lib.hid (fun w1 hlow=>places_any v l w1 ((hp.below hlow).mono hlow.size):∀ w1,Below w.heap.size w w1→_)
 obtain⟨hl,a,cap,rfl,hc⟩:=hp
 obtain⟨b,o,rfl,hb,hc⟩:∃ b o,a=some ⟨b,o,none⟩∧b<w.heap.size∧∀ j,j<l.length→w.cell? ⟨b,o+j*2,none⟩=some (.int .i64 (nth l j).x)∧w.cell? ⟨b,o+j*2+1,none⟩=some (.int .i64 (nth l j).y):=by
  rcases hc with rfl | h
  ·simp at h1
  ·exact h
 have d1:decide ((l.length:Int)<1)=false:=by simp;omega
 have d2:decide (64<(l.length:Int))=false:=by simp;omega
 have hc':=Lib.hid hc
 have hn0:0<l.length:=by omega
 have hne:¬ l=[]:=by intro h;rw [h] at hn0;simp at hn0
 clear hc
 cases hap:allPl l
 ·have hr:refValid l=false:=by
   simp only [refValid,decide_eq_false_iff_not]
   rintro ⟨_,_,h3,_⟩
   simp only [allPl,decide_eq_false_iff_not] at hap
   exact hap h3
  have HR:=Lib.hid hr
  clear hr
  go_enter Tryz.func19,Tryz.ntmps19
  go_wp2_with (go_at_call 57;refine (HP.out _ (Below.refl _ _)).mono ?_;rintro e w1 ⟨rfl,hb1⟩;have hz1:=hb1.size;try simp at hz1)
  go_ret
  exact⟨ret_bool HR.out.symm,by repeat (first | exact Below.refl _ _ | assumption | apply Below.drew | refine Below.setCell ?_ (by first | omega | (simp;done) | (simp;omega)) _ | refine Below.alloc ?_ (by first | omega | (simp;done) | (simp;omega)) _ | refine Below.call (by assumption) ?_ (by first | omega | (simp;done) | (simp;omega)))⟩
 ·have hpl : ∀ k, k < l.length → placeP (nth l k) = true := by simpa only [allPl, decide_eq_true_eq] using hap
  have HPL:=Lib.hid hpl
  clear hpl
  go_enter Tryz.func19,Tryz.ntmps19
  go_wp2_with (go_at_call 57;refine (HP.out _ (Below.refl _ _)).mono ?_;rintro e w1 ⟨rfl,hb1⟩;have hz1:=hb1.size;try simp at hz1)
  go_loopw [4] (fun i wr=>∃ k:Nat,1≤k∧k≤l.length∧i=.int .i64 k∧lessTo l k∧Below w.heap.size w wr) (fun i _=>l.length - (intOf i).toNat)
  case atStart=>exact⟨1,by omega,by omega,rfl,fun j h h'=>by omega,hb1⟩
  case round =>
   obtain⟨k,hk1,hk,rfl,hls,hB⟩:=hrel
   have hz:=hB.size
   by_cases hlt:k<l.length
   ·have c1:=Low.fact ((hB.cell (p:=⟨b,o+k*2,none⟩) hb).trans (hc'.out k hlt).1)
    have c2:=Low.fact ((hB.cell (p:=⟨b,o+k*2+1,none⟩) hb).trans (hc'.out k hlt).2)
    have c3:=Low.fact ((hB.cell (p:=⟨b,o+0*2,none⟩) hb).trans (hc'.out 0 (by omega)).1)
    have c4:=Low.fact ((hB.cell (p:=⟨b,o+0*2+1,none⟩) hb).trans (hc'.out 0 (by omega)).2)
    simp only [Nat.zero_mul,Nat.add_zero] at c3 c4
    have hls':=Lib.hid hls
    clear hls
    cases hls2:lessB (nth l 0).x (nth l 0).y (nth l k).x (nth l k).y
    ·have hr:refValid l=false:=by
      simp only [refValid,decide_eq_false_iff_not]
      rintro ⟨_,_,_,h4,_⟩
      have:=h4 k hk1 hlt
      simp only [lessB,decide_eq_false_iff_not] at hls2
      exact hls2 this
     have HR:=Lib.hid hr
     clear hr
     go_wp2
     (refine wp_region_low (by kernel_rfl) (by kernel_rfl) ?_;(iterate 9 (apply quiet_want;(case hw=>rfl);(case hval=>(intro w1 hw1;have hcx:=Low.cells hw1;simp only [Oper.quietAt];go_simp;first | done | (first | (go_at_call 58;exact Low.calls hw1 (rless_any _ _ _ _ _))) | rfl | exact⟨rfl,rfl⟩));simp only [Act.put,List.setIfInBounds_toArray,List.set_cons_zero,List.set_cons_succ]));refine wpQuiet_nil ?_;intro w2 hw2)
     go_wp2
     go_ret
     exact⟨ret_bool HR.out.symm,hB.trans (hw2.out.mono (by omega))⟩
    ·have hls3:Hid (cmpP (nth l 0) (nth l k)<0):=by simp only [lessB,decide_eq_true_eq] at hls2;exact hls2
     go_wp2
     (refine wp_region_low (by kernel_rfl) (by kernel_rfl) ?_;(iterate 9 (apply quiet_want;(case hw=>rfl);(case hval=>(intro w1 hw1;have hcx:=Low.cells hw1;simp only [Oper.quietAt];go_simp;first | done | (first | (go_at_call 58;exact Low.calls hw1 (rless_any _ _ _ _ _))) | rfl | exact⟨rfl,rfl⟩));simp only [Act.put,List.setIfInBounds_toArray,List.set_cons_zero,List.set_cons_succ]));refine wpQuiet_nil ?_;intro w2 hw2)
     go_wp2
     go_roundw
     case rel =>
      refine⟨k+1,by omega,by omega,by simp,fun j hj1 hj=>?_,hB.trans (hw2.out.mono (by omega))⟩
      by_cases e:j=k
      ·subst e;exact hls3.out
      ·exact hls'.out j hj1 (by omega)
     case measure=>simp [intOf];omega
   ·obtain rfl:k=l.length:=by omega
    have hls':=Lib.hid hls
    clear hls
    go_wp2
    go_loopw [5] (fun i wq=>∃ i0:Nat,i0≤l.length∧i=.int .i64 i0∧(2<l.length→∀ j,j<i0→leftTo l j l.length)∧Below w.heap.size w wq) (fun i _=>l.length - (intOf i).toNat)
    case atStart=>exact⟨0,Nat.zero_le _,rfl,fun _ j h=>by omega,hB⟩
    case round =>
     obtain⟨i,hi,rfl,hlf,hBq⟩:=hrel
     have hlf':=Lib.hid hlf
     clear hlf
     by_cases hend:i=l.length∨l.length≤2
     ·have hr:refValid l=true:=by
       simp only [refValid,decide_eq_true_eq]
       exact⟨h1,h2,HPL.out,fun k a b=>hls'.out k a b,fun h3 i' hi' k hk=>hlf'.out h3 i' (by omega) k hk⟩
      have HR:=Lib.hid hr
      clear hr
      rcases hend with rfl | h3
      ·go_wp2
       go_ret
       exact⟨ret_bool HR.out.symm,hBq⟩
      ·by_cases hin:i<l.length
       ·have d3:decide (2<(l.length:Int))=false:=by simp;omega
        have d4:decide (2<l.length)=false:=by simp;omega
        go_wp2
        go_ret
        exact⟨ret_bool HR.out.symm,hBq⟩
       ·go_wp2
        go_ret
        exact⟨ret_bool HR.out.symm,hBq⟩
     ·have hin:i<l.length:=by omega
      have h3:2<l.length:=by omega
      have d3:decide (2<(l.length:Int))=true:=by simp;omega
      obtain⟨m,hm⟩:∃ m,(i+1) % l.length=m:=⟨_,rfl⟩
      have hmlt:m<l.length:=by rw [← hm];exact Nat.mod_lt _ hn0
      have hw1:IntKind.i64.wrap ((i:Int)+1)=(i:Int)+1:=IntWalk.i64_in _ (by omega)
      have hw2:((i:Int)+1).tmod (l.length:Int)=(m:Int):=by
       have:((i:Int)+1).tmod (l.length:Int)=(((i+1) % l.length:Nat):Int):=by
        rw [Int.tmod_eq_emod_of_nonneg (by omega)];rfl
       rw [this,hm]
      have HM:=Lib.hid hm
      have pi:=placeB_true (HPL.out i hin)
      have pm:=placeB_true (HPL.out m hmlt)
      clear hm hend
      obtain⟨wo,rfl⟩:∃ wo:World,wo=wr:=⟨_,rfl⟩
      go_wp2
      go_loopw [6] (fun kk wv=>∃ k:Nat,k≤l.length∧kk=.int .i64 k∧leftTo l i k∧Below w.heap.size w wv) (fun kk _=>l.length - (intOf kk).toNat)
      case atStart=>exact⟨0,Nat.zero_le _,rfl,fun j h=>by omega,hBq⟩
      case round =>
       obtain⟨k,hk,rfl,hlt0,hBv⟩:=hrel
       have hlt':=Lib.hid hlt0
       have hzv:=hBv.size
       clear hlt0
       by_cases hkn:k<l.length
       ·have c1 := Low.fact ((hBv.cell (p := ⟨b, o + k * 2, none⟩) hb).trans (hc'.out k hkn).1)
        have c2:=Low.fact ((hBv.cell (p:=⟨b,o+k*2+1,none⟩) hb).trans (hc'.out k hkn).2)
        have c3:=Low.fact ((hBv.cell (p:=⟨b,o+i*2,none⟩) hb).trans (hc'.out i hin).1)
        have c4:=Low.fact ((hBv.cell (p:=⟨b,o+i*2+1,none⟩) hb).trans (hc'.out i hin).2)
        have c5:=Low.fact ((hBv.cell (p:=⟨b,o+m*2,none⟩) hb).trans (hc'.out m hmlt).1)
        have c6:=Low.fact ((hBv.cell (p:=⟨b,o+m*2+1,none⟩) hb).trans (hc'.out m hmlt).2)
        have pk:=placeB_true (HPL.out k hkn)
        by_cases e1:k=i
        ·subst e1
         go_wp2
         (refine wp_region_low (by kernel_rfl) (by kernel_rfl) ?_;(iterate 4 (apply quiet_want;(case hw=>rfl);(case hval=>(intro w1 hw1;have hcx:=Low.cells hw1;simp only [Oper.quietAt];go_simp;first | done | (first | fail) | rfl | exact⟨rfl,rfl⟩));simp only [Act.put,List.setIfInBounds_toArray,List.set_cons_zero,List.set_cons_succ]));(iterate 6 (apply quiet_skip;(case hw=>rfl);simp only [Act.put,List.setIfInBounds_toArray,List.set_cons_zero,List.set_cons_succ]));(iterate 2 (apply quiet_want;(case hw=>rfl);(case hval=>(intro w1 hw1;have hcx:=Low.cells hw1;simp only [Oper.quietAt];go_simp;first | done | (first | fail) | rfl | exact⟨rfl,rfl⟩));simp only [Act.put,List.setIfInBounds_toArray,List.set_cons_zero,List.set_cons_succ]));(iterate 17 (apply quiet_skip;(case hw=>rfl);simp only [Act.put,List.setIfInBounds_toArray,List.set_cons_zero,List.set_cons_succ]));(iterate 1 (apply quiet_want;(case hw=>rfl);(case hval=>(intro w1 hw1;have hcx:=Low.cells hw1;simp only [Oper.quietAt];go_simp;first | done | (first | fail) | rfl | exact⟨rfl,rfl⟩));simp only [Act.put,List.setIfInBounds_toArray,List.set_cons_zero,List.set_cons_succ]));refine wpQuiet_nil ?_;intro w2 hw2)
         go_wp2
         go_roundw
         case rel =>
          refine⟨k+1,by omega,by simp,fun j hj=>?_,hBv.trans (hw2.out.mono (by omega))⟩
          by_cases e:j=k
          ·subst e;intro h;exact absurd rfl h
          ·exact hlt'.out j (by omega)
         case measure=>simp [intOf];omega
        ·have q1:((k:Int) != (i:Int))=true:=by rw [bne_iff_ne];omega
         have q2:(k != i)=true:=by rw [bne_iff_ne];omega
         by_cases e2:k=m
         ·subst e2
          go_wp2
          (refine wp_region_low (by kernel_rfl) (by kernel_rfl) ?_;(iterate 12 (apply quiet_want;(case hw=>rfl);(case hval=>(intro w1 hw1;have hcx:=Low.cells hw1;simp only [Oper.quietAt];go_simp;first | done | (first | fail) | rfl | exact⟨rfl,rfl⟩));simp only [Act.put,List.setIfInBounds_toArray,List.set_cons_zero,List.set_cons_succ]));(iterate 17 (apply quiet_skip;(case hw=>rfl);simp only [Act.put,List.setIfInBounds_toArray,List.set_cons_zero,List.set_cons_succ]));(iterate 1 (apply quiet_want;(case hw=>rfl);(case hval=>(intro w1 hw1;have hcx:=Low.cells hw1;simp only [Oper.quietAt];go_simp;first | done | (first | fail) | rfl | exact⟨rfl,rfl⟩));simp only [Act.put,List.setIfInBounds_toArray,List.set_cons_zero,List.set_cons_succ]));refine wpQuiet_nil ?_;intro w2 hw2)
          go_wp2
          go_roundw
          case rel =>
           refine⟨k+1,by omega,by simp,fun j hj=>?_,hBv.trans (hw2.out.mono (by omega))⟩
           by_cases e:j=k
           ·subst e;intro _ h;exact absurd HM.out.symm h
           ·exact hlt'.out j (by omega)
          case measure=>simp [intOf];omega
         ·have q3:((k:Int) != (m:Int))=true:=by rw [bne_iff_ne];omega
          have q4:(k != m)=true:=by rw [bne_iff_ne];omega
          by_cases ht:turnV (nth l i).x (nth l i).y (nth l m).x (nth l m).y (nth l k).x (nth l k).y≤0
          ·have dt:decide (turnV (nth l i).x (nth l i).y (nth l m).x (nth l m).y (nth l k).x (nth l k).y≤0)=true:=by simpa using ht
           have hr:refValid l=false:=by
            simp only [refValid,decide_eq_false_iff_not]
            rintro ⟨_,_,_,_,h5⟩
            have:=h5 h3 i hin k hkn e1 (by rw [HM.out];exact e2)
            rw [HM.out] at this
            simp only [turnP] at this
            omega
           have HR:=Lib.hid hr
           clear hr ht
           go_wp2
           (refine wp_region_low (by kernel_rfl) (by kernel_rfl) ?_;(iterate 30 (apply quiet_want;(case hw=>rfl);(case hval=>(intro w1 hw1;have hcx:=Low.cells hw1;simp only [Oper.quietAt];go_simp;first | done | (first | (go_at_call 59;exact Low.calls hw1 (cross_any _ _ _ _ _ _ _ (by omega) (by omega) (by omega) (by omega) (by omega) (by omega) (by omega) (by omega) (by omega) (by omega) (by omega) (by omega)))) | rfl | exact⟨rfl,rfl⟩));simp only [Act.put,List.setIfInBounds_toArray,List.set_cons_zero,List.set_cons_succ]));refine wpQuiet_nil ?_;intro w2 hw2)
           go_wp2
           go_ret
           exact⟨ret_bool HR.out.symm,hBv.trans (hw2.out.mono (by omega))⟩
          ·have dt:decide (turnV (nth l i).x (nth l i).y (nth l m).x (nth l m).y (nth l k).x (nth l k).y≤0)=false:=by simpa using ht
           have Ht:=Lib.hid ht
           clear ht
           go_wp2
           (refine wp_region_low (by kernel_rfl) (by kernel_rfl) ?_;(iterate 30 (apply quiet_want;(case hw=>rfl);(case hval=>(intro w1 hw1;have hcx:=Low.cells hw1;simp only [Oper.quietAt];go_simp;first | done | (first | (go_at_call 59;exact Low.calls hw1 (cross_any _ _ _ _ _ _ _ (by omega) (by omega) (by omega) (by omega) (by omega) (by omega) (by omega) (by omega) (by omega) (by omega) (by omega) (by omega)))) | rfl | exact⟨rfl,rfl⟩));simp only [Act.put,List.setIfInBounds_toArray,List.set_cons_zero,List.set_cons_succ]));refine wpQuiet_nil ?_;intro w2 hw2)
           go_wp2
           go_roundw
           case rel =>
            refine⟨k+1,by omega,by simp,fun j hj=>?_,hBv.trans (hw2.out.mono (by omega))⟩
            by_cases e:j=k
            ·subst e;intro _ _;rw [HM.out];have:=Ht.out;simp only [turnP];omega
            ·exact hlt'.out j (by omega)
           case measure=>simp [intOf];omega
       ·obtain rfl:k=l.length:=by omega
        go_wp2
        go_roundw
        case rel =>
         refine⟨i+1,by omega,by simp,fun h j hj=>?_,hBv⟩
         by_cases e:j=i
         ·subst e;exact hlt'.out
         ·exact hlf'.out h j (by omega)
        case measure=>simp [intOf];omega
theorem rvalid_any (v:Value) (l:List Pt) (w:World) (hp:PtsAt w.heap.size w v l) :
  Calls Tryz.prog 19 #[v] w fun e w'=>e=.returned (.bool (refValid l))∧Below w.heap.size w w':=by
 by_cases h:1≤l.length∧l.length≤64
 ·exact rvalid_two v l w hp h.1 h.2
 ·exact rvalid_size v l w hp (by omega)
end Go.Proofs.YtpimbaaahcemhaaGreat
namespace Go.Proofs.YtpimbaaahcemhaaGreat
theorem turnP_self (a c:Pt):turnP a a c=0:=by unfold turnP turnV;simp
theorem turnP_swap (a b d:Pt):turnP a d b=-turnP a b d:=by
 unfold turnP turnV
 rw [Int.mul_comm (d.x - a.x),Int.mul_comm (d.y - a.y)]
 omega
theorem cmpP_self (a:Pt):cmpP a a=0:=by simp [cmpP,cmpV,orI,cmpI]
theorem go_distinct {l : List Pt} (hl : ∀ k, 1 ≤ k → k < l.length → cmpP (nth l 0) (nth l k) < 0)
  (hg:∀ i,i<l.length→∀ k,k<l.length→nth l k≠nth l i→nth l k≠nth l ((i+1) % l.length)→0<turnP (nth l i) (nth l ((i+1) % l.length)) (nth l k)) :
  ∀ (t j k:Nat),l.length - k=t→j<k→k<l.length→nth l j≠nth l k:=by
 have h0:∀ k,1≤k→k<l.length→nth l 0≠nth l k:=fun k h1 h2 e=>by
  have:=hl k h1 h2
  rw [← e,cmpP_self] at this
  omega
 intro t
 induction t using Nat.strongRecOn with
 | _ t ih =>
  intro j k ht hjk hk e
  have hj:1≤j:=by
   rcases Nat.eq_zero_or_pos j with h | h
   ·subst h;exact absurd e (h0 k hjk hk)
   ·exact h
  have hj1:(j+1) % l.length=j+1:=Nat.mod_eq_of_lt (by omega)
  have n0:nth l 0≠nth l j:=h0 j hj (by omega)
  have n0k:nth l 0≠nth l k:=h0 k (by omega) hk
  have hne:nth l (j+1)≠nth l ((k+1) % l.length):=by
   by_cases hk1:k+1=l.length
   ·rw [hk1,Nat.mod_self]
    exact fun h=>h0 (j+1) (by omega) (by omega) h.symm
   ·rw [Nat.mod_eq_of_lt (by omega)]
    exact ih (l.length - (k+1)) (by omega) (j+1) (k+1) rfl (by omega) (by omega)
  have hAB:nth l j≠nth l (j+1):=fun h=>by
   have:=hg j (by omega) 0 (by omega) n0 (by rw [hj1,← h];exact n0)
   rw [hj1,← h,turnP_self] at this
   omega
  have hAD:nth l k≠nth l ((k+1) % l.length):=fun h=>by
   have:=hg k hk 0 (by omega) n0k (by rw [← h];exact n0k)
   rw [← h,turnP_self] at this
   omega
  have hm:(k+1) % l.length<l.length:=Nat.mod_lt _ (by omega)
  have t1:=hg j (by omega) ((k+1) % l.length) hm (by rw [e];exact Ne.symm hAD) (by rw [hj1];exact Ne.symm hne)
  have t2:=hg k hk (j+1) (by omega) (by rw [← e];exact Ne.symm hAB) hne
  rw [hj1] at t1
  rw [← e,turnP_swap] at t2
  omega
theorem go_iff_ref (l:List Pt):GoValid l↔RefValid l:=by
 constructor
 ·rintro ⟨h1,h2,h3,h4⟩
  have hl:∀ k,1≤k→k<l.length→cmpP (nth l 0) (nth l k)<0:=fun k a b=>(h3 k b).2 (by omega)
  refine⟨h1,h2,fun k hk=>(h3 k hk).1,hl,fun hn i hi k hk hki hkm=>?_⟩
  have hg:=h4 (by omega)
  have hd:=go_distinct hl hg
  have ne:∀ a b,a<l.length→b<l.length→a≠b→nth l a≠nth l b:=fun a b ha hb hab=>by
   rcases Nat.lt_or_gt_of_ne hab with h | h
   ·exact hd _ a b rfl h hb
   ·exact fun e=>hd _ b a rfl h ha e.symm
  exact hg i hi k hk (ne k i hk hi hki) (ne k _ hk (Nat.mod_lt _ (by omega)) hkm)
 ·rintro ⟨h1,h2,h3,h4,h5⟩
  refine⟨h1,h2,fun k hk=>⟨h3 k hk,fun h=>h4 k h hk⟩,fun hn i hi k hk a b=>?_⟩
  exact h5 (by omega) i hi k hk (fun e=>a (by rw [e];rfl)) (fun e=>b (by rw [e];rfl))
theorem go_eq_ref (l:List Pt):goValid l=refValid l:=by
 rw [Bool.eq_iff_iff]
 simp only [goValid,refValid,decide_eq_true_eq]
 exact go_iff_ref l
end Go.Proofs.YtpimbaaahcemhaaGreat
namespace Go.Proofs.YtpimbaaahcemhaaGreat
open Go.RowKit
attribute [local irreducible] wpQuiet
theorem msn_cells {W:World} {B:Nat} {m:Msn} {vw vh vr:Value} {T:TypeId} (H:Has W B (msnCells m vw vh vr) T):W.cell? ⟨B,0,none⟩=some vw∧W.cell? ⟨B,1,none⟩=some vh∧W.cell? ⟨B,2,none⟩=some (.int .i64 m.start)∧W.cell? ⟨B,3,none⟩=some vr∧W.cell? ⟨B,4,none⟩=some (.int .i64 m.speed)∧W.cell? ⟨B,5,none⟩=some (.int .i64 m.part)∧W.cell? ⟨B,6,none⟩=some (.int .i64 m.flow)∧W.cell? ⟨B,7,none⟩=some (.int .i64 m.idle)∧W.cell? ⟨B,8,none⟩=some (.int .i64 m.drive)∧W.cell? ⟨B,9,none⟩=some (.int .i64 m.battery)∧W.cell? ⟨B,10,none⟩=some (.int .i64 m.deadline) :=
 ⟨H.cell (i:=0) rfl,H.cell (i:=1) rfl,H.cell (i:=2) rfl,H.cell (i:=3) rfl,H.cell (i:=4) rfl,H.cell (i:=5) rfl,H.cell (i:=6) rfl,H.cell (i:=7) rfl,H.cell (i:=8) rfl,H.cell (i:=9) rfl,H.cell (i:=10) rfl⟩
theorem msn_low {W:World} {B:Nat} {m:Msn} {vw vh vr:Value} {T:TypeId} (H:Has W B (msnCells m vw vh vr) T):(∀ w1,Low W w1→w1.cell? ⟨B,0,none⟩=some vw)∧(∀ w1,Low W w1→w1.cell? ⟨B,1,none⟩=some vh)∧(∀ w1,Low W w1→w1.cell? ⟨B,2,none⟩=some (.int .i64 m.start))∧(∀ w1,Low W w1→w1.cell? ⟨B,3,none⟩=some vr)∧(∀ w1,Low W w1→w1.cell? ⟨B,4,none⟩=some (.int .i64 m.speed))∧(∀ w1,Low W w1→w1.cell? ⟨B,5,none⟩=some (.int .i64 m.part))∧(∀ w1,Low W w1→w1.cell? ⟨B,6,none⟩=some (.int .i64 m.flow))∧(∀ w1,Low W w1→w1.cell? ⟨B,7,none⟩=some (.int .i64 m.idle))∧(∀ w1,Low W w1→w1.cell? ⟨B,8,none⟩=some (.int .i64 m.drive))∧(∀ w1,Low W w1→w1.cell? ⟨B,9,none⟩=some (.int .i64 m.battery))∧(∀ w1,Low W w1→w1.cell? ⟨B,10,none⟩=some (.int .i64 m.deadline)) :=
 ⟨Low.fact (H.cell (i:=0) rfl),Low.fact (H.cell (i:=1) rfl),Low.fact (H.cell (i:=2) rfl),Low.fact (H.cell (i:=3) rfl),Low.fact (H.cell (i:=4) rfl),Low.fact (H.cell (i:=5) rfl),Low.fact (H.cell (i:=6) rfl),Low.fact (H.cell (i:=7) rfl),Low.fact (H.cell (i:=8) rfl),Low.fact (H.cell (i:=9) rfl),Low.fact (H.cell (i:=10) rfl)⟩
theorem up31_any (a b:Int) (w:World) (ha:0≤a) (ha':a≤1000000000000) (hb:1≤b) (hb':b≤1000000000000) :
  Calls Tryz.prog 162 #[.int .i64 a,.int .i64 b] w fun e w'=>e=.returned (.int .i64 (cdiv a b))∧Below w.heap.size w w':=by
 have e:ceilV a b=cdiv a b:=by
  have:badQ a b=false:=by simp [badQ,wideB_mk (n:=a) (by omega) ha',wideB_mk (n:=b) (by omega) hb'];omega
  simp [ceilV,this]
 rw [← e];clear e
 go_enter Tryz.func162,Tryz.ntmps162
 go_wp2_with (go_at_call 189;refine (ceil_any _ _ _).mono ?_;rintro e w1 ⟨rfl,hb1⟩;have hz1:=hb1.size;try simp at hz1)
 go_ret
 exact⟨rfl,by repeat (first | exact Below.refl _ _ | assumption | apply Below.drew | refine Below.setCell ?_ (by first | omega | (simp;done) | (simp;omega)) _ | refine Below.alloc ?_ (by first | omega | (simp;done) | (simp;omega)) _ | refine Below.call (by assumption) ?_ (by first | omega | (simp;done) | (simp;omega)))⟩
theorem rootUp_any (s:Int) (w:World) (h1:0≤s) (h2:s≤1000000000000000000) :
  Calls Tryz.prog 149 #[.int .i64 s] w fun e w'=>e=.returned (.int .i64 (rootUp s))∧w=w':=by
 have hi:=isqrt_le (m:=s.toNat) (n:=1000000000) (by omega)
 have hs:=(isqrt_spec s.toNat).1
 have hm:IntKind.i64.wrap ((isqrt s.toNat:Int)*isqrt s.toNat)=(isqrt s.toNat:Int)*isqrt s.toNat:=IntWalk.i64_in _ (by
  have:(isqrt s.toNat:Int)*isqrt s.toNat=((isqrt s.toNat*isqrt s.toNat:Nat):Int):=by simp
  omega)
 clear hs
 unfold rootUp
 by_cases hlt:(isqrt s.toNat:Int)*isqrt s.toNat<s
 ·rw [if_pos hlt]
  go_enter Tryz.func149,Tryz.ntmps149
  go_wp2_with (go_at_call 180;refine (root0_any _ _ h1 h2).mono ?_;rintro e w' ⟨rfl,rfl⟩)
  go_ret
  exact⟨rfl,rfl⟩
 ·rw [if_neg hlt]
  have d:decide ((isqrt s.toNat:Int)*isqrt s.toNat<s)=false:=by simpa using hlt
  clear hlt
  go_enter Tryz.func149,Tryz.ntmps149
  go_wp2_with (go_at_call 180;refine (root0_any _ _ h1 h2).mono ?_;rintro e w' ⟨rfl,rfl⟩)
  go_ret
  exact⟨rfl,rfl⟩
theorem length_any (ax ay bx by':Int) (w:World) (a1:-300000≤ax) (a2:ax≤300000) (a3:-300000≤ay) (a4:ay≤300000) (b1:-300000≤bx) (b2:bx≤300000) (b3:-300000≤by') (b4:by'≤300000) :
  Calls Tryz.prog 83 #[.agg #[.int .i64 ax,.int .i64 ay],.agg #[.int .i64 bx,.int .i64 by']] w fun e w'=>e=.returned (.int .i64 (distV ax ay bx by'))∧Below w.heap.size w w':=by
 have h1:=sq_bd (a:=ax - bx) (m:=600000) (by omega) (by omega)
 have h2:=sq_bd (a:=ay - by') (m:=600000) (by omega) (by omega)
 have p':IntKind.i64.wrap ((ax - bx)*(ax - bx))=(ax - bx)*(ax - bx):=IntWalk.i64_in _ (by omega)
 have q':IntKind.i64.wrap ((ay - by')*(ay - by'))=(ay - by')*(ay - by'):=IntWalk.i64_in _ (by omega)
 have r':IntKind.i64.wrap ((ax - bx)*(ax - bx)+(ay - by')*(ay - by'))=(ax - bx)*(ax - bx)+(ay - by')*(ay - by'):=IntWalk.i64_in _ (by omega)
 have s1:0≤(ax - bx)*(ax - bx)+(ay - by')*(ay - by'):=by omega
 have s2:(ax - bx)*(ax - bx)+(ay - by')*(ay - by')≤1000000000000000000:=by omega
 clear h1 h2
 unfold distV
 go_enter Tryz.func83,Tryz.ntmps83
 go_wp2_with (go_at_call 149;refine (rootUp_any _ _ s1 s2).mono ?_;rintro e w' ⟨rfl,rfl⟩)
 go_ret
 exact⟨rfl,by repeat (first | exact Below.refl _ _ | assumption | apply Below.drew | refine Below.setCell ?_ (by first | omega | (simp;done) | (simp;omega)) _ | refine Below.alloc ?_ (by first | omega | (simp;done) | (simp;omega)) _ | refine Below.call (by assumption) ?_ (by first | omega | (simp;done) | (simp;omega)))⟩
theorem rlasts_any (m:Msn) (vw vh vr:Value) (n:Int) (w:World) (h1:0≤n) (h2:n≤900000) (h3:1≤m.speed) (h4:m.speed≤20000) :
  Calls Tryz.prog 148 #[.agg (msnCells m vw vh vr),.int .i64 n] w fun e w'=>e=.returned (.int .i64 (lastsV m.speed n))∧Below w.heap.size w w':=by
 have e:lastsV m.speed n=cdiv (n*100) m.speed:=by rw [lastsV,Int.mul_comm]
 have p:IntKind.i64.wrap (n*100)=n*100:=IntWalk.i64_in _ (by omega)
 rw [e];clear e
 unfold msnCells
 go_enter Tryz.func148,Tryz.ntmps148
 go_wp2_with (go_at_call 147;refine (rup_any _ _ _ (by omega) (by omega) (by omega) (by omega) (by omega)).mono ?_;rintro e w' ⟨rfl,rfl⟩)
 go_ret
 exact⟨rfl,by repeat (first | exact Below.refl _ _ | assumption | apply Below.drew | refine Below.setCell ?_ (by first | omega | (simp;done) | (simp;omega)) _ | refine Below.alloc ?_ (by first | omega | (simp;done) | (simp;omega)) _ | refine Below.call (by assumption) ?_ (by first | omega | (simp;done) | (simp;omega)))⟩
theorem rgrowth_any (m:Msn) (vw vh vr:Value) (n:Int) (w:World) (h1:0≤n) (h2:n≤900000) (h3:1≤m.speed) (h4:m.speed≤20000) (p1:0≤m.part) (p2:m.part≤500) (f1:0≤m.flow) (f2:m.flow≤5000) :
  Calls Tryz.prog 82 #[.agg (msnCells m vw vh vr),.int .i64 n] w fun e w'=>e=.returned (.int .i64 (growthV m.speed m.part m.flow n))∧Below w.heap.size w w':=by
 obtain⟨g1,g2,g3,g4,g5,g6⟩:=growth_bd h1 h2 h3 p1 p2 f1 f2
 have p:IntKind.i64.wrap (n*m.part)=n*m.part:=IntWalk.i64_in _ (by omega)
 have q:IntKind.i64.wrap (lastsV m.speed n*m.flow)=lastsV m.speed n*m.flow:=IntWalk.i64_in _ (by omega)
 have c1:=cdiv_bd (a:=n*m.part) (b:=1000) g1 (by omega)
 have c2:=cdiv_bd (a:=lastsV m.speed n*m.flow) (b:=100) g3 (by omega)
 have r:IntKind.i64.wrap (cdiv (n*m.part) 1000+cdiv (lastsV m.speed n*m.flow) 100)=cdiv (n*m.part) 1000+cdiv (lastsV m.speed n*m.flow) 100:=IntWalk.i64_in _ (by omega)
 clear c1 c2
 unfold growthV
 obtain⟨c0,c1,c2,c3,c4,c5,c6,c7,c8,c9,c10⟩:=msn_low (Has.new w (msnCells m vw vh vr) 26)
 have hl:∀ w1,Calls Tryz.prog 148 #[.agg (msnCells m vw vh vr),.int .i64 n] w1 fun e w'=>e=.returned (.int .i64 (lastsV m.speed n))∧Below w1.heap.size w1 w':=fun w1=>rlasts_any m vw vh vr n w1 h1 h2 h3 h4
 unfold msnCells at *
 go_enter Tryz.func82,Tryz.ntmps82
 go_wp2_with (go_at_call 147;refine (rup_any _ _ _ (by omega) (by omega) (by omega) (by omega) (by omega)).mono ?_;rintro e w' ⟨rfl,rfl⟩)
 (refine wp_region_low (by kernel_rfl) (by kernel_rfl) ?_;(iterate 10 (apply quiet_want;(case hw=>rfl);(case hval=>(intro w1 hw1;have hcx:=Low.cells hw1;simp only [Oper.quietAt];go_simp;first | done | (first | (go_at_call 148;exact Low.calls hw1 (hl _)) | (go_at_call 147;exact Low.calls_same hw1 (rup_any _ _ _ (by omega) (by omega) (by omega) (by omega) (by omega)))) | rfl | exact⟨rfl,rfl⟩));simp only [Act.put,List.setIfInBounds_toArray,List.set_cons_zero,List.set_cons_succ]));refine wpQuiet_nil ?_;intro w2 hw2)
 go_wp2
 go_ret
 exact⟨rfl,by repeat (first | exact Below.refl _ _ | assumption | apply Below.drew | refine Below.setCell ?_ (by first | omega | (simp;done) | (simp;omega)) _ | refine Below.alloc ?_ (by first | omega | (simp;done) | (simp;omega)) _ | refine Below.call (by assumption) ?_ (by first | omega | (simp;done) | (simp;omega)))⟩
end Go.Proofs.YtpimbaaahcemhaaGreat
namespace Go.Proofs.YtpimbaaahcemhaaGreat
open Go.RowKit
section
variable {w X:World} {c1 c2 c3 c4 c5:Array Value} {t1 t2 t3 t4 t5:TypeId}
theorem box1 (h:w.alloc (.cells c1 t1)=X):Has X w.heap.size c1 t1∧Below w.heap.size w X∧X.heap.size=w.heap.size+1:=by
 subst h
 exact⟨Has.new _ _ _,(Below.refl _ _).alloc (Nat.le_refl _) _,by simp⟩
theorem box2 (h:(w.alloc (.cells c1 t1)).alloc (.cells c2 t2)=X):Has X w.heap.size c1 t1∧Has X (w.heap.size+1) c2 t2∧Below w.heap.size w X∧X.heap.size=w.heap.size+2:=by
 obtain⟨a,b,z⟩:=box1 (w:=w) (c1:=c1) (t1:=t1) rfl
 obtain⟨a',b',z'⟩:=box1 h
 rw [z] at a' b' z'
 exact⟨a.below b' (by omega),a',b.trans (b'.mono (by omega)),z'⟩
theorem box3 (h:((w.alloc (.cells c1 t1)).alloc (.cells c2 t2)).alloc (.cells c3 t3)=X):Has X w.heap.size c1 t1∧Has X (w.heap.size+1) c2 t2∧Has X (w.heap.size+1+1) c3 t3∧Below w.heap.size w X∧X.heap.size=w.heap.size+3:=by
 obtain⟨a,a2,b,z⟩:=box2 (w:=w) (c1:=c1) (t1:=t1) (c2:=c2) (t2:=t2) rfl
 obtain⟨a',b',z'⟩:=box1 h
 rw [z] at a' b' z'
 exact⟨a.below b' (by omega),a2.below b' (by omega),a',b.trans (b'.mono (by omega)),z'⟩
end
end Go.Proofs.YtpimbaaahcemhaaGreat
