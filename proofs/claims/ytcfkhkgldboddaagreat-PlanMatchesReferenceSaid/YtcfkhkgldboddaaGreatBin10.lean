/- The reference of layer 3: Less, Cross, Valid. | The reference's Valid of layer 3. | Both functions Valid of layer 3 say the same. | The iterator ov .. -/
import Derived.Test.YtcfkhkgldboddaaGreatBin04
import Derived.Test.YtcfkhkgldboddaaGreatBin00
set_option linter.unusedSimpArgs false
set_option maxHeartbeats 4000000
namespace Go.Proofs.YtcfkhkgldboddaaGreat
section
attribute [local irreducible] wpQuiet
open Go.RowKit Go.Shelf
theorem Z0A (ax ay bx by':Int):cmpV ax ay bx by'<0↔ax<bx∨ax=bx∧ay<by':=by
 unfold cmpV orI cmpI
 repeat' split
 all_goals omega
def lessB (ax ay bx by':Int):Bool:=decide (cmpV ax ay bx by'<0)
theorem Z34 (ax ay bx by':Int) (w:World) :
  Calls Tryz.prog 67 #[.agg #[.int .i64 ax,.int .i64 ay],.agg #[.int .i64 bx,.int .i64 by']] w fun e w'=>e=.returned (.bool (lessB ax ay bx by'))∧Below w.heap.size w w':=by
 rcases Int.lt_trichotomy ax bx with h | rfl | h
 ·have e:lessB ax ay bx by'=true:=by simp only [lessB,decide_eq_true_eq,Z0A];omega
  rw [e];clear e;go_enter Tryz.func67,Tryz.ntmps67;go_wp2;go_ret;exact⟨rfl,zB2⟩
 ·by_cases h2:ay<by'
  ·have e:lessB ax ay ax by'=true:=by simp only [lessB,decide_eq_true_eq,Z0A];exact Or.inr ⟨trivial,h2⟩
   rw [e];clear e;go_enter Tryz.func67,Tryz.ntmps67;go_wp2;go_ret;exact⟨rfl,zB2⟩
  ·have e:lessB ax ay ax by'=false:=by simp only [lessB,decide_eq_false_iff_not,Z0A];rintro (h | ⟨_,h⟩) <;> omega
   have d:decide (ay<by')=false:=by simpa using h2
   rw [e];clear e;go_enter Tryz.func67,Tryz.ntmps67;go_wp2;go_ret;exact⟨rfl,zB2⟩
 ·have e:lessB ax ay bx by'=false:=by simp only [lessB,decide_eq_false_iff_not,Z0A];omega
  have d:decide (ax<bx)=false:=by simp;omega
  have d2:(ax == bx)=false:=by simp;omega
  rw [e];clear e;go_enter Tryz.func67,Tryz.ntmps67;go_wp2;go_ret;exact⟨rfl,zB2⟩
theorem Z0o (ax ay bx by' cx cy:Int) (w:World) (a1:-1000000≤ax) (a2:ax≤1000000) (a3:-1000000≤ay) (a4:ay≤1000000)
  (b1:-1000000≤bx) (b2:bx≤1000000) (b3:-1000000≤by') (b4:by'≤1000000) (c1:-1000000≤cx) (c2:cx≤1000000) (c3:-1000000≤cy) (c4:cy≤1000000) :
  Calls Tryz.prog 68 #[.agg #[.int .i64 ax,.int .i64 ay],.agg #[.int .i64 bx,.int .i64 by'],.agg #[.int .i64 cx,.int .i64 cy]] w fun e w'=>e=.returned (.int .i64 (turnV ax ay bx by' cx cy))∧Below w.heap.size w w':=by
 have p:=ZC (a:=bx-ax) (b:=cy-ay) (m:=2000000) (n:=2000000) (by omega) (by omega) (by omega) (by omega)
 have q:=ZC (a:=by'-ay) (b:=cx-ax) (m:=2000000) (n:=2000000) (by omega) (by omega) (by omega) (by omega)
 have p':IntKind.i64.wrap ((bx-ax)*(cy-ay))=(bx-ax)*(cy-ay):=zW2;have q':IntKind.i64.wrap ((by'-ay)*(cx-ax))=(by'-ay)*(cx-ax):=zW2
 have r':IntKind.i64.wrap ((bx-ax)*(cy-ay)-(by'-ay)*(cx-ax))=(bx-ax)*(cy-ay)-(by'-ay)*(cx-ax):=zW2
 clear p q;unfold turnV;go_enter Tryz.func68,Tryz.ntmps68;go_wp2;go_ret;exact⟨rfl,zB2⟩
def RefValid (l:List Pt):Prop:=1≤l.length∧l.length≤64∧(∀ k,k<l.length→Z4 (nth l k)=true)∧(∀ k,1≤k→k<l.length→cmpP (nth l 0) (nth l k)<0) ∧
 (2<l.length→∀ i,i<l.length→∀ k,k<l.length→k≠i→k≠(i+1) % l.length→0<Z6 (nth l i) (nth l ((i+1) % l.length)) (nth l k))
open Classical in
noncomputable def refValid (l:List Pt):Bool:=decide (RefValid l)
def lessTo (l:List Pt) (k:Nat):Prop:=∀ j,1≤j→j<k→cmpP (nth l 0) (nth l j)<0
def leftTo (l:List Pt) (i k:Nat):Prop:=∀ j,j<k→j≠i→j≠(i+1) % l.length→0<Z6 (nth l i) (nth l ((i+1) % l.length)) (nth l j)
theorem Z5M (v:Value) (l:List Pt) (w:World) (hp:Z8 w.heap.size w v l) (hs:l.length<1∨64<l.length) :
  Calls Tryz.prog 38 #[v] w fun e w'=>e=.returned (.bool (refValid l))∧Below w.heap.size w w':=by
 have hr:refValid l=false:=by simp only [refValid,decide_eq_false_iff_not];rintro ⟨h1,h2,_⟩;omega
 rw [hr];clear hr;obtain⟨hl,a,cap,rfl,hc⟩:=hp;clear hc;rcases hs with hs | hs
 ·have d:decide ((l.length:Int)<1)=true:=by simp;omega
  have hs':=Lib.hid hs;clear hs;go_enter Tryz.func38,Tryz.ntmps38;go_wp2;go_ret;exact⟨rfl,zB2⟩
 ·have d:decide ((l.length:Int)<1)=false:=by simp;omega
  have d:decide (64<(l.length:Int))=true:=by simp;omega
  have hs':=Lib.hid hs;clear hs;go_enter Tryz.func38,Tryz.ntmps38;go_wp2;go_ret;exact⟨rfl,zB2⟩
set_option maxRecDepth 100000 in
theorem Z7h (v : Value) (l : List Pt) (w : World) (hp : Z8 w.heap.size w v l) (h1 : 1 ≤ l.length) (h2 : l.length ≤ 64) :
  Calls Tryz.prog 38 #[v] w fun e w'=>e=.returned (.bool (refValid l))∧Below w.heap.size w w':=by
 have HP:=Lib.hid (fun w1 hlow=>Z7x v l w1 ((hp.below hlow).mono hlow.size):∀ w1,Below w.heap.size w w1→_)
 obtain⟨hl,a,cap,rfl,hc⟩:=hp;obtain⟨b,o,rfl,hb,hc⟩:∃ b o,a=some ⟨b,o,none⟩∧b<w.heap.size∧∀ j,j<l.length→w.cell? ⟨b,o+j*2,none⟩=some (.int .i64 (nth l j).x)∧w.cell? ⟨b,o+j*2+1,none⟩=some (.int .i64 (nth l j).y):=by
  rcases hc with rfl | h
  ·simp at h1
  ·exact h
 have d1:decide ((l.length:Int)<1)=false:=by simp;omega
 have d2:decide (64<(l.length:Int))=false:=by simp;omega
 have hc':=Lib.hid hc;have hn0:0<l.length:=by omega
 have hne:¬ l=[]:=by intro h;rw [h] at hn0;simp at hn0
 clear hc;cases hap:allPl l
 ·have hr:refValid l=false:=by
   simp only [refValid,decide_eq_false_iff_not];rintro ⟨_,_,h3,_⟩;simp only [allPl,decide_eq_false_iff_not] at hap;exact hap h3
  have HR:=Lib.hid hr;clear hr;go_enter Tryz.func38,Tryz.ntmps38;go_wp2_with (go_at_call 66;refine (HP.out _ (Below.refl _ _)).mono ?_;rintro e w1 ⟨rfl,hb1⟩;have hz1:=hb1.size;try simp at hz1)
  go_ret;exact⟨Zq HR.out.symm,zB2⟩
 ·have hpl : ∀ k, k < l.length → Z4 (nth l k) = true := by simpa only [allPl, decide_eq_true_eq] using hap
  have HPL:=Lib.hid hpl;clear hpl;go_enter Tryz.func38,Tryz.ntmps38;go_wp2_with (go_at_call 66;refine (HP.out _ (Below.refl _ _)).mono ?_;rintro e w1 ⟨rfl,hb1⟩;have hz1:=hb1.size;try simp at hz1)
  go_loopw [4] (fun i wr=>∃ k:Nat,1≤k∧k≤l.length∧i=.int .i64 k∧lessTo l k∧Below w.heap.size w wr) (fun i _=>l.length-(intOf i).toNat)
  case atStart=>exact⟨1,by omega,by omega,rfl,fun j h h'=>by omega,hb1⟩
  case round =>
   obtain⟨k,hk1,hk,rfl,hls,hB⟩:=hrel;have hz:=hB.size;by_cases hlt:k<l.length
   ·have c1:=Low.fact ((hB.cell (p:=⟨b,o+k*2,none⟩) hb).trans (hc'.out k hlt).1)
    have c2:=Low.fact ((hB.cell (p:=⟨b,o+k*2+1,none⟩) hb).trans (hc'.out k hlt).2);have c3:=Low.fact ((hB.cell (p:=⟨b,o+0*2,none⟩) hb).trans (hc'.out 0 (by omega)).1)
    have c4:=Low.fact ((hB.cell (p:=⟨b,o+0*2+1,none⟩) hb).trans (hc'.out 0 (by omega)).2)
    simp only [Nat.zero_mul,Nat.add_zero] at c3 c4;have hls':=Lib.hid hls;clear hls;cases hls2:lessB (nth l 0).x (nth l 0).y (nth l k).x (nth l k).y
    ·have hr:refValid l=false:=by
      simp only [refValid,decide_eq_false_iff_not];rintro ⟨_,_,_,h4,_⟩;have:=h4 k hk1 hlt;simp only [lessB,decide_eq_false_iff_not] at hls2;exact hls2 this
     have HR:=Lib.hid hr;clear hr;go_wp2
     (refine Ze (by kernel_rfl) (by kernel_rfl) ?_;(iterate 9 (apply Zd;(case hw=>rfl);(case hval=>(intro w1 hw1;have hcx:=Low.cells hw1;simp only [Oper.quietAt];go_simp;first | done | (first | (go_at_call 67;exact Low.calls hw1 (Z34 _ _ _ _ _))) | rfl | exact⟨rfl,rfl⟩));simp only [Act.put,zq4,zr4,zs4]));refine wpQuiet_nil ?_;intro w2 hw2)
     go_wp2;go_ret;exact⟨Zq HR.out.symm,hB.trans (hw2.out.mono (by omega))⟩
    ·have hls3:Hid (cmpP (nth l 0) (nth l k)<0):=by simp only [lessB,decide_eq_true_eq] at hls2;exact hls2
     go_wp2
     (refine Ze (by kernel_rfl) (by kernel_rfl) ?_;(iterate 9 (apply Zd;(case hw=>rfl);(case hval=>(intro w1 hw1;have hcx:=Low.cells hw1;simp only [Oper.quietAt];go_simp;first | done | (first | (go_at_call 67;exact Low.calls hw1 (Z34 _ _ _ _ _))) | rfl | exact⟨rfl,rfl⟩));simp only [Act.put,zq4,zr4,zs4]));refine wpQuiet_nil ?_;intro w2 hw2)
     go_wp2;go_roundw
     case rel =>
      refine⟨k+1,by omega,by omega,by simp,fun j hj1 hj=>?_,hB.trans (hw2.out.mono (by omega))⟩
      by_cases e:j=k
      ·subst e;exact hls3.out
      ·exact hls'.out j hj1 (by omega)
     case measure=>simp [intOf];omega
   ·obtain rfl:k=l.length:=by omega
    have hls':=Lib.hid hls;clear hls;go_wp2
    go_loopw [5] (fun i wq=>∃ i0:Nat,i0≤l.length∧i=.int .i64 i0∧(2<l.length→∀ j,j<i0→leftTo l j l.length)∧Below w.heap.size w wq) (fun i _=>l.length-(intOf i).toNat)
    case atStart=>exact⟨0,Nat.zero_le _,rfl,fun _ j h=>by omega,hB⟩
    case round =>
     obtain⟨i,hi,rfl,hlf,hBq⟩:=hrel;have hlf':=Lib.hid hlf;clear hlf;by_cases hend:i=l.length∨l.length≤2
     ·have hr:refValid l=true:=by
       simp only [refValid,decide_eq_true_eq];exact⟨h1,h2,HPL.out,fun k a b=>hls'.out k a b,fun h3 i' hi' k hk=>hlf'.out h3 i' (by omega) k hk⟩
      have HR:=Lib.hid hr;clear hr;rcases hend with rfl | h3
      ·go_wp2
       go_ret;exact⟨Zq HR.out.symm,hBq⟩
      ·by_cases hin:i<l.length
       ·have d3:decide (2<(l.length:Int))=false:=by simp;omega
        have d4:decide (2<l.length)=false:=by simp;omega
        go_wp2;go_ret;exact⟨Zq HR.out.symm,hBq⟩
       ·go_wp2
        go_ret;exact⟨Zq HR.out.symm,hBq⟩
     ·have hin:i<l.length:=by omega
      have h3:2<l.length:=by omega
      have d3:decide (2<(l.length:Int))=true:=by simp;omega
      obtain⟨m,hm⟩:∃ m,(i+1) % l.length=m:=⟨_,rfl⟩;have hmlt:m<l.length:=by rw [← hm];exact Nat.mod_lt _ hn0
      have hw1:IntKind.i64.wrap ((i:Int)+1)=(i:Int)+1:=zW2;have hw2:((i:Int)+1).tmod (l.length:Int)=(m:Int):=by
       have:((i:Int)+1).tmod (l.length:Int)=(((i+1) % l.length:Nat):Int):=by
        rw [Int.tmod_eq_emod_of_nonneg (by omega)];rfl
       rw [this,hm]
      have HM:=Lib.hid hm;have pi:=Zi (HPL.out i hin);have pm:=Zi (HPL.out m hmlt);clear hm hend;obtain⟨wo,rfl⟩:∃ wo:World,wo=wr:=⟨_,rfl⟩;go_wp2
      go_loopw [6] (fun kk wv=>∃ k:Nat,k≤l.length∧kk=.int .i64 k∧leftTo l i k∧Below w.heap.size w wv) (fun kk _=>l.length-(intOf kk).toNat)
      case atStart=>exact⟨0,Nat.zero_le _,rfl,fun j h=>by omega,hBq⟩
      case round =>
       obtain⟨k,hk,rfl,hlt0,hBv⟩:=hrel;have hlt':=Lib.hid hlt0;have hzv:=hBv.size;clear hlt0;by_cases hkn:k<l.length
       ·have c1 := Low.fact ((hBv.cell (p := ⟨b, o + k * 2, none⟩) hb).trans (hc'.out k hkn).1)
        have c2:=Low.fact ((hBv.cell (p:=⟨b,o+k*2+1,none⟩) hb).trans (hc'.out k hkn).2);have c3:=Low.fact ((hBv.cell (p:=⟨b,o+i*2,none⟩) hb).trans (hc'.out i hin).1);have c4:=Low.fact ((hBv.cell (p:=⟨b,o+i*2+1,none⟩) hb).trans (hc'.out i hin).2);have c5:=Low.fact ((hBv.cell (p:=⟨b,o+m*2,none⟩) hb).trans (hc'.out m hmlt).1);have c6:=Low.fact ((hBv.cell (p:=⟨b,o+m*2+1,none⟩) hb).trans (hc'.out m hmlt).2);have pk:=Zi (HPL.out k hkn);by_cases e1:k=i
        ·subst e1
         go_wp2
         (refine Ze (by kernel_rfl) (by kernel_rfl) ?_;(iterate 4 (apply Zd;(case hw=>rfl);(case hval=>(intro w1 hw1;have hcx:=Low.cells hw1;simp only [Oper.quietAt];go_simp;first | done | rfl | exact⟨rfl,rfl⟩));simp only [Act.put,zq4,zr4,zs4]));(iterate 6 (apply Zp;(case hw=>rfl);simp only [Act.put,zq4,zr4,zs4]));(iterate 2 (apply Zd;(case hw=>rfl);(case hval=>(intro w1 hw1;have hcx:=Low.cells hw1;simp only [Oper.quietAt];go_simp;first | done | rfl | exact⟨rfl,rfl⟩));simp only [Act.put,zq4,zr4,zs4]));(iterate 17 (apply Zp;(case hw=>rfl);simp only [Act.put,zq4,zr4,zs4]));(iterate 1 (apply Zd;(case hw=>rfl);(case hval=>(intro w1 hw1;have hcx:=Low.cells hw1;simp only [Oper.quietAt];go_simp;first | done | rfl | exact⟨rfl,rfl⟩));simp only [Act.put,zq4,zr4,zs4]));refine wpQuiet_nil ?_;intro w2 hw2)
         go_wp2;go_roundw
         case rel =>
          refine⟨k+1,by omega,by simp,fun j hj=>?_,hBv.trans (hw2.out.mono (by omega))⟩
          by_cases e:j=k
          ·subst e;intro h;exact absurd rfl h
          ·exact hlt'.out j (by omega)
         case measure=>simp [intOf];omega
        ·have q1:((k:Int) != (i:Int))=true:=by rw [bne_iff_ne];omega
         have q2:(k != i)=true:=by rw [bne_iff_ne];omega
         by_cases e2:k=m
         ·subst e2
          go_wp2
          (refine Ze (by kernel_rfl) (by kernel_rfl) ?_;(iterate 12 (apply Zd;(case hw=>rfl);(case hval=>(intro w1 hw1;have hcx:=Low.cells hw1;simp only [Oper.quietAt];go_simp;first | done | rfl | exact⟨rfl,rfl⟩));simp only [Act.put,zq4,zr4,zs4]));(iterate 17 (apply Zp;(case hw=>rfl);simp only [Act.put,zq4,zr4,zs4]));(iterate 1 (apply Zd;(case hw=>rfl);(case hval=>(intro w1 hw1;have hcx:=Low.cells hw1;simp only [Oper.quietAt];go_simp;first | done | rfl | exact⟨rfl,rfl⟩));simp only [Act.put,zq4,zr4,zs4]));refine wpQuiet_nil ?_;intro w2 hw2)
          go_wp2;go_roundw
          case rel =>
           refine⟨k+1,by omega,by simp,fun j hj=>?_,hBv.trans (hw2.out.mono (by omega))⟩
           by_cases e:j=k
           ·subst e;intro _ h;exact absurd HM.out.symm h
           ·exact hlt'.out j (by omega)
          case measure=>simp [intOf];omega
         ·have q3:((k:Int) != (m:Int))=true:=by rw [bne_iff_ne];omega
          have q4:(k != m)=true:=by rw [bne_iff_ne];omega
          by_cases ht:turnV (nth l i).x (nth l i).y (nth l m).x (nth l m).y (nth l k).x (nth l k).y≤0
          ·have dt:decide (turnV (nth l i).x (nth l i).y (nth l m).x (nth l m).y (nth l k).x (nth l k).y≤0)=true:=by simpa using ht
           have hr:refValid l=false:=by
            simp only [refValid,decide_eq_false_iff_not];rintro ⟨_,_,_,_,h5⟩;have:=h5 h3 i hin k hkn e1 (by rw [HM.out];exact e2)
            rw [HM.out] at this;simp only [Z6] at this;omega
           have HR:=Lib.hid hr;clear hr ht;go_wp2
           (refine Ze (by kernel_rfl) (by kernel_rfl) ?_;(iterate 30 (apply Zd;(case hw=>rfl);(case hval=>(intro w1 hw1;have hcx:=Low.cells hw1;simp only [Oper.quietAt];go_simp;first | done | (first | (go_at_call 68;exact Low.calls hw1 (Z0o _ _ _ _ _ _ _ (by omega) (by omega) (by omega) (by omega) (by omega) (by omega) (by omega) (by omega) (by omega) (by omega) (by omega) (by omega)))) | rfl | exact⟨rfl,rfl⟩));simp only [Act.put,zq4,zr4,zs4]));refine wpQuiet_nil ?_;intro w2 hw2)
           go_wp2;go_ret;exact⟨Zq HR.out.symm,hBv.trans (hw2.out.mono (by omega))⟩
          ·have dt:decide (turnV (nth l i).x (nth l i).y (nth l m).x (nth l m).y (nth l k).x (nth l k).y≤0)=false:=by simpa using ht
           have Ht:=Lib.hid ht;clear ht;go_wp2
           (refine Ze (by kernel_rfl) (by kernel_rfl) ?_;(iterate 30 (apply Zd;(case hw=>rfl);(case hval=>(intro w1 hw1;have hcx:=Low.cells hw1;simp only [Oper.quietAt];go_simp;first | done | (first | (go_at_call 68;exact Low.calls hw1 (Z0o _ _ _ _ _ _ _ (by omega) (by omega) (by omega) (by omega) (by omega) (by omega) (by omega) (by omega) (by omega) (by omega) (by omega) (by omega)))) | rfl | exact⟨rfl,rfl⟩));simp only [Act.put,zq4,zr4,zs4]));refine wpQuiet_nil ?_;intro w2 hw2)
           go_wp2;go_roundw
           case rel =>
            refine⟨k+1,by omega,by simp,fun j hj=>?_,hBv.trans (hw2.out.mono (by omega))⟩
            by_cases e:j=k
            ·subst e;intro _ _;rw [HM.out];have:=Ht.out;simp only [Z6];omega
            ·exact hlt'.out j (by omega)
           case measure=>simp [intOf];omega
       ·obtain rfl:k=l.length:=by omega
        go_wp2;go_roundw
        case rel =>
         refine⟨i+1,by omega,by simp,fun h j hj=>?_,hBv⟩
         by_cases e:j=i
         ·subst e;exact hlt'.out
         ·exact hlf'.out h j (by omega)
        case measure=>simp [intOf];omega
theorem Z1o (v:Value) (l:List Pt) (w:World) (hp:Z8 w.heap.size w v l) :
  Calls Tryz.prog 38 #[v] w fun e w'=>e=.returned (.bool (refValid l))∧Below w.heap.size w w':=by
 by_cases h:1≤l.length∧l.length≤64
 ·exact Z7h v l w hp h.1 h.2
 ·exact Z5M v l w hp (by omega)
end
theorem Z27 (a c:Pt):Z6 a a c=0:=by unfold Z6 turnV;simp
theorem Z7a (a b d:Pt):Z6 a d b=-Z6 a b d:=by
 unfold Z6 turnV;rw [Int.mul_comm (d.x-a.x),Int.mul_comm (d.y-a.y)];omega
theorem Z9L (a:Pt):cmpP a a=0:=by simp [cmpP,cmpV,orI,cmpI]
theorem Z3j {l : List Pt} (hl : ∀ k, 1 ≤ k → k < l.length → cmpP (nth l 0) (nth l k) < 0)
  (hg:∀ i,i<l.length→∀ k,k<l.length→nth l k≠nth l i→nth l k≠nth l ((i+1) % l.length)→0<Z6 (nth l i) (nth l ((i+1) % l.length)) (nth l k)) :
  ∀ (t j k:Nat),l.length-k=t→j<k→k<l.length→nth l j≠nth l k:=by
 have h0:∀ k,1≤k→k<l.length→nth l 0≠nth l k:=fun k h1 h2 e=>by
  have:=hl k h1 h2;rw [← e,Z9L] at this;omega
 intro t
 induction t using Nat.strongRecOn with
 | _ t ih =>
  intro j k ht hjk hk e;have hj:1≤j:=by
   rcases Nat.eq_zero_or_pos j with h | h
   ·subst h;exact absurd e (h0 k hjk hk)
   ·exact h
  have hj1:(j+1) % l.length=j+1:=Nat.mod_eq_of_lt (by omega)
  have n0:nth l 0≠nth l j:=h0 j hj (by omega)
  have n0k:nth l 0≠nth l k:=h0 k (by omega) hk
  have hne:nth l (j+1)≠nth l ((k+1) % l.length):=by
   by_cases hk1:k+1=l.length
   ·rw [hk1,Nat.mod_self]
    exact fun h=>h0 (j+1) (by omega) (by omega) h.symm
   ·rw [Nat.mod_eq_of_lt (by omega)]
    exact ih (l.length-(k+1)) (by omega) (j+1) (k+1) rfl (by omega) (by omega)
  have hAB:nth l j≠nth l (j+1):=fun h=>by
   have:=hg j (by omega) 0 (by omega) n0 (by rw [hj1,← h];exact n0)
   rw [hj1,← h,Z27] at this;omega
  have hAD:nth l k≠nth l ((k+1) % l.length):=fun h=>by
   have:=hg k hk 0 (by omega) n0k (by rw [← h];exact n0k)
   rw [← h,Z27] at this;omega
  have hm:(k+1) % l.length<l.length:=Nat.mod_lt _ (by omega)
  have t1:=hg j (by omega) ((k+1) % l.length) hm (by rw [e];exact Ne.symm hAD) (by rw [hj1];exact Ne.symm hne)
  have t2:=hg k hk (j+1) (by omega) (by rw [← e];exact Ne.symm hAB) hne
  rw [hj1] at t1;rw [← e,Z7a] at t2;omega
theorem Z7Q (l:List Pt):GoValid l↔RefValid l:=by
 constructor
 ·rintro ⟨h1,h2,h3,h4⟩
  have hl:∀ k,1≤k→k<l.length→cmpP (nth l 0) (nth l k)<0:=fun k a b=>(h3 k b).2 (by omega)
  refine⟨h1,h2,fun k hk=>(h3 k hk).1,hl,fun hn i hi k hk hki hkm=>?_⟩
  have hg:=h4 (by omega)
  have hd:=Z3j hl hg;have ne:∀ a b,a<l.length→b<l.length→a≠b→nth l a≠nth l b:=fun a b ha hb hab=>by
   rcases Nat.lt_or_gt_of_ne hab with h | h
   ·exact hd _ a b rfl h hb
   ·exact fun e=>hd _ b a rfl h ha e.symm
  exact hg i hi k hk (ne k i hk hi hki) (ne k _ hk (Nat.mod_lt _ (by omega)) hkm)
 ·rintro ⟨h1,h2,h3,h4,h5⟩
  refine⟨h1,h2,fun k hk=>⟨h3 k hk,fun h=>h4 k h hk⟩,fun hn i hi k hk a b=>?_⟩
  exact h5 (by omega) i hi k hk (fun e=>a (by rw [e];rfl)) (fun e=>b (by rw [e];rfl))
theorem Z1f (l:List Pt):Zb l=refValid l:=by
 rw [Bool.eq_iff_iff];simp only [Zb,refValid,decide_eq_true_eq];exact Z7Q l
section
attribute [local go_sem] Oper.semAt_some
open Go.RowKit Go.Shelf
set_option maxRecDepth 100000 in
theorem Z7V {α : Type} (encA : α → Array Value) (f : Nat → α) (n : Nat) (hn : 1 ≤ n) (p : Nat → Prop) (W : World) (l Bs b o cap : Nat) (ps : List Pt) (hlen : ps.length ≤ 70368744177663) (hb : p b) (hBs : p Bs) (hpp : ∀ b, p b → b < W.heap.size) (hf : ∀ i, i < ps.length → encA (f i) = encS (sideP ps i)) (J Jx : List α → World → Prop)
  (hJ:AbidesFrom W.heap.size J)
  (hY:∀ pre x W1,J pre W1→pre.length<ps.length→YieldAt Fence.wide (n-1) Tryz.prog l (encA x) W1 fun e W' =>
   (e=.returned (.bool true)∧J (pre++[x]) W'∧KeepsP p W1 W')∨(e=.returned (.bool false)∧Jx (pre++[x]) W'))
  (hB:W.cell? ⟨Bs,0,none⟩=some (.slice (some ⟨b,o,none⟩) ps.length cap))
  (hc:∀ j,j<ps.length→W.cell? ⟨b,o+j*2,none⟩=some (.int .i64 (nth ps j).x)∧W.cell? ⟨b,o+j*2+1,none⟩=some (.int .i64 (nth ps j).y)) (h0:J [] W) :
  CallsIn Fence.wide n Tryz.prog 202 #[.func (.yield l) #[] #[],.pointer (some ⟨Bs,0,none⟩)] W fun e W'=>(∃ v,e=.returned v) ∧
   ((∃ ys,ys=upto f ps.length∧J ys W')∨(∃ pre,(∃ k,k≤ps.length∧pre=upto f k)∧Jx pre W')):=by
 refine callsIn_of_wp Tryz.func202 rfl trivial ?_ rfl;simp only [Tryz.ntmps202,List.size_toArray,List.length_cons,List.length_nil,Nat.reduceAdd,Nat.reduceSub,Array.replicate_succ,Array.replicate_zero,List.push_toArray,List.append_toArray,List.nil_append,List.cons_append];gi_wp2
 gi_loopw [7] (fun i wr=>∃ k:Nat,k≤ps.length∧i=.int .i64 k∧J (upto f k) wr∧KeepsP p W wr)
  (fun i _=>ps.length-(intOf i).toNat)
 case atStart=>exact⟨0,Nat.zero_le _,rfl,h0,KeepsP.refl _ _⟩
 case round =>
  obtain⟨k,hk,rfl,hJs,hnx⟩:=hrel;by_cases hlt:k<ps.length
  ·have hn0:0<ps.length:=by omega
   obtain⟨m,hm⟩:∃ m,(k+1) % ps.length=m:=⟨_,rfl⟩;have hmlt:m<ps.length:=by rw [← hm];exact Nat.mod_lt _ hn0
   have hx:sideP ps k=(nth ps k,nth ps m):=by rw [sideP,hm]
   have b1:W.heap.size≤wr.heap.size:=hnx.1;have hBl:=World.block_lt_of_cell? W _ hB;have e0:wr.cell? ⟨Bs,0,none⟩=some (.slice (some ⟨b,o,none⟩) ps.length cap):=(hnx.cell (i:=0) hBs).trans hB;have e1:=(hnx.cell (i:=o+k*2) hb).trans (hc k hlt).1;have e2:=(hnx.cell (i:=o+k*2+1) hb).trans (hc k hlt).2;have e3:=(hnx.cell (i:=o+m*2) hb).trans (hc m hmlt).1;have e4:=(hnx.cell (i:=o+m*2+1) hb).trans (hc m hmlt).2;have hJ1:J (upto f k) (wr.alloc (.cells #[.int .i64 (nth ps k).x,.int .i64 (nth ps k).y] 41)).drew :=
    hJ _ _ _ none (hJ _ _ _ none hJs (World.grownBy_alloc _ _ none) (fun r e=>by cases e)) (Z48 _ none) (fun r e=>by cases e)
   obtain⟨fn,tmps,assign,body,hy,hR⟩:=hY _ (f k) _ hJ1 (by rw [Zx];exact hlt)
   rw [hf k hlt,hx] at hy;dsimp only [encS] at hy;have hw1:IntKind.i64.wrap ((k:Int)+1)=(k:Int)+1:=zW2;have hw2:((k:Int)+1).tmod (ps.length:Int)=(m:Int):=by
    have:((k:Int)+1).tmod (ps.length:Int)=(((k+1) % ps.length:Nat):Int):=by
     rw [Int.tmod_eq_emod_of_nonneg (by omega)];rfl
    rw [this,hm]
   have hbl:=World.block_lt_of_cell? wr _ e1;have hB2:Below wr.heap.size wr (wr.alloc (.cells #[.int .i64 (nth ps k).x,.int .i64 (nth ps k).y] 41)):=(Below.refl _ wr).alloc (Nat.le_refl _) _;have f0:=(hB2.cell (p:=⟨Bs,0,none⟩) (World.block_lt_of_cell? wr _ e0)).trans e0;have f1:=(hB2.cell (p:=⟨b,o+k*2,none⟩) hbl).trans e1;have f2:=(hB2.cell (p:=⟨b,o+k*2+1,none⟩) hbl).trans e2;have f3:=(hB2.cell (p:=⟨b,o+m*2,none⟩) hbl).trans e3;have f4:=(hB2.cell (p:=⟨b,o+m*2+1,none⟩) hbl).trans e4;have hne:¬ ps=[]:=by intro h;rw [h] at hn0;simp at hn0
   have hc':=Lib.hid hc;have hm':=Lib.hid hm;have hx':=Lib.hid hx;have hJ':=Lib.hid hJ1;clear hc hm hx hB hJ1;gi_wp2;refine Z0d (Zt _) 10 (by kernel_rfl) (by kernel_rfl) (by kernel_rfl) ?_
   simp only [List.take_succ_cons,List.take_zero,List.drop_succ_cons,List.drop_zero]
   iterate 10 (refine wpStill_step (fun K hK=>?_);go_simp;refine hK _ ?_;clear hK K)
   refine wpStill_nil ?_;gi_wp2;refine hR.mono ?_;rintro e W3 (⟨rfl,hJ3,hk3⟩ | ⟨rfl,hJx3⟩)
   ·gi_wp2
    go_roundw
    case rel=>exact⟨k+1,by omega,by simp,by rw [Zo];exact hJ3,hnx.trans ((KeepsP.of_below (((Below.refl wr.heap.size wr).alloc (Nat.le_refl _) _).drew) (fun b hb=>Nat.lt_of_lt_of_le (hpp b hb) b1)).trans hk3)⟩
    case measure=>simp [intOf];omega
   ·gi_wp2
    refine bodyPost_ret (results_none rfl _ _ _) rfl ?_;exact⟨⟨_,rfl⟩,.inr ⟨_,⟨k+1,by omega,(Zo _ _).symm⟩,hJx3⟩⟩
  ·obtain rfl:k=ps.length:=by omega
   gi_wp2;go_end0;exact⟨⟨_,rfl⟩,.inl ⟨_,rfl,hJs⟩⟩
set_option maxRecDepth 100000 in
theorem Z1h {α:Type} (n:Nat) (l Bs cap:Nat) (a:Option Addr) (J:List α→World→Prop) (W:World) (hB:W.cell? ⟨Bs,0,none⟩=some (.slice a 0 cap)) (h0:J [] W) :
  CallsIn Fence.wide n Tryz.prog 202 #[.func (.yield l) #[] #[],.pointer (some ⟨Bs,0,none⟩)] W fun e W'=>(∃ v,e=.returned v)∧J [] W':=by
 refine callsIn_of_wp Tryz.func202 rfl trivial ?_ rfl;simp only [Tryz.ntmps202,List.size_toArray,List.length_cons,List.length_nil,Nat.reduceAdd,Nat.reduceSub,Array.replicate_succ,Array.replicate_zero,List.push_toArray,List.append_toArray,List.nil_append,List.cons_append];gi_wp2
 gi_loopw [7] (fun i wr=>i=.int .i64 0∧J [] wr) (fun _ _=>0)
 case atStart=>exact⟨rfl,h0⟩
 case round =>
  obtain⟨rfl,hJs⟩:=hrel;gi_wp2;go_end0;exact⟨⟨_,rfl⟩,hJs⟩
theorem Z4d (a:Option Addr) (len cap:Nat) (w:World) :
  Calls Tryz.prog 195 #[.slice a len cap] w fun e w'=>e=.returned (.func (.func 202) #[] #[.pointer (some ⟨w.heap.size,0,none⟩)])∧w.alloc (.cells #[.slice a len cap] 23)=w':=by
 go_enter Tryz.func195,Tryz.ntmps195;go_wp2;go_ret;exact⟨rfl,rfl⟩
theorem Z2y {α:Type} (encA:α→Array Value) (f:Nat→α) (n:Nat) (hn:1≤n) (p:Nat→Prop) (Bs n0:Nat) (sv:Value) (ps:List Pt) (w:World) (hBs:p Bs) (hp0:∀ b,b<n0→p b) (hpp:∀ b,p b→b<w.heap.size)
  (hc:w.cell? ⟨Bs,0,none⟩=some sv) (hI:Z8 n0 w sv ps) (hf:∀ i,i<ps.length→encA (f i)=encS (sideP ps i)) :
  SeqStopsK Fence.wide n Tryz.prog 202 #[.pointer (some ⟨Bs,0,none⟩)] encA (KeepsP p) (fun ys=>ys=upto f ps.length)
   (fun pre=>∃ k,k≤ps.length∧pre=upto f k) ps.length w:=fun l J Jx W hW hJ _ hY h0=>by
 have hc':=(hW.cell (p:=⟨Bs,0,none⟩) (hpp Bs hBs)).trans hc;have hsz:=hW.size;have hn0:n0≤w.heap.size∨ps=[]:=by
  rcases hI.2 with⟨a,cap,_,h | ⟨b,o,_,hb,_⟩⟩
  ·exact .inr h
  ·refine .inl ?_
   rcases Nat.lt_or_ge w.heap.size n0 with h | h
   ·exact absurd (hpp _ (hp0 _ h)) (by omega)
   ·exact h
 rcases hn0 with hn0 | rfl
 ·obtain⟨hl,a,cap,rfl,hcs⟩:=hI.below (hW.mono hn0)
  rcases hcs with rfl | ⟨b,o,rfl,hb,hcs⟩
  ·exact (Z1h n l Bs _ a J W hc' h0).mono fun e W' ⟨he,hj⟩=>⟨he,.inl ⟨_,rfl,hj⟩⟩
  ·exact Z7V encA f n hn p W l Bs b o (ps.length+cap) ps hl (hp0 b hb) hBs (fun b hb=>Nat.lt_of_lt_of_le (hpp b hb) hsz) hf J Jx hJ hY hc' hcs h0
 ·obtain⟨hl,a,cap,rfl,hcs⟩:=hI
  exact (Z1h n l Bs _ a J W hc' h0).mono fun e W' ⟨he,hj⟩=>⟨he,.inl ⟨_,rfl,hj⟩⟩
end
section
attribute [local irreducible] wpQuiet
open Go.RowKit
theorem Z4m (a b:Int) (h1:-4000000000000000000≤a) (h2:a≤4000000000000000000):-4000000000000000000≤a.tdiv b∧a.tdiv b≤4000000000000000000:=by
 have h:=Int.natAbs_tdiv a b;have h':a.natAbs.div b.natAbs≤a.natAbs:=Nat.div_le_self a.natAbs b.natAbs;rw [← h] at h';omega
theorem Zb7 (a b:Int) (h3:-8000000000000≤b) (h4:b≤8000000000000) (hb:b≠0):-8000000000000<a.tmod b∧a.tmod b<8000000000000:=by
 have h:=Int.natAbs_tmod a b;have h':=Nat.mod_lt a.natAbs (y:=b.natAbs) (by omega)
 rw [← h] at h';omega
theorem Z1F (a b:Int) (h1:-4000000000000000000≤a) (h2:a≤4000000000000000000) (hb:b≠0):-4000000000000000001≤a.fdiv b∧a.fdiv b≤4000000000000000000:=by
 rcases Z0t a b hb with h | h
 ·have:=Z4m a b h1 h2;omega
 ·have:=Z4m a b h1 h2;omega
theorem Z3m (a b:Int) (w:World) (h1:-4000000000000000000≤a) (h2:a≤4000000000000000000) (h3:-8000000000000≤b) (h4:b≤8000000000000) (h5:¬ b=0) :
  Calls Tryz.prog 147 #[.int .i64 a,.int .i64 b] w fun e w'=>e=.returned (.int .i64 (a.fdiv b))∧w=w':=by
 have d:=Z4m a b h1 h2;have m:=Zb7 a b h3 h4 h5;have x:a.tmod b+b*a.tdiv b=a:=Int.tmod_add_mul_tdiv a b;have y:a.tdiv b*b=b*a.tdiv b:=Int.mul_comm _ _;have z:a-a.tdiv b*b=a.tmod b:=by omega
 refine Z5o a b _ _ _ w (zW2) z (zW2) h5 (by omega) (by omega) (by omega) (by omega) ?_
 rcases Z0t a b h5 with h | h
 ·exact Or.inl ⟨h.1,h.2.1⟩
 ·exact Or.inr ⟨h.1,h.2.1⟩
theorem Z6y (a b:Int) (w:World) (h1:-4000000000000000000≤a) (h2:a≤4000000000000000000) (h3:-8000000000000≤b) (h4:b≤8000000000000) (h5:¬ b=0) :
  Calls Tryz.prog 117 #[.int .i64 a,.int .i64 b] w fun e w'=>e=.returned (.int .i64 (cdiv a b))∧w=w':=by
 have f:=Z1F (-a) b (by omega) (by omega) h5
 rw [← Z2T a b h5];go_enter Tryz.func117,Tryz.ntmps117;go_wp2_with (go_at_call 147;refine (Z3m _ _ _ (by omega) (by omega) h3 h4 h5).mono ?_;rintro e w' ⟨rfl,rfl⟩)
 go_ret;exact⟨rfl,rfl⟩
theorem Z23 (ax ay bx by' cx cy:Int) (w:World) (a1:-1000000≤ax) (a2:ax≤1000000) (a3:-1000000≤ay) (a4:ay≤1000000)
  (b1:-1000000≤bx) (b2:bx≤1000000) (b3:-1000000≤by') (b4:by'≤1000000) (c1:-1000000≤cx) (c2:cx≤1000000) (c3:-1000000≤cy) (c4:cy≤1000000) :
  Calls Tryz.prog 196 #[.agg #[.int .i64 ax,.int .i64 ay],.agg #[.int .i64 bx,.int .i64 by'],.agg #[.int .i64 cx,.int .i64 cy]] w fun e w'=>e=.returned (.int .i64 (turnV ax ay bx by' cx cy))∧Below w.heap.size w w':=by
 have p:=ZC (a:=bx-ax) (b:=cy-ay) (m:=2000000) (n:=2000000) (by omega) (by omega) (by omega) (by omega)
 have q:=ZC (a:=by'-ay) (b:=cx-ax) (m:=2000000) (n:=2000000) (by omega) (by omega) (by omega) (by omega)
 have p':IntKind.i64.wrap ((bx-ax)*(cy-ay))=(bx-ax)*(cy-ay):=zW2;have q':IntKind.i64.wrap ((by'-ay)*(cx-ax))=(by'-ay)*(cx-ax):=zW2
 have r':IntKind.i64.wrap ((bx-ax)*(cy-ay)-(by'-ay)*(cx-ax))=(bx-ax)*(cy-ay)-(by'-ay)*(cx-ax):=zW2
 clear p q;unfold turnV;go_enter Tryz.func196,Tryz.ntmps196;go_wp2;go_ret;exact⟨rfl,zB2⟩
def crossB (s t:Int):Bool:=decide (s<0∧0<t∨0<s∧t<0)
theorem Z0W (s t : Int) (w : World) :
  Calls Tryz.prog 197 #[.int .i64 s,.int .i64 t] w fun e w'=>e=.returned (.bool (crossB s t))∧w=w':=by
 by_cases h1:s<0
 ·have d1:decide (s<0)=true:=decide_eq_true h1
  have d3:decide (s>0)=false:=by rw [decide_eq_false_iff_not];omega
  by_cases h2:0<t
  ·have d2:decide (t>0)=true:=decide_eq_true h2
   have e:crossB s t=true:=decide_eq_true (.inl ⟨h1,h2⟩);rw [e];clear e;go_enter Tryz.func197,Tryz.ntmps197;go_wp2;go_ret;exact⟨rfl,rfl⟩
  ·have d2:decide (t>0)=false:=by rw [decide_eq_false_iff_not];omega
   have e:crossB s t=false:=decide_eq_false (by omega)
   rw [e];clear e;go_enter Tryz.func197,Tryz.ntmps197;go_wp2;go_ret;exact⟨rfl,rfl⟩
 ·have d1:decide (s<0)=false:=decide_eq_false h1
  by_cases h3:0<s
  ·have d3:decide (s>0)=true:=decide_eq_true h3
   by_cases h4:t<0
   ·have d4:decide (t<0)=true:=decide_eq_true h4
    have e:crossB s t=true:=decide_eq_true (.inr ⟨h3,h4⟩);rw [e];clear e;go_enter Tryz.func197,Tryz.ntmps197;go_wp2;go_ret;exact⟨rfl,rfl⟩
   ·have d4:decide (t<0)=false:=decide_eq_false h4
    have e:crossB s t=false:=decide_eq_false (by omega)
    rw [e];clear e;go_enter Tryz.func197,Tryz.ntmps197;go_wp2;go_ret;exact⟨rfl,rfl⟩
  ·have d3:decide (s>0)=false:=decide_eq_false h3
   have e:crossB s t=false:=decide_eq_false (by omega)
   rw [e];clear e;go_enter Tryz.func197,Tryz.ntmps197;go_wp2;go_ret;exact⟨rfl,rfl⟩
theorem Z4c (s t : Int) (w : World) :
  Calls Tryz.prog 206 #[.int .i64 s,.int .i64 t] w fun e w'=>e=.returned (.bool (crossB s t))∧w=w':=by
 by_cases h1:s<0
 ·have d1:decide (s<0)=true:=decide_eq_true h1
  have d3:decide (s>0)=false:=by rw [decide_eq_false_iff_not];omega
  by_cases h2:0<t
  ·have d2:decide (t>0)=true:=decide_eq_true h2
   have e:crossB s t=true:=decide_eq_true (.inl ⟨h1,h2⟩);rw [e];clear e;go_enter Tryz.func206,Tryz.ntmps206;go_wp2;go_ret;exact⟨rfl,rfl⟩
  ·have d2:decide (t>0)=false:=by rw [decide_eq_false_iff_not];omega
   have e:crossB s t=false:=decide_eq_false (by omega)
   rw [e];clear e;go_enter Tryz.func206,Tryz.ntmps206;go_wp2;go_ret;exact⟨rfl,rfl⟩
 ·have d1:decide (s<0)=false:=decide_eq_false h1
  by_cases h3:0<s
  ·have d3:decide (s>0)=true:=decide_eq_true h3
   by_cases h4:t<0
   ·have d4:decide (t<0)=true:=decide_eq_true h4
    have e:crossB s t=true:=decide_eq_true (.inr ⟨h3,h4⟩);rw [e];clear e;go_enter Tryz.func206,Tryz.ntmps206;go_wp2;go_ret;exact⟨rfl,rfl⟩
   ·have d4:decide (t<0)=false:=decide_eq_false h4
    have e:crossB s t=false:=decide_eq_false (by omega)
    rw [e];clear e;go_enter Tryz.func206,Tryz.ntmps206;go_wp2;go_ret;exact⟨rfl,rfl⟩
  ·have d3:decide (s>0)=false:=decide_eq_false h3
   have e:crossB s t=false:=decide_eq_false (by omega)
   rw [e];clear e;go_enter Tryz.func206,Tryz.ntmps206;go_wp2;go_ret;exact⟨rfl,rfl⟩
theorem Z7S (a b q r q' : Int) (w : World) (hq : IntKind.i64.wrap (a.tdiv b) = q) (hr : a.tmod b = r) (h5 : ¬ b = 0) (q1 : -5000000000000000000 ≤ q) (q2 : q ≤ 5000000000000000000)
  (hc:r=0∧q=q'∨¬ r=0∧((a<0↔b<0)∧q=q'∨¬ (a<0↔b<0)∧q-1=q')) :
  Calls Tryz.prog 204 #[.int .i64 a,.int .i64 b] w fun e w'=>e=.returned (.int .i64 q')∧w=w':=by
 have hw:IntKind.i64.wrap (q-1)=q-1:=zW2;have hb0:(b == 0)=false:=by simpa using h5
 rcases hc with⟨h,e1⟩ | ⟨h,hc⟩
 ·subst e1
  have d1:(r != 0)=false:=by simp [h]
  clear h;go_enter Tryz.func204,Tryz.ntmps204;go_wp2;go_ret;exact⟨rfl,rfl⟩
 ·have d1:(r != 0)=true:=by simpa [bne_iff_ne] using h
  by_cases ha:a<0
  ·have d2:decide (a<0)=true:=decide_eq_true ha
   by_cases hb:b<0
   ·have d3:decide (b<0)=true:=decide_eq_true hb
    rcases hc with⟨_,e1⟩ | ⟨h1,_⟩
    ·subst e1
     go_enter Tryz.func204,Tryz.ntmps204;go_wp2;go_ret;exact⟨rfl,rfl⟩
    ·exact absurd (by simp [ha,hb]) h1
   ·have d3:decide (b<0)=false:=decide_eq_false hb
    rcases hc with⟨h1,_⟩ | ⟨_,e1⟩
    ·exact absurd (h1.1 ha) hb
    ·subst e1
     go_enter Tryz.func204,Tryz.ntmps204;go_wp2;go_ret;exact⟨rfl,rfl⟩
  ·have d2:decide (a<0)=false:=decide_eq_false ha
   by_cases hb:b<0
   ·have d3:decide (b<0)=true:=decide_eq_true hb
    rcases hc with⟨h1,_⟩ | ⟨_,e1⟩
    ·exact absurd (h1.2 hb) ha
    ·subst e1
     go_enter Tryz.func204,Tryz.ntmps204;go_wp2;go_ret;exact⟨rfl,rfl⟩
   ·have d3:decide (b<0)=false:=decide_eq_false hb
    rcases hc with⟨_,e1⟩ | ⟨h1,_⟩
    ·subst e1
     go_enter Tryz.func204,Tryz.ntmps204;go_wp2;go_ret;exact⟨rfl,rfl⟩
    ·exact absurd (by simp [ha,hb]) h1
theorem Z4g (a b:Int) (w:World) (h1:-4000000000000000000≤a) (h2:a≤4000000000000000000) (h3:-8000000000000≤b) (h4:b≤8000000000000) (h5:¬ b=0) :
  Calls Tryz.prog 204 #[.int .i64 a,.int .i64 b] w fun e w'=>e=.returned (.int .i64 (a.fdiv b))∧w=w':=by
 have d:=Z4m a b h1 h2;have sg:¬ a.tmod b=0→((a.tmod b<0∧a<0)∨(0<a.tmod b∧0<a)):=by
  intro h;rcases Int.lt_trichotomy a 0 with ha | ha | ha
  ·have:=Int.tmod_nonneg (a:=-a) b (by omega)
   rw [Int.neg_tmod] at this;omega
  ·subst ha;simp at h
  ·have:=Int.tmod_nonneg (a:=a) b (by omega)
   omega
 refine Z7S a b _ _ _ w (zW2) rfl h5 (by omega) (by omega) ?_
 rcases Z0t a b h5 with h | h
 ·by_cases hz:a.tmod b=0
  ·exact Or.inl ⟨hz,h.2.1⟩
  ·refine Or.inr ⟨hz,Or.inl ⟨?_,h.2.1⟩⟩
   have:=sg hz;omega
 ·have hz:¬ a.tmod b=0:=by omega
  refine Or.inr ⟨hz,Or.inr ⟨?_,h.2.1⟩⟩;have:=sg hz;omega
def loTo (f:Pt→Int) (l:List Pt):Nat→Int
 | 0=>f (nth l 0)
 | k+1=>if f (nth l k)<loTo f l k then f (nth l k) else loTo f l k
def hiTo (f:Pt→Int) (l:List Pt):Nat→Int
 | 0=>f (nth l 0)
 | k+1=>if hiTo f l k<f (nth l k) then f (nth l k) else hiTo f l k
def bxF1 (p:Pt):Int:=p.x
def bxF2 (p:Pt):Int:=p.y
theorem Z76 (x y:Int) (w:World) :
  Calls Tryz.prog 162 #[.agg #[.int .i64 x,.int .i64 y]] w fun e w'=>e=.returned (.int .i64 (bxF1 ⟨x,y⟩))∧Below w.heap.size w w':=by
 unfold bxF1;go_enter Tryz.func162,Tryz.ntmps162;go_wp2;go_ret;exact⟨rfl,zB2⟩
theorem ends_1 (v:Value) (l:List Pt) (w:World) (hp:Z8 w.heap.size w v l) (h1:0<l.length) :
  Calls Tryz.prog 161 #[v,.func (.func 162) #[] #[]] w fun e w'=>e=.returned (.tuple #[.int .i64 (loTo bxF1 l l.length),.int .i64 (hiTo bxF1 l l.length)])∧Below w.heap.size w w':=by
 obtain⟨hl,a,cap,rfl,hc⟩:=hp;obtain⟨b,o,rfl,hb,hc⟩:∃ b o,a=some ⟨b,o,none⟩∧b<w.heap.size∧∀ j,j<l.length→w.cell? ⟨b,o+j*2,none⟩=some (.int .i64 (nth l j).x)∧w.cell? ⟨b,o+j*2+1,none⟩=some (.int .i64 (nth l j).y):=by
  rcases hc with h | h
  ·rw [h] at h1;simp at h1
  ·exact h
 obtain⟨e0,e1⟩:=hc 0 h1;rw [Nat.zero_mul,Nat.add_zero] at e0 e1;have l0:=Low.fact e0;have l1:=Low.fact e1;have HC:=Lib.hid hc;have hf:=Z76 (nth l 0).x (nth l 0).y;have hff:bxF1 ⟨(nth l 0).x,(nth l 0).y⟩=loTo bxF1 l 0:=rfl;rw [hff] at hf;have hf':=Lib.hid hf;have i0:(0:Int)<l.length:=by omega
 have i1:(0:Int)≤0:=by omega
 clear hc hf hff e0 e1;generalize (nth l 0).x=p0 at *;generalize (nth l 0).y=p1 at *;go_enter Tryz.func161,Tryz.ntmps161;go_wp2
 (refine Ze (by kernel_rfl) (by kernel_rfl) ?_;(iterate 12 (apply Zd;(case hw=>rfl);(case hval=>(intro w1 hw1;have hcx:=Low.cells hw1;simp only [Oper.quietAt];go_simp;first | done | (first | (go_at_call 162;exact Low.calls hw1 (hf'.out _))) | rfl | exact⟨rfl,rfl⟩));simp only [Act.put,zq4,zr4,zs4]));refine wpQuiet_nil ?_;intro w2 hw2)
 have B2:=hw2.out;have hH:=Lib.hid (show loTo bxF1 l 0=hiTo bxF1 l 0 from rfl)
 have HB:=Lib.hid B2;clear hw2 l0 l1 B2;generalize w2=w1 at *;have hz1:=HB.out.size;go_wp2
 go_loopw [6,7,22] (fun x y i wr=>∃ k:Nat,k≤l.length∧i=.int .i64 (k:Int)∧x=.int .i64 (loTo bxF1 l k)∧y=.int .i64 (hiTo bxF1 l k)∧Below w.heap.size w wr) (fun _ _ i _=>l.length-(intOf i).toNat)
 case atStart=>exact⟨0,by omega,rfl,rfl,rfl,HB.out⟩
 case round =>
  obtain⟨k,hk,rfl,rfl,rfl,hB⟩:=hrel;have hzB:=hB.size;by_cases hlt:k<l.length
  ·obtain⟨q0,q1⟩:=HC.out k hlt
   have e0:=(hB.cell (p:=⟨b,o+k*2,none⟩) hb).trans q0;have e1:=(hB.cell (p:=⟨b,o+k*2+1,none⟩) hb).trans q1;have hs:Hid (loTo bxF1 l (k+1)=(if bxF1 ⟨(nth l k).x,(nth l k).y⟩<loTo bxF1 l k then bxF1 ⟨(nth l k).x,(nth l k).y⟩ else loTo bxF1 l k)∧hiTo bxF1 l (k+1)=(if hiTo bxF1 l k<bxF1 ⟨(nth l k).x,(nth l k).y⟩ then bxF1 ⟨(nth l k).x,(nth l k).y⟩ else hiTo bxF1 l k)):=⟨rfl,rfl⟩
   have hf:=Lib.hid (Z76 (nth l k).x (nth l k).y);have dk:decide ((k:Int)<(l.length:Int))=true:=by simp;omega
   have kl:(k:Int)<l.length:=by omega
   have k0:(0:Int)≤k:=by omega
   have hBB:=Lib.hid hB;generalize bxF1 ⟨(nth l k).x,(nth l k).y⟩=f0 at *;generalize (nth l k).x=px at *;generalize (nth l k).y=py at *;generalize loTo bxF1 l k=lo at *;generalize hiTo bxF1 l k=hi at *;clear q0 q1 hB;go_wp2;have hN:=Has.new wr #[.int .i64 px,.int .i64 py] 41;have hBn:=hBB.out.alloc hzB (.cells #[.int .i64 px,.int .i64 py] 41);have x0:(wr.alloc (.cells #[.int .i64 px,.int .i64 py] 41)).cell? ⟨wr.heap.size,0,none⟩=some (.int .i64 px):=hN.cell (i:=0) rfl;have x1:(wr.alloc (.cells #[.int .i64 px,.int .i64 py] 41)).cell? ⟨wr.heap.size,1,none⟩=some (.int .i64 py):=hN.cell (i:=1) rfl;have hlN:=hN.lt;have l0:=Low.fact x0;have l1:=Low.fact x1;have HN:=Lib.hid hBn;clear hN hBn x0 x1 e0 e1;generalize wr.alloc (.cells #[.int .i64 px,.int .i64 py] 41)=w3 at *
   (refine Ze (by kernel_rfl) (by kernel_rfl) ?_;(iterate 12 (apply Zd;(case hw=>rfl);(case hval=>(intro w1 hw1;have hcx:=Low.cells hw1;simp only [Oper.quietAt];go_simp;first | done | (first | (go_at_call 162;exact Low.calls hw1 (hf.out _))) | rfl | exact⟨rfl,rfl⟩));simp only [Act.put,zq4,zr4,zs4]));refine wpQuiet_nil ?_;intro w2 hw2)
   have HF:=Lib.hid (HN.out.trans (hw2.out.mono HN.out.size));clear hw2 l0 l1;go_wp2;go_roundw
   case rel=>exact⟨k+1,by omega,by go_num,by rw [hs.out.1],by rw [hs.out.2],HF.out⟩
   case measure=>simp [intOf];omega
  ·obtain rfl:k=l.length:=by omega
   have dk:decide ((l.length:Int)<(l.length:Int))=false:=by simp
   go_wp2;go_ret2;exact⟨rfl,hB⟩
theorem Z75 (x y:Int) (w:World) :
  Calls Tryz.prog 163 #[.agg #[.int .i64 x,.int .i64 y]] w fun e w'=>e=.returned (.int .i64 (bxF2 ⟨x,y⟩))∧Below w.heap.size w w':=by
 unfold bxF2;go_enter Tryz.func163,Tryz.ntmps163;go_wp2;go_ret;exact⟨rfl,zB2⟩
theorem ends_2 (v:Value) (l:List Pt) (w:World) (hp:Z8 w.heap.size w v l) (h1:0<l.length) :
  Calls Tryz.prog 161 #[v,.func (.func 163) #[] #[]] w fun e w'=>e=.returned (.tuple #[.int .i64 (loTo bxF2 l l.length),.int .i64 (hiTo bxF2 l l.length)])∧Below w.heap.size w w':=by
 obtain⟨hl,a,cap,rfl,hc⟩:=hp;obtain⟨b,o,rfl,hb,hc⟩:∃ b o,a=some ⟨b,o,none⟩∧b<w.heap.size∧∀ j,j<l.length→w.cell? ⟨b,o+j*2,none⟩=some (.int .i64 (nth l j).x)∧w.cell? ⟨b,o+j*2+1,none⟩=some (.int .i64 (nth l j).y):=by
  rcases hc with h | h
  ·rw [h] at h1;simp at h1
  ·exact h
 obtain⟨e0,e1⟩:=hc 0 h1;rw [Nat.zero_mul,Nat.add_zero] at e0 e1;have l0:=Low.fact e0;have l1:=Low.fact e1;have HC:=Lib.hid hc;have hf:=Z75 (nth l 0).x (nth l 0).y;have hff:bxF2 ⟨(nth l 0).x,(nth l 0).y⟩=loTo bxF2 l 0:=rfl;rw [hff] at hf;have hf':=Lib.hid hf;have i0:(0:Int)<l.length:=by omega
 have i1:(0:Int)≤0:=by omega
 clear hc hf hff e0 e1;generalize (nth l 0).x=p0 at *;generalize (nth l 0).y=p1 at *;go_enter Tryz.func161,Tryz.ntmps161;go_wp2
 (refine Ze (by kernel_rfl) (by kernel_rfl) ?_;(iterate 12 (apply Zd;(case hw=>rfl);(case hval=>(intro w1 hw1;have hcx:=Low.cells hw1;simp only [Oper.quietAt];go_simp;first | done | (first | (go_at_call 163;exact Low.calls hw1 (hf'.out _))) | rfl | exact⟨rfl,rfl⟩));simp only [Act.put,zq4,zr4,zs4]));refine wpQuiet_nil ?_;intro w2 hw2)
 have B2:=hw2.out;have hH:=Lib.hid (show loTo bxF2 l 0=hiTo bxF2 l 0 from rfl)
 have HB:=Lib.hid B2;clear hw2 l0 l1 B2;generalize w2=w1 at *;have hz1:=HB.out.size;go_wp2
 go_loopw [6,7,22] (fun x y i wr=>∃ k:Nat,k≤l.length∧i=.int .i64 (k:Int)∧x=.int .i64 (loTo bxF2 l k)∧y=.int .i64 (hiTo bxF2 l k)∧Below w.heap.size w wr) (fun _ _ i _=>l.length-(intOf i).toNat)
 case atStart=>exact⟨0,by omega,rfl,rfl,rfl,HB.out⟩
 case round =>
  obtain⟨k,hk,rfl,rfl,rfl,hB⟩:=hrel;have hzB:=hB.size;by_cases hlt:k<l.length
  ·obtain⟨q0,q1⟩:=HC.out k hlt
   have e0:=(hB.cell (p:=⟨b,o+k*2,none⟩) hb).trans q0;have e1:=(hB.cell (p:=⟨b,o+k*2+1,none⟩) hb).trans q1;have hs:Hid (loTo bxF2 l (k+1)=(if bxF2 ⟨(nth l k).x,(nth l k).y⟩<loTo bxF2 l k then bxF2 ⟨(nth l k).x,(nth l k).y⟩ else loTo bxF2 l k)∧hiTo bxF2 l (k+1)=(if hiTo bxF2 l k<bxF2 ⟨(nth l k).x,(nth l k).y⟩ then bxF2 ⟨(nth l k).x,(nth l k).y⟩ else hiTo bxF2 l k)):=⟨rfl,rfl⟩
   have hf:=Lib.hid (Z75 (nth l k).x (nth l k).y);have dk:decide ((k:Int)<(l.length:Int))=true:=by simp;omega
   have kl:(k:Int)<l.length:=by omega
   have k0:(0:Int)≤k:=by omega
   have hBB:=Lib.hid hB;generalize bxF2 ⟨(nth l k).x,(nth l k).y⟩=f0 at *;generalize (nth l k).x=px at *;generalize (nth l k).y=py at *;generalize loTo bxF2 l k=lo at *;generalize hiTo bxF2 l k=hi at *;clear q0 q1 hB;go_wp2;have hN:=Has.new wr #[.int .i64 px,.int .i64 py] 41;have hBn:=hBB.out.alloc hzB (.cells #[.int .i64 px,.int .i64 py] 41);have x0:(wr.alloc (.cells #[.int .i64 px,.int .i64 py] 41)).cell? ⟨wr.heap.size,0,none⟩=some (.int .i64 px):=hN.cell (i:=0) rfl;have x1:(wr.alloc (.cells #[.int .i64 px,.int .i64 py] 41)).cell? ⟨wr.heap.size,1,none⟩=some (.int .i64 py):=hN.cell (i:=1) rfl;have hlN:=hN.lt;have l0:=Low.fact x0;have l1:=Low.fact x1;have HN:=Lib.hid hBn;clear hN hBn x0 x1 e0 e1;generalize wr.alloc (.cells #[.int .i64 px,.int .i64 py] 41)=w3 at *
   (refine Ze (by kernel_rfl) (by kernel_rfl) ?_;(iterate 12 (apply Zd;(case hw=>rfl);(case hval=>(intro w1 hw1;have hcx:=Low.cells hw1;simp only [Oper.quietAt];go_simp;first | done | (first | (go_at_call 163;exact Low.calls hw1 (hf.out _))) | rfl | exact⟨rfl,rfl⟩));simp only [Act.put,zq4,zr4,zs4]));refine wpQuiet_nil ?_;intro w2 hw2)
   have HF:=Lib.hid (HN.out.trans (hw2.out.mono HN.out.size));clear hw2 l0 l1;go_wp2;go_roundw
   case rel=>exact⟨k+1,by omega,by go_num,by rw [hs.out.1],by rw [hs.out.2],HF.out⟩
   case measure=>simp [intOf];omega
  ·obtain rfl:k=l.length:=by omega
   have dk:decide ((l.length:Int)<(l.length:Int))=false:=by simp
   go_wp2;go_ret2;exact⟨rfl,hB⟩
end
section
open Go.RowKit
section
variable {w X:World} {c1 c2 c3 c4 c5:Array Value} {t1 t2 t3 t4 t5:TypeId}
theorem box1 (h:w.alloc (.cells c1 t1)=X):Has X w.heap.size c1 t1∧Below w.heap.size w X∧X.heap.size=w.heap.size+1:=by
 subst h;exact⟨Has.new _ _ _,(Below.refl _ _).alloc (Nat.le_refl _) _,by simp⟩
theorem box2 (h:(w.alloc (.cells c1 t1)).alloc (.cells c2 t2)=X):Has X w.heap.size c1 t1∧Has X (w.heap.size+1) c2 t2∧Below w.heap.size w X∧X.heap.size=w.heap.size+2:=by
 obtain⟨a,b,z⟩:=box1 (w:=w) (c1:=c1) (t1:=t1) rfl;obtain⟨a',b',z'⟩:=box1 h;rw [z] at a' b' z';exact⟨a.below b' (by omega),a',b.trans (b'.mono (by omega)),z'⟩
theorem box3 (h:((w.alloc (.cells c1 t1)).alloc (.cells c2 t2)).alloc (.cells c3 t3)=X):Has X w.heap.size c1 t1∧Has X (w.heap.size+1) c2 t2∧Has X (w.heap.size+1+1) c3 t3∧Below w.heap.size w X∧X.heap.size=w.heap.size+3:=by
 obtain⟨a,a2,b,z⟩:=box2 (w:=w) (c1:=c1) (t1:=t1) (c2:=c2) (t2:=t2) rfl;obtain⟨a',b',z'⟩:=box1 h;rw [z] at a' b' z';exact⟨a.below b' (by omega),a2.below b' (by omega),a',b.trans (b'.mono (by omega)),z'⟩
theorem box4 (h:(((w.alloc (.cells c1 t1)).alloc (.cells c2 t2)).alloc (.cells c3 t3)).alloc (.cells c4 t4)=X):Has X w.heap.size c1 t1∧Has X (w.heap.size+1) c2 t2∧Has X (w.heap.size+1+1) c3 t3∧Has X (w.heap.size+1+1+1) c4 t4∧Below w.heap.size w X∧X.heap.size=w.heap.size+4:=by
 obtain⟨a,a2,a3,b,z⟩:=box3 (w:=w) (c1:=c1) (t1:=t1) (c2:=c2) (t2:=t2) (c3:=c3) (t3:=t3) rfl;obtain⟨a',b',z'⟩:=box1 h;rw [z] at a' b' z';exact⟨a.below b' (by omega),a2.below b' (by omega),a3.below b' (by omega),a',b.trans (b'.mono (by omega)),z'⟩
end
end
end Go.Proofs.YtcfkhkgldboddaaGreat
