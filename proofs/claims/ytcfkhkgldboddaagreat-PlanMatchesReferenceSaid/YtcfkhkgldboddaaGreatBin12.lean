/- mission.home: the iterator. | The reference's Few. -/
import Derived.BigFrameIn
import Derived.Test.YtcfkhkgldboddaaGreatBin11
import Derived.LoopTactic
namespace Go.Proofs.YtcfkhkgldboddaaGreat
section
attribute [local go_sem] Oper.semAt_some
attribute [local irreducible] wpQuiet
open Go.RowKit Go.Shelf
theorem Zav (m:Msn) (vw vh vr:Value) (k:Int) (w:World) :
  Calls Tryz.prog 99 #[.agg (Zc m vw vh vr),.int .i64 k] w fun e w'=>e=.returned (.func (.func 130) #[] #[.pointer (some ⟨w.heap.size+1,0,none⟩),.pointer (some ⟨w.heap.size,0,none⟩)])∧(w.alloc (.cells (Zc m vw vh vr) 26)).alloc (.cells #[.int .i64 k] 3)=w':=by
 unfold Zc;go_enter Tryz.func99,Tryz.ntmps99;go_wp2;go_ret;exact⟨rfl,rfl⟩
def cellN (w:World) (b:Nat):Nat:=match w.cell? ⟨b,0,none⟩ with | some v=>(intOf v).toNat | none=>0
theorem Z6Y {w:World} {b:Nat} {k:Nat} (h:w.cell? ⟨b,0,none⟩=some (.int .i64 k)):cellN w b=k:=by unfold cellN;rw [h];simp [intOf]
set_option maxRecDepth 4000 in
set_option maxHeartbeats 1000000 in
theorem Zaw (n : Nat) (hn : 1 ≤ n) (p : Nat → Prop) (m : Msn) (vw vh vr : Value) (k : Nat) (Bw Bm b o cap : Nat) (W : World) (l : Nat) (hwb : waysB m.ways = true) (hk : k < m.ways.length)
  (hvw:vw=.slice (some ⟨b,o,none⟩) m.ways.length (m.ways.length+cap)) (hc:∀ j,j<m.ways.length→W.cell? ⟨b,o+j*5+3+1,none⟩=some (.int .i64 (wy m.ways j).back))
  (p1:p Bw) (p2:p Bm) (p3:p b) (hb:b≠Bw) (hBm:Bm≠Bw) (J Jx:List Nat→World→Prop)
  (hJ:∀ s A B,J s A→MoveM (fun r=>r=Bw) A B→J s B)
  (hY:∀ (pre:List Nat) (x:Nat) W1,J pre W1→pre.length<dep m k+1→W.heap.size≤W1.heap.size→YieldAt Fence.wide (n-1) Tryz.prog l #[.int .i64 (x:Int)] W1 fun e W' =>
   (e=.returned (.bool true)∧J (pre++[x]) W'∧KeepsP p W1 W')∨(e=.returned (.bool false)∧Jx (pre++[x]) W'))
  (hB:Boxed W Bw 3 (.int .i64 k)) (HM:Has W Bm (Zc m vw vh vr) 26) (h0:J [] W) :
  CallsIn Fence.wide n Tryz.prog 130 #[.func (.yield l) #[] #[],.pointer (some ⟨Bw,0,none⟩),.pointer (some ⟨Bm,0,none⟩)] W fun e W'=>(∃ v,e=.returned v) ∧
   ((∃ ys,ys=upto (itB m k) (dep m k+1)∧J ys W')∨(∃ pre,(∃ j,j≤dep m k+1∧pre=upto (itB m k) j)∧Jx pre W')):=by
 have hcH:=Lib.hid hc;clear hc;refine callsIn_of_wp Tryz.func130 rfl trivial ?_ rfl;simp only [Tryz.ntmps130,List.size_toArray,List.length_cons,List.length_nil,Nat.reduceAdd,Nat.reduceSub,Array.replicate_succ,Array.replicate_zero,List.push_toArray,List.append_toArray,List.nil_append,List.cons_append];gi_wp2
 gi_loopw [4] (fun _ wr=>∃ j:Nat,j≤dep m k∧J (upto (itB m k) j) wr∧Boxed wr Bw 3 (.int .i64 (itB m k j))∧Has wr Bm (Zc m vw vh vr) 26∧wr.heap[b]?=W.heap[b]?∧W.heap.size≤wr.heap.size)
  (fun _ wr=>cellN wr Bw)
 case atStart=>exact⟨0,Nat.zero_le _,h0,hB,HM,rfl,Nat.le_refl _⟩
 case round =>
  obtain⟨j,hj,hJs,hbx,hms,hbb,hsz⟩:=hrel;have hlt:=Z0L hwb hk hj;have c1:=hbx.cell;obtain⟨fn,tmps,assign,body,hy,hR⟩:=hY _ (itB m k j) _ hJs (by rw [Zx];omega) hsz
  have hH:=Lib.hid (And.intro hbx (And.intro hms hbb));have hJ':=Lib.hid hJs;have hwb':=Lib.hid hwb;have hB':=Lib.hid hB;have HM':=Lib.hid HM;have hj':=Lib.hid hj;clear hbx hms hbb hJs hwb hB HM hj;gi_wp2;refine hR.mono ?_;rintro e W3 (⟨rfl,hJ3,hk3⟩ | ⟨rfl,hJx3⟩)
  ·obtain⟨hbx,hms,hbb⟩:=hH.out
   have hbx3:Boxed W3 Bw 3 (.int .i64 (itB m k j)):=(hk3.2 Bw p1).trans hbx;have hms3:Has W3 Bm (Zc m vw vh vr) 26:=(hk3.2 Bm p2).trans hms;have hbb3:W3.heap[b]?=W.heap[b]?:=(hk3.2 b p3).trans hbb;have hsz3:=Nat.le_trans hsz hk3.1;have c3:=hbx3.cell;have hJ3':=Lib.hid hJ3;clear hbx hms hbb hJ3 hk3 hy hR c1;by_cases hz:itB m k j=0
   ·rw [hz] at c3
    have hz':=Lib.hid hz;clear hz;have hX:=Lib.hid (And.intro hbx3 (And.intro hms3 hbb3));clear hbx3 hms3 hbb3;gi_wp2;go_end0;refine⟨⟨_,rfl⟩,.inl ⟨_,rfl,?_⟩⟩;rw [← Z1H hwb'.out hk hj'.out hz'.out,Zo];exact hJ3'.out
   ·have hpos:0<itB m k j:=by omega
    have hjd:j<dep m k:=by
     rcases Nat.lt_or_ge j (dep m k) with h | h
     ·exact h
     ·exfalso
      have:j=dep m k:=by have:=hj'.out;omega
      rw [this] at hz;exact hz (Z6k hwb'.out hk)
    have hdec:=Z68 hwb'.out hk hjd;have hbk:=Z0i hwb'.out hlt;obtain⟨q,hq⟩:∃ q:Nat,(wy m.ways (itB m k j)).back=q:=⟨_,(Int.toNat_of_nonneg hbk.1).symm⟩;have hq2:itB m k (j+1)=q:=by show (wy m.ways (itB m k j)).back.toNat=q;rw [hq];rfl
    have d1:W3.cell? ⟨b,o+itB m k j*5+3+1,none⟩=some (.int .i64 q):=by rw [← hq,World.cell?_of_block hbb3];exact hcH.out _ hlt
    have d2:W3.cell? ⟨Bm,0,none⟩=some (.slice (some ⟨b,o,none⟩) m.ways.length (m.ways.length+cap)):=by rw [← hvw];exact hms3.cell (i:=0) rfl
    have f3:=hbx3.frozen;have hX:=Lib.hid (And.intro hbx3 (And.intro hms3 hbb3));have hq':=Lib.hid (And.intro hq hq2);rw [hq2] at hdec;rw [hq] at hbk;have hil:(itB m k j:Int)<m.ways.length:=by omega
    clear hbx3 hms3 hbb3 hq hq2 hz;gi_wp2;obtain⟨hbx3,hms3,hbb3⟩:=hX.out;refine⟨⟨j+1,by omega,?_,?_,?_,?_,by simpa [World.setCell] using hsz3⟩,?_⟩
    ·rw [Zo];exact hJ _ _ _ hJ3'.out (MoveM.set rfl c3)
    ·rw [hq'.out.2];exact hbx3.set _
    ·exact (Below.heap_setCell W3 ⟨Bw,0,none⟩ _ Bm hBm).trans hms3
    ·exact (Below.heap_setCell W3 ⟨Bw,0,none⟩ _ b hb).trans hbb3
    ·rw [Z6Y (hbx3.set _).cell,Z6Y hH.out.1.cell];exact hdec
  ·gi_wp2
   go_end0;exact⟨⟨_,rfl⟩,.inr ⟨_,⟨j+1,by have:=hj'.out;omega,(Zo _ _).symm⟩,hJx3⟩⟩
theorem Zau (n:Nat) (hn:1≤n) (p:Nat→Prop) (m:Msn) (vw vh vr:Value) (k:Nat) (Bw Bm n0:Nat) (w:World) (hwb:waysB m.ways=true) (hk:k<m.ways.length)
  (hw:WaysAt n0 w vw m.ways) (p1:p Bw) (p2:p Bm) (p3:∀ b,b<n0→p b) (hn0:n0≤Bw) (hBm:Bm≠Bw) (hB:Boxed w Bw 3 (.int .i64 k)) (HM:Has w Bm (Zc m vw vh vr) 26) :
  SeqM n Tryz.prog 130 #[.pointer (some ⟨Bw,0,none⟩),.pointer (some ⟨Bm,0,none⟩)] (fun x:Nat=>#[.int .i64 (x:Int)]) (fun _=>KeepsP p) (fun _ r=>r=Bw) 0 (dep m k+1)
   (fun ys=>ys=upto (itB m k) (dep m k+1)) (fun pre=>∃ j,j≤dep m k+1∧pre=upto (itB m k) j) w:=fun l J Jx W hW hJ _ hY h0=>by
 have hlt:=hB.lt;obtain⟨hl,a,cap,rfl,hcs⟩:=hw.below (hW.mono (by omega))
 rcases hcs with h | ⟨b,o,rfl,hb,hcs⟩
 ·rw [h] at hk;simp at hk
 ·exact Zaw n hn p m _ vh vr k Bw Bm b o cap W l hwb hk rfl (fun j hj=>(hcs j hj).2.2.2.2) p1 p2 (p3 b hb) (by omega) hBm J Jx hJ
   (fun pre x W1 h1 h2 h3=>hY pre x W1 h1 h2 h3) ((hW.block Bw hB.lt).trans hB) (HM.below hW HM.lt) h0
end
section
attribute [local irreducible] wpQuiet
open Go.RowKit
def fewTo (l:List (List Pt)):Nat→Nat
 | 0=>0
 | k+1=>fewTo l k+(rk l k).length
def fewB (m:Msn):Bool:=decide (m.ways.length≤8) && decide (m.rocks.length≤12) && decide (fewTo m.rocks (min m.rocks.length 13)≤120) && decide (m.home.length≤80)
set_option maxHeartbeats 1600000 in
theorem Zbz (m : Msn) (vw vh vr : Value) (w : World) (hm : MsnAt w.heap.size w m vw vh vr) :
  Calls Tryz.prog 15 #[.agg (Zc m vw vh vr)] w fun e w'=>e=.returned (.bool (fewB m))∧Below w.heap.size w w':=by
 obtain⟨_,a1,cap1,rfl,_⟩:=hm.1;obtain⟨_,a2,cap2,rfl,_⟩:=hm.2.1;obtain⟨hlr,a3,cap3,rfl,hrc⟩:=hm.2.2;have H0:=Has.new w (Zc m (.slice a1 m.ways.length (m.ways.length+cap1)) (.slice a2 m.home.length (m.home.length+cap2)) (.slice a3 m.rocks.length (m.rocks.length+cap3))) 26;have H0H:=Lib.hid H0;have hrcH:=Lib.hid hrc;clear hm H0 hrc;unfold Zc;go_enter Tryz.func15,Tryz.ntmps15;go_wp2
 go_loopw [3,4] (fun s i wr=>∃ k:Nat,k≤m.rocks.length∧k≤13∧i=.int .i64 k∧s=.int .i64 (fewTo m.rocks k:Nat)∧fewTo m.rocks k≤k*70368744177663∧Has wr w.heap.size (Zc m (.slice a1 m.ways.length (m.ways.length+cap1)) (.slice a2 m.home.length (m.home.length+cap2)) (.slice a3 m.rocks.length (m.rocks.length+cap3))) 26∧Below w.heap.size w wr) (fun _ i _=>13-(intOf i).toNat)
 case atStart=>exact⟨0,by omega,by omega,rfl,rfl,by simp [fewTo],H0H.out,(Below.refl _ _).alloc (Nat.le_refl _) _⟩
 case round =>
  obtain⟨k,hk,hk13,rfl,rfl,hsm,H,hB⟩:=hrel;obtain⟨c0,c1,c2,c3,c4,c5,c6,c7,c8,c9,c10⟩:=Zh H;have HH:=Lib.hid H;clear H;by_cases hlt:k<m.rocks.length
  ·have e1:decide ((k:Int)<m.rocks.length)=true:=by simp;omega
   by_cases h13:k<13
   ·have e2:decide ((k:Int)<13)=true:=by simp;omega
    obtain⟨b,o,rfl,hb,hcs⟩:∃ b o,a3=some ⟨b,o,none⟩∧b<w.heap.size∧∀ j,j<m.rocks.length→∃ u,w.cell? ⟨b,o+j,none⟩=some u∧Z8 w.heap.size w u (rk m.rocks j):=by
     rcases hrcH.out with h0 | h
     ·rw [h0] at hlt;simp at hlt
     ·exact h
    obtain⟨u,hu,⟨hlu,a,cap,rfl,_⟩⟩:=hcs k hlt;have cu:=(hB.cell (p:=⟨b,o+k,none⟩) hb).trans hu;have hs1:fewTo m.rocks (k+1)=fewTo m.rocks k+(rk m.rocks k).length:=rfl;have hs1':=Lib.hid hs1;clear hcs hu hs1;go_wp2;go_roundw
    case rel=>exact⟨k+1,by omega,by omega,by go_num,by rw [hs1'.out];go_num,by rw [hs1'.out];omega,HH.out,hB⟩
    case measure=>simp [intOf];omega
   ·obtain rfl:k=13:=by omega
    have e2:decide ((13:Int)<13)=false:=by simp
    have hn:Hid (fewB m=false):=by show fewB m=false;simp [fewB];omega
    by_cases g1:m.ways.length≤8
    ·have f1:decide ((m.ways.length:Int)≤8)=true:=by simp;omega
     have f2:decide ((m.rocks.length:Int)≤12)=false:=by simp;omega
     go_wp2;go_ret;exact⟨Zq hn.out.symm,hB⟩
    ·have f1:decide ((m.ways.length:Int)≤8)=false:=by simp;omega
     go_wp2;go_ret;exact⟨Zq hn.out.symm,hB⟩
  ·obtain rfl:k=m.rocks.length:=by omega
   have e1:decide ((m.rocks.length:Int)<m.rocks.length)=false:=by simp
   have hmin:min m.rocks.length 13=m.rocks.length:=by omega
   by_cases g1:m.ways.length≤8
   ·have f1:decide ((m.ways.length:Int)≤8)=true:=by simp;omega
    by_cases g2:m.rocks.length≤12
    ·have f2:decide ((m.rocks.length:Int)≤12)=true:=by simp;omega
     by_cases g3:fewTo m.rocks m.rocks.length≤120
     ·have f3:decide (((fewTo m.rocks m.rocks.length:Nat):Int)≤120)=true:=by simp;omega
      have hn:Hid (fewB m=decide (m.home.length≤80)):=by show fewB m=_;simp [fewB,hmin,g1,g2,g3]
      by_cases g4:m.home.length≤80
      ·have f4:decide ((m.home.length:Int)≤80)=true:=by simp;omega
       clear hmin;go_wp2;go_ret;exact⟨Zq (by rw [hn.out];simp [g4]),hB⟩
      ·have f4:decide ((m.home.length:Int)≤80)=false:=by simp;omega
       clear hmin;go_wp2;go_ret;exact⟨Zq (by rw [hn.out];simp [g4]),hB⟩
     ·have f3:decide (((fewTo m.rocks m.rocks.length:Nat):Int)≤120)=false:=by simp;omega
      have hn:Hid (fewB m=false):=by show fewB m=false;simp [fewB,hmin,g3]
      clear hmin;go_wp2;go_ret;exact⟨Zq hn.out.symm,hB⟩
    ·have f2:decide ((m.rocks.length:Int)≤12)=false:=by simp;omega
     have hn:Hid (fewB m=false):=by show fewB m=false;simp [fewB,g2]
     clear hmin;go_wp2;go_ret;exact⟨Zq hn.out.symm,hB⟩
   ·have f1:decide ((m.ways.length:Int)≤8)=false:=by simp;omega
    have hn:Hid (fewB m=false):=by show fewB m=false;simp [fewB,g1]
    clear hmin;go_wp2;go_ret;exact⟨Zq hn.out.symm,hB⟩
end
end Go.Proofs.YtcfkhkgldboddaaGreat
