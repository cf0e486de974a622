/- package hull: ends, Box. | New blocks, one behind the other: what is known of them, from the world behind them. -/
import Derived.Test.YtdolkgihppgpcaaGreatBin04
set_option linter.unusedSimpArgs false
namespace Go.Proofs.YtdolkgihppgpcaaGreat
section
attribute [local irreducible] wpQuiet
open Go.RowKit
def loTo (f:Pt→Int) (l:List Pt):Nat→Int
 | 0=>f (nth l 0)
 | k+1=>if f (nth l k)<loTo f l k then f (nth l k) else loTo f l k
def hiTo (f:Pt→Int) (l:List Pt):Nat→Int
 | 0=>f (nth l 0)
 | k+1=>if hiTo f l k<f (nth l k) then f (nth l k) else hiTo f l k
def bxF1 (p:Pt):Int:=p.x
def bxF2 (p:Pt):Int:=p.y
theorem Z6e (x y:Int) (w:World) :
  Calls Tryz.prog 98 #[.agg #[.int .i64 x,.int .i64 y]] w fun e w'=>e=.returned (.int .i64 (bxF1 ⟨x,y⟩))∧Below w.heap.size w w':=by
 unfold bxF1;go_enter Tryz.func98,Tryz.ntmps98;go_wp2;go_ret;exact⟨rfl,zB2⟩
set_option maxHeartbeats 800000 in
theorem ends_1 (v:Value) (l:List Pt) (w:World) (hp:Z8 w.heap.size w v l) (h1:0<l.length) :
  Calls Tryz.prog 97 #[v,.func (.func 98) #[] #[]] w fun e w'=>e=.returned (.tuple #[.int .i64 (loTo bxF1 l l.length),.int .i64 (hiTo bxF1 l l.length)])∧Below w.heap.size w w':=by
 obtain⟨hl,a,cap,rfl,hc⟩:=hp;obtain⟨b,o,rfl,hb,hc⟩:∃ b o,a=some ⟨b,o,none⟩∧b<w.heap.size∧∀ j,j<l.length→w.cell? ⟨b,o+j*2,none⟩=some (.int .i64 (nth l j).x)∧w.cell? ⟨b,o+j*2+1,none⟩=some (.int .i64 (nth l j).y):=by
  rcases hc with h | h
  ·rw [h] at h1;simp at h1
  ·exact h
 obtain⟨e0,e1⟩:=hc 0 h1;rw [Nat.zero_mul,Nat.add_zero] at e0 e1;have l0:=Low.fact e0;have l1:=Low.fact e1;have HC:=Lib.hid hc;have hf:=Z6e (nth l 0).x (nth l 0).y;have hff:bxF1 ⟨(nth l 0).x,(nth l 0).y⟩=loTo bxF1 l 0:=rfl;rw [hff] at hf;have hf':=Lib.hid hf;have i0:(0:Int)<l.length:=by omega
 have i1:(0:Int)≤0:=by omega
 clear hc hf hff e0 e1;generalize (nth l 0).x=p0 at *;generalize (nth l 0).y=p1 at *;go_enter Tryz.func97,Tryz.ntmps97;go_wp2
 (refine Zh (by kernel_rfl) (by kernel_rfl) ?_;(iterate 12 (apply Zf;(case hw=>rfl);(case hval=>(intro w1 hw1;have hcx:=Low.cells hw1;simp only [Oper.quietAt];go_simp;first | done | (first | (go_at_call 98;exact Low.calls hw1 (hf'.out _))) | rfl | exact⟨rfl,rfl⟩));simp only [Act.put,zq4,zr4,zs4]));refine wpQuiet_nil ?_;intro w2 hw2)
 have B2:=hw2.out;have hH:=Lib.hid (show loTo bxF1 l 0=hiTo bxF1 l 0 from rfl)
 have HB:=Lib.hid B2;clear hw2 l0 l1 B2;generalize w2=w1 at *;have hz1:=HB.out.size;go_wp2
 go_loopw [6,7,22] (fun x y i wr=>∃ k:Nat,k≤l.length∧i=.int .i64 (k:Int)∧x=.int .i64 (loTo bxF1 l k)∧y=.int .i64 (hiTo bxF1 l k)∧Below w.heap.size w wr) (fun _ _ i _=>l.length-(intOf i).toNat)
 case atStart=>exact⟨0,by omega,rfl,rfl,rfl,HB.out⟩
 case round =>
  obtain⟨k,hk,rfl,rfl,rfl,hB⟩:=hrel;have hzB:=hB.size;by_cases hlt:k<l.length
  ·obtain⟨q0,q1⟩:=HC.out k hlt
   have e0:=(hB.cell (p:=⟨b,o+k*2,none⟩) hb).trans q0;have e1:=(hB.cell (p:=⟨b,o+k*2+1,none⟩) hb).trans q1;have hs:Hid (loTo bxF1 l (k+1)=(if bxF1 ⟨(nth l k).x,(nth l k).y⟩<loTo bxF1 l k then bxF1 ⟨(nth l k).x,(nth l k).y⟩ else loTo bxF1 l k)∧hiTo bxF1 l (k+1)=(if hiTo bxF1 l k<bxF1 ⟨(nth l k).x,(nth l k).y⟩ then bxF1 ⟨(nth l k).x,(nth l k).y⟩ else hiTo bxF1 l k)):=⟨rfl,rfl⟩
   have hf:=Lib.hid (Z6e (nth l k).x (nth l k).y);have dk:decide ((k:Int)<(l.length:Int))=true:=by simp;omega
   have kl:(k:Int)<l.length:=by omega
   have k0:(0:Int)≤k:=by omega
   have hBB:=Lib.hid hB;generalize bxF1 ⟨(nth l k).x,(nth l k).y⟩=f0 at *;generalize (nth l k).x=px at *;generalize (nth l k).y=py at *;generalize loTo bxF1 l k=lo at *;generalize hiTo bxF1 l k=hi at *;clear q0 q1 hB;go_wp2;have hN:=Has.new wr #[.int .i64 px,.int .i64 py] 31;have hBn:=hBB.out.alloc hzB (.cells #[.int .i64 px,.int .i64 py] 31);have x0:(wr.alloc (.cells #[.int .i64 px,.int .i64 py] 31)).cell? ⟨wr.heap.size,0,none⟩=some (.int .i64 px):=hN.cell (i:=0) rfl;have x1:(wr.alloc (.cells #[.int .i64 px,.int .i64 py] 31)).cell? ⟨wr.heap.size,1,none⟩=some (.int .i64 py):=hN.cell (i:=1) rfl;have hlN:=hN.lt;have l0:=Low.fact x0;have l1:=Low.fact x1;have HN:=Lib.hid hBn;clear hN hBn x0 x1 e0 e1;generalize wr.alloc (.cells #[.int .i64 px,.int .i64 py] 31)=w3 at *
   (refine Zh (by kernel_rfl) (by kernel_rfl) ?_;(iterate 12 (apply Zf;(case hw=>rfl);(case hval=>(intro w1 hw1;have hcx:=Low.cells hw1;simp only [Oper.quietAt];go_simp;first | done | (first | (go_at_call 98;exact Low.calls hw1 (hf.out _))) | rfl | exact⟨rfl,rfl⟩));simp only [Act.put,zq4,zr4,zs4]));refine wpQuiet_nil ?_;intro w2 hw2)
   have HF:=Lib.hid (HN.out.trans (hw2.out.mono HN.out.size));clear hw2 l0 l1;go_wp2;go_roundw
   case rel=>exact⟨k+1,by omega,by go_num,by rw [hs.out.1],by rw [hs.out.2],HF.out⟩
   case measure=>simp [intOf];omega
  ·obtain rfl:k=l.length:=by omega
   have dk:decide ((l.length:Int)<(l.length:Int))=false:=by simp
   go_wp2;go_ret2;exact⟨rfl,hB⟩
theorem Z6d (x y:Int) (w:World) :
  Calls Tryz.prog 99 #[.agg #[.int .i64 x,.int .i64 y]] w fun e w'=>e=.returned (.int .i64 (bxF2 ⟨x,y⟩))∧Below w.heap.size w w':=by
 unfold bxF2;go_enter Tryz.func99,Tryz.ntmps99;go_wp2;go_ret;exact⟨rfl,zB2⟩
set_option maxHeartbeats 800000 in
theorem ends_2 (v:Value) (l:List Pt) (w:World) (hp:Z8 w.heap.size w v l) (h1:0<l.length) :
  Calls Tryz.prog 97 #[v,.func (.func 99) #[] #[]] w fun e w'=>e=.returned (.tuple #[.int .i64 (loTo bxF2 l l.length),.int .i64 (hiTo bxF2 l l.length)])∧Below w.heap.size w w':=by
 obtain⟨hl,a,cap,rfl,hc⟩:=hp;obtain⟨b,o,rfl,hb,hc⟩:∃ b o,a=some ⟨b,o,none⟩∧b<w.heap.size∧∀ j,j<l.length→w.cell? ⟨b,o+j*2,none⟩=some (.int .i64 (nth l j).x)∧w.cell? ⟨b,o+j*2+1,none⟩=some (.int .i64 (nth l j).y):=by
  rcases hc with h | h
  ·rw [h] at h1;simp at h1
  ·exact h
 obtain⟨e0,e1⟩:=hc 0 h1;rw [Nat.zero_mul,Nat.add_zero] at e0 e1;have l0:=Low.fact e0;have l1:=Low.fact e1;have HC:=Lib.hid hc;have hf:=Z6d (nth l 0).x (nth l 0).y;have hff:bxF2 ⟨(nth l 0).x,(nth l 0).y⟩=loTo bxF2 l 0:=rfl;rw [hff] at hf;have hf':=Lib.hid hf;have i0:(0:Int)<l.length:=by omega
 have i1:(0:Int)≤0:=by omega
 clear hc hf hff e0 e1;generalize (nth l 0).x=p0 at *;generalize (nth l 0).y=p1 at *;go_enter Tryz.func97,Tryz.ntmps97;go_wp2
 (refine Zh (by kernel_rfl) (by kernel_rfl) ?_;(iterate 12 (apply Zf;(case hw=>rfl);(case hval=>(intro w1 hw1;have hcx:=Low.cells hw1;simp only [Oper.quietAt];go_simp;first | done | (first | (go_at_call 99;exact Low.calls hw1 (hf'.out _))) | rfl | exact⟨rfl,rfl⟩));simp only [Act.put,zq4,zr4,zs4]));refine wpQuiet_nil ?_;intro w2 hw2)
 have B2:=hw2.out;have hH:=Lib.hid (show loTo bxF2 l 0=hiTo bxF2 l 0 from rfl)
 have HB:=Lib.hid B2;clear hw2 l0 l1 B2;generalize w2=w1 at *;have hz1:=HB.out.size;go_wp2
 go_loopw [6,7,22] (fun x y i wr=>∃ k:Nat,k≤l.length∧i=.int .i64 (k:Int)∧x=.int .i64 (loTo bxF2 l k)∧y=.int .i64 (hiTo bxF2 l k)∧Below w.heap.size w wr) (fun _ _ i _=>l.length-(intOf i).toNat)
 case atStart=>exact⟨0,by omega,rfl,rfl,rfl,HB.out⟩
 case round =>
  obtain⟨k,hk,rfl,rfl,rfl,hB⟩:=hrel;have hzB:=hB.size;by_cases hlt:k<l.length
  ·obtain⟨q0,q1⟩:=HC.out k hlt
   have e0:=(hB.cell (p:=⟨b,o+k*2,none⟩) hb).trans q0;have e1:=(hB.cell (p:=⟨b,o+k*2+1,none⟩) hb).trans q1;have hs:Hid (loTo bxF2 l (k+1)=(if bxF2 ⟨(nth l k).x,(nth l k).y⟩<loTo bxF2 l k then bxF2 ⟨(nth l k).x,(nth l k).y⟩ else loTo bxF2 l k)∧hiTo bxF2 l (k+1)=(if hiTo bxF2 l k<bxF2 ⟨(nth l k).x,(nth l k).y⟩ then bxF2 ⟨(nth l k).x,(nth l k).y⟩ else hiTo bxF2 l k)):=⟨rfl,rfl⟩
   have hf:=Lib.hid (Z6d (nth l k).x (nth l k).y);have dk:decide ((k:Int)<(l.length:Int))=true:=by simp;omega
   have kl:(k:Int)<l.length:=by omega
   have k0:(0:Int)≤k:=by omega
   have hBB:=Lib.hid hB;generalize bxF2 ⟨(nth l k).x,(nth l k).y⟩=f0 at *;generalize (nth l k).x=px at *;generalize (nth l k).y=py at *;generalize loTo bxF2 l k=lo at *;generalize hiTo bxF2 l k=hi at *;clear q0 q1 hB;go_wp2;have hN:=Has.new wr #[.int .i64 px,.int .i64 py] 31;have hBn:=hBB.out.alloc hzB (.cells #[.int .i64 px,.int .i64 py] 31);have x0:(wr.alloc (.cells #[.int .i64 px,.int .i64 py] 31)).cell? ⟨wr.heap.size,0,none⟩=some (.int .i64 px):=hN.cell (i:=0) rfl;have x1:(wr.alloc (.cells #[.int .i64 px,.int .i64 py] 31)).cell? ⟨wr.heap.size,1,none⟩=some (.int .i64 py):=hN.cell (i:=1) rfl;have hlN:=hN.lt;have l0:=Low.fact x0;have l1:=Low.fact x1;have HN:=Lib.hid hBn;clear hN hBn x0 x1 e0 e1;generalize wr.alloc (.cells #[.int .i64 px,.int .i64 py] 31)=w3 at *
   (refine Zh (by kernel_rfl) (by kernel_rfl) ?_;(iterate 12 (apply Zf;(case hw=>rfl);(case hval=>(intro w1 hw1;have hcx:=Low.cells hw1;simp only [Oper.quietAt];go_simp;first | done | (first | (go_at_call 99;exact Low.calls hw1 (hf.out _))) | rfl | exact⟨rfl,rfl⟩));simp only [Act.put,zq4,zr4,zs4]));refine wpQuiet_nil ?_;intro w2 hw2)
   have HF:=Lib.hid (HN.out.trans (hw2.out.mono HN.out.size));clear hw2 l0 l1;go_wp2;go_roundw
   case rel=>exact⟨k+1,by omega,by go_num,by rw [hs.out.1],by rw [hs.out.2],HF.out⟩
   case measure=>simp [intOf];omega
  ·obtain rfl:k=l.length:=by omega
   have dk:decide ((l.length:Int)<(l.length:Int))=false:=by simp
   go_wp2;go_ret2;exact⟨rfl,hB⟩
end
section
open Go.RowKit
section
variable {w X:World} {c1 c2 c3 c4 c5:Array Value} {t1 t2 t3 t4 t5:TypeId}
theorem box1 (h:w.alloc (.cells c1 t1)=X):Has X w.heap.size c1 t1∧Below w.heap.size w X∧X.heap.size=w.heap.size+1:=by
 subst h;exact⟨Has.new _ _ _,(Below.refl _ _).alloc (Nat.le_refl _) _,by simp⟩
theorem box2 (h:(w.alloc (.cells c1 t1)).alloc (.cells c2 t2)=X):Has X w.heap.size c1 t1∧Has X (w.heap.size+1) c2 t2∧Below w.heap.size w X∧X.heap.size=w.heap.size+2:=by
 obtain⟨a,b,z⟩:=box1 (w:=w) (c1:=c1) (t1:=t1) rfl;obtain⟨a',b',z'⟩:=box1 h;rw [z] at a' b' z';exact⟨a.below b' (by omega),a',b.trans (b'.mono (by omega)),z'⟩
theorem box3 (h:((w.alloc (.cells c1 t1)).alloc (.cells c2 t2)).alloc (.cells c3 t3)=X):Has X w.heap.size c1 t1∧Has X (w.heap.size+1) c2 t2∧Has X (w.heap.size+1+1) c3 t3∧Below w.heap.size w X∧X.heap.size=w.heap.size+3:=by
 obtain⟨a,a2,b,z⟩:=box2 (w:=w) (c1:=c1) (t1:=t1) (c2:=c2) (t2:=t2) rfl;obtain⟨a',b',z'⟩:=box1 h;rw [z] at a' b' z';exact⟨a.below b' (by omega),a2.below b' (by omega),a',b.trans (b'.mono (by omega)),z'⟩
theorem box4 (h:(((w.alloc (.cells c1 t1)).alloc (.cells c2 t2)).alloc (.cells c3 t3)).alloc (.cells c4 t4)=X):Has X w.heap.size c1 t1∧Has X (w.heap.size+1) c2 t2∧Has X (w.heap.size+1+1) c3 t3∧Has X (w.heap.size+1+1+1) c4 t4∧Below w.heap.size w X∧X.heap.size=w.heap.size+4:=by
 obtain⟨a,a2,a3,b,z⟩:=box3 (w:=w) (c1:=c1) (t1:=t1) (c2:=c2) (t2:=t2) (c3:=c3) (t3:=t3) rfl;obtain⟨a',b',z'⟩:=box1 h;rw [z] at a' b' z';exact⟨a.below b' (by omega),a2.below b' (by omega),a3.below b' (by omega),a',b.trans (b'.mono (by omega)),z'⟩
end
end
end Go.Proofs.YtdolkgihppgpcaaGreat
