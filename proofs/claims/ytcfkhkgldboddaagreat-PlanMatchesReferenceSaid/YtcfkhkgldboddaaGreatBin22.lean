/- landfallref03's least and next; landfallref04's least. (Printed by tools/mknext.py.) | Plain geometry: the disk with eight corners; the points of a .. -/
import Derived.Test.YtcfkhkgldboddaaGreatBin21
set_option linter.unusedSimpArgs false
set_option linter.unusedVariables false
set_option maxRecDepth 8000
set_option maxHeartbeats 4000000
namespace Go.Proofs.YtcfkhkgldboddaaGreat
section
attribute [local irreducible] wpQuiet
open Go.RowKit
theorem ZaS {ax ay bx by' px py:Int}:btwB ax ay bx by' px py=true↔Btw ⟨ax,ay⟩ ⟨bx,by'⟩ ⟨px,py⟩:=by
 unfold btwB minI maxI Btw;simp only [Bool.and_eq_true,decide_eq_true_eq];constructor
 ·rintro ⟨⟨⟨a,b⟩,c⟩,d⟩
  split at a <;> split at b <;> split at c <;> split at d <;> omega
 ·intro h
  refine⟨⟨⟨?_,?_⟩,?_⟩,?_⟩ <;> split <;> omega
theorem ZaH (ax ay bx by' cx cy:Int) (w:World) (a1:-2000000≤ax) (a2:ax≤2000000) (a3:-2000000≤ay) (a4:ay≤2000000)
  (b1:-2000000≤bx) (b2:bx≤2000000) (b3:-2000000≤by') (b4:by'≤2000000) (c1:-2000000≤cx) (c2:cx≤2000000) (c3:-2000000≤cy) (c4:cy≤2000000) :
  Calls Tryz.prog 68 #[.agg #[.int .i64 ax,.int .i64 ay],.agg #[.int .i64 bx,.int .i64 by'],.agg #[.int .i64 cx,.int .i64 cy]] w fun e w'=>e=.returned (.int .i64 (turnV ax ay bx by' cx cy))∧Below w.heap.size w w':=by
 have p:=ZC (a:=bx-ax) (b:=cy-ay) (m:=4000000) (n:=4000000) (by omega) (by omega) (by omega) (by omega)
 have q:=ZC (a:=by'-ay) (b:=cx-ax) (m:=4000000) (n:=4000000) (by omega) (by omega) (by omega) (by omega)
 have p':IntKind.i64.wrap ((bx-ax)*(cy-ay))=(bx-ax)*(cy-ay):=zW2;have q':IntKind.i64.wrap ((by'-ay)*(cx-ax))=(by'-ay)*(cx-ax):=zW2
 have r':IntKind.i64.wrap ((bx-ax)*(cy-ay)-(by'-ay)*(cx-ax))=(bx-ax)*(cy-ay)-(by'-ay)*(cx-ax):=zW2
 clear p q;unfold turnV;go_enter Tryz.func68,Tryz.ntmps68;go_wp2;go_ret;exact⟨rfl,zB2⟩
def far6 (p:Pt):Prop:=-2000000≤p.x∧p.x≤2000000∧-2000000≤p.y∧p.y≤2000000
theorem Z7T {p:Pt} (h:Z4 p=true):far6 p:=by have:=Zi h;unfold far6;omega
theorem Z3W {l:List Pt} {s:Pt} (hl:∀ k,k<l.length→far6 (nth l k)) (hs:far6 s):∀ k,k≤l.length→far6 (nextTo l s k)
 | 0,_=>hs
 | k + 1, h => by
  simp only [nextTo,wrapStep]
  split
  ·exact hl k (by omega)
  ·exact Z3W hl hs k (by omega)
theorem Z8T {ax ay bx by':Int}:lessB ax ay bx by'=true↔LexLt ⟨ax,ay⟩ ⟨bx,by'⟩:=by
 unfold lessB LexLt;rw [decide_eq_true_eq,Z0A]
def NS (n b o:Nat) (sx sy tx ty px py:Int) (w W:World):Prop:=b<n∧w.heap.size=n∧Has W n #[.int .i64 sx,.int .i64 sy] 41∧Has W (n+1) #[.int .i64 0,.int .i64 0] 41∧Has W (n+2) #[.int .i64 tx,.int .i64 ty] 41∧Below n w W∧W.cell? ⟨b,o,none⟩=some (.int .i64 px)∧W.cell? ⟨b,o+1,none⟩=some (.int .i64 py)
theorem NS.below {n b o:Nat} {sx sy tx ty px py:Int} {w W W':World} (h:NS n b o sx sy tx ty px py w W) (hb:Below W.heap.size W W'):NS n b o sx sy tx ty px py w W':=by
 obtain⟨h0,hn,h1,h2,h3,h4,h5,h6⟩:=h;have l3:=h3.lt;exact⟨h0,hn,h1.below hb (by omega),h2.below hb (by omega),h3.below hb (by omega),h4.trans (hb.mono (by omega)),(hb.cell (p:=⟨b,o,none⟩) (by show b<_;omega)).trans h5,(hb.cell (p:=⟨b,o+1,none⟩) (by show b<_;omega)).trans h6⟩
theorem Zak (v : Value) (l : List Pt) (s : Pt) (w : World) (hp : Z8 w.heap.size w v l) (hl : ∀ k, k < l.length → far6 (nth l k)) (hs : far6 s) :
  Calls Tryz.prog 168 #[v,.agg #[.int .i64 s.x,.int .i64 s.y]] w fun e w'=>e=.returned (.agg #[.int .i64 (nextP l s).x,.int .i64 (nextP l s).y])∧Below w.heap.size w w':=by
 obtain⟨hll,a,cap,rfl,hc⟩:=hp;have HC:=Lib.hid hc;have HF:=Lib.hid (fun k hk=>Z3W hl hs k hk)
 have HL:=Lib.hid hl;obtain⟨sx,sy⟩:=s;have bs:far6 ⟨sx,sy⟩:=hs;have a1:=Has.new w #[.int .i64 sx,.int .i64 sy] 41;have a2:=a1.below ((Below.refl (w.heap.size+1) _).alloc (by simp) (.cells #[.int .i64 0,.int .i64 0] 41)) (by omega)
 have a3:=a2.below ((Below.refl (w.heap.size+1) _).alloc (by simp) (.cells #[.int .i64 sx,.int .i64 sy] 41)) (by omega)
 have b2:=Has.new (w.alloc (.cells #[.int .i64 sx,.int .i64 sy] 41)) #[.int .i64 0,.int .i64 0] 41;rw [World.size_alloc] at b2;have b3:=b2.below ((Below.refl (w.heap.size+2) _).alloc (by simp) (.cells #[.int .i64 sx,.int .i64 sy] 41)) (by omega)
 have c3:=Has.new ((w.alloc (.cells #[.int .i64 sx,.int .i64 sy] 41)).alloc (.cells #[.int .i64 0,.int .i64 0] 41)) #[.int .i64 sx,.int .i64 sy] 41;rw [World.size_alloc,World.size_alloc] at c3;have d3:Below w.heap.size w (((w.alloc (.cells #[.int .i64 sx,.int .i64 sy] 41)).alloc (.cells #[.int .i64 0,.int .i64 0] 41)).alloc (.cells #[.int .i64 sx,.int .i64 sy] 41)):=(((Below.refl w.heap.size w).alloc (Nat.le_refl _) _).alloc (by simp) _).alloc (by simp;omega) _
 have HS:=Lib.hid (And.intro a3 (And.intro b3 (And.intro c3 d3)));clear hc hl hs a1 a2 a3 b2 b3 c3 d3;go_enter Tryz.func168,Tryz.ntmps168;go_wp2
 go_loopw [6] (fun i wr=>∃ k:Nat,k≤l.length∧i=.int .i64 (k:Int)∧Has wr w.heap.size #[.int .i64 sx,.int .i64 sy] 41∧Has wr (w.heap.size+1) #[.int .i64 0,.int .i64 0] 41∧Has wr (w.heap.size+2) #[.int .i64 (nextTo l ⟨sx,sy⟩ k).x,.int .i64 (nextTo l ⟨sx,sy⟩ k).y] 41∧Below w.heap.size w wr) (fun i _=>l.length-(intOf i).toNat)
 case atStart=>exact⟨0,by omega,rfl,HS.out.1,HS.out.2.1,HS.out.2.2.1,HS.out.2.2.2⟩
 case round =>
  obtain⟨k,hk,rfl,g3,g4,g5,hB⟩:=hrel;have hzB:=hB.size;have l5:=g5.lt;by_cases hlt:k<l.length
  ·obtain ⟨b, o, rfl, hb, hcc⟩ := HC.out.resolve_left (by intro h; rw [h] at hlt; simp at hlt)
   obtain⟨q0,q1⟩:=hcc k hlt;have f0:=(hB.cell (p:=⟨b,o+k*2,none⟩) hb).trans q0;have f1:=(hB.cell (p:=⟨b,o+k*2+1,none⟩) hb).trans q1;have bt:=HF.out k hk;have bp:=HL.out k hlt;have hst:Hid (nextTo l ⟨sx,sy⟩ (k+1)=wrapStep ⟨sx,sy⟩ (nextTo l ⟨sx,sy⟩ k) (nth l k)):=rfl;obtain⟨⟨tx,ty⟩,ht⟩:∃ t,nextTo l ⟨sx,sy⟩ k=t:=⟨_,rfl⟩;obtain⟨⟨px,py⟩,hpx⟩:∃ t,nth l k=t:=⟨_,rfl⟩;rw [ht] at g5 hst bt;rw [hpx] at f0 f1 hst bp;have HN:Hid (NS w.heap.size b (o+k*2) sx sy tx ty px py w wr):=⟨hb,rfl,g3,g4,g5,hB,f0,f1⟩;clear ht hpx hcc q0 q1 g3 g4 g5 hB f0 f1;unfold far6 at bt bp bs;simp only at bt bp bs;have hcr:=Lib.hid (fun w1=>ZaH sx sy tx ty px py w1 bs.1 bs.2.1 bs.2.2.1 bs.2.2.2 bt.1 bt.2.1 bt.2.2.1 bt.2.2.2 bp.1 bp.2.1 bp.2.2.1 bp.2.2.2)
   have hst2:Hid (wrapStep ⟨sx,sy⟩ ⟨tx,ty⟩ ⟨px,py⟩=if ((⟨tx,ty⟩:Pt)=⟨sx,sy⟩∨turnV sx sy tx ty px py<0∨turnV sx sy tx ty px py=0∧btwB sx sy px py tx ty=true) then ⟨px,py⟩ else ⟨tx,ty⟩):=by
    show _=_
    unfold wrapStep;simp only [ZaS]
    rfl
   rw [hst2.out] at hst;clear hst2 bs bt bp;obtain⟨c,hcv⟩:∃ c,turnV sx sy tx ty px py=c:=⟨_,rfl⟩;rw [hcv] at hcr hst;have hbw:=Lib.hid (fun w1=>Z2M sx sy px py tx ty w1)
   obtain⟨bb,hbb⟩:∃ bb,btwB sx sy px py tx ty=bb:=⟨_,rfl⟩;rw [hbb] at hbw hst;clear hbb;have dk:decide ((k:Int)<(l.length:Int))=true:=by simp;omega
   have kl:(k:Int)<l.length:=by omega
   have k0:(0:Int)≤k:=by omega
   obtain⟨_,_,g3,g4,g5,hB,f0,f1⟩:=HN.out;have l5:=g5.lt;have s0:=Low.fact (g3.cell (i:=0) rfl:wr.cell? ⟨w.heap.size,0,none⟩=some (.int .i64 sx));have s1:=Low.fact (g3.cell (i:=1) rfl:wr.cell? ⟨w.heap.size,1,none⟩=some (.int .i64 sy));have t0:=Low.fact (g5.cell (i:=0) rfl:wr.cell? ⟨w.heap.size+2,0,none⟩=some (.int .i64 tx));have t1:=Low.fact (g5.cell (i:=1) rfl:wr.cell? ⟨w.heap.size+2,1,none⟩=some (.int .i64 ty));have p0:=Low.fact f0;have p1:=Low.fact f1;clear g3 g4 g5 hB f0 f1;rcases (show (tx=sx∧ty=sy)∨(tx=sx∧¬ ty=sy)∨¬ tx=sx by omega) with⟨e1,e2⟩ | hne
   ·obtain rfl:=e1.symm
    obtain rfl:=e2.symm;rw [if_pos (.inl rfl)] at hst;clear hcv;go_wp2
    (refine Ze (by kernel_rfl) (by kernel_rfl) ?_;(iterate 8 (apply Zd;(case hw=>rfl);(case hval=>(intro w1 hw1;have hcx:=Low.cells hw1;simp only [Oper.quietAt];go_simp;first | done | (first | (go_at_call 68;exact Low.calls hw1 (hcr.out _))) | rfl | exact⟨rfl,rfl⟩));simp only [Act.put,zq4,zr4,zs4]));refine wpQuiet_nil ?_;intro w2 hw2)
    have HN2:=Lib.hid (HN.out.below hw2.out);clear s0 s1 t0 t1 p0 p1 hw2 HN l5;have HN:=HN2;clear HN2;generalize w2=X2 at HN ⊢;obtain⟨_,_,g3,g4,g5,hB,f0,f1⟩:=HN.out;have l5:=g5.lt;have s0:=Low.fact (g3.cell (i:=0) rfl:X2.cell? ⟨w.heap.size,0,none⟩=some (.int .i64 sx));have s1:=Low.fact (g3.cell (i:=1) rfl:X2.cell? ⟨w.heap.size,1,none⟩=some (.int .i64 sy));have t0:=Low.fact (g5.cell (i:=0) rfl:X2.cell? ⟨w.heap.size+2,0,none⟩=some (.int .i64 sx));have t1:=Low.fact (g5.cell (i:=1) rfl:X2.cell? ⟨w.heap.size+2,1,none⟩=some (.int .i64 sy));have p0:=Low.fact f0;have p1:=Low.fact f1;clear g3 g4 g5 hB f0 f1;go_wp2
    (refine Ze (by kernel_rfl) (by kernel_rfl) ?_;(iterate 4 (apply Zd;(case hw=>rfl);(case hval=>(intro w1 hw1;have hcx:=Low.cells hw1;simp only [Oper.quietAt];go_simp;first | done | (first | (go_at_call 185;exact Low.calls hw1 (hbw.out _))) | rfl | exact⟨rfl,rfl⟩));simp only [Act.put,zq4,zr4,zs4]));(iterate 2 (apply Zp;(case hw=>rfl);simp only [Act.put,zq4,zr4,zs4]));(iterate 2 (apply Zd;(case hw=>rfl);(case hval=>(intro w1 hw1;have hcx:=Low.cells hw1;simp only [Oper.quietAt];go_simp;first | done | (first | (go_at_call 185;exact Low.calls hw1 (hbw.out _))) | rfl | exact⟨rfl,rfl⟩));simp only [Act.put,zq4,zr4,zs4]));(iterate 11 (apply Zp;(case hw=>rfl);simp only [Act.put,zq4,zr4,zs4]));(iterate 1 (apply Zd;(case hw=>rfl);(case hval=>(intro w1 hw1;have hcx:=Low.cells hw1;simp only [Oper.quietAt];go_simp;first | done | (first | (go_at_call 185;exact Low.calls hw1 (hbw.out _))) | rfl | exact⟨rfl,rfl⟩));simp only [Act.put,zq4,zr4,zs4]));refine wpQuiet_nil ?_;intro w2 hw2)
    have HN3:=Lib.hid (HN.out.below hw2.out);clear s0 s1 t0 t1 p0 p1 hw2 HN l5;obtain⟨h0,hn,g3,g4,g5,hB,f0,f1⟩:=HN3.out;have l5:=g5.lt;have x0:w2.cell? ⟨w.heap.size+2,0,none⟩=some (.int .i64 sx):=g5.cell (i:=0) rfl;have x1:w2.cell? ⟨w.heap.size+2,1,none⟩=some (.int .i64 sy):=g5.cell (i:=1) rfl;have y0:=Zf g5 0;have y1:=Zf g5 1;have HZ:=Lib.hid (And.intro ((g3.other ⟨w.heap.size+2,0,none⟩ (.int .i64 px) (by simp)).other ⟨w.heap.size+2,1,none⟩ (.int .i64 py) (by simp)) (And.intro ((g4.other ⟨w.heap.size+2,0,none⟩ (.int .i64 px) (by simp)).other ⟨w.heap.size+2,1,none⟩ (.int .i64 py) (by simp)) (And.intro ((g5.set 0 (.int .i64 px)).set 1 (.int .i64 py)) ((hB.setCell (p:=⟨w.heap.size+2,0,none⟩) (by simp) (.int .i64 px)).setCell (p:=⟨w.heap.size+2,1,none⟩) (by simp) (.int .i64 py)))))
    clear g3 g4 g5 hB;go_wp2;go_roundw
    case rel=>exact⟨k+1,by omega,by go_num,HZ.out.1,HZ.out.2.1,by rw [hst.out];exact HZ.out.2.2.1,HZ.out.2.2.2⟩
    case measure=>simp [intOf];omega
   ·have hnp:¬ (⟨tx,ty⟩:Pt)=⟨sx,sy⟩:=fun h=>by simp only [Pt.mk.injEq] at h;omega
    rcases (show c<0∨c=0∨0<c by omega) with hc | rfl | hc
    ·rw [if_pos (.inr (.inl hc))] at hst
     have d1:decide (c<0)=true:=by simpa using hc
     clear hnp hc;rcases hne with⟨e1,hne⟩ | hne
     ·obtain rfl:=e1.symm
      clear hcv;go_wp2
      (refine Ze (by kernel_rfl) (by kernel_rfl) ?_;(iterate 8 (apply Zd;(case hw=>rfl);(case hval=>(intro w1 hw1;have hcx:=Low.cells hw1;simp only [Oper.quietAt];go_simp;first | done | (first | (go_at_call 68;exact Low.calls hw1 (hcr.out _))) | rfl | exact⟨rfl,rfl⟩));simp only [Act.put,zq4,zr4,zs4]));refine wpQuiet_nil ?_;intro w2 hw2)
      have HN2:=Lib.hid (HN.out.below hw2.out);clear s0 s1 t0 t1 p0 p1 hw2 HN l5;have HN:=HN2;clear HN2;generalize w2=X2 at HN ⊢;obtain⟨_,_,g3,g4,g5,hB,f0,f1⟩:=HN.out;have l5:=g5.lt;have s0:=Low.fact (g3.cell (i:=0) rfl:X2.cell? ⟨w.heap.size,0,none⟩=some (.int .i64 sx));have s1:=Low.fact (g3.cell (i:=1) rfl:X2.cell? ⟨w.heap.size,1,none⟩=some (.int .i64 sy));have t0:=Low.fact (g5.cell (i:=0) rfl:X2.cell? ⟨w.heap.size+2,0,none⟩=some (.int .i64 sx));have t1:=Low.fact (g5.cell (i:=1) rfl:X2.cell? ⟨w.heap.size+2,1,none⟩=some (.int .i64 ty));have p0:=Low.fact f0;have p1:=Low.fact f1;clear g3 g4 g5 hB f0 f1;go_wp2
      (refine Ze (by kernel_rfl) (by kernel_rfl) ?_;(iterate 8 (apply Zd;(case hw=>rfl);(case hval=>(intro w1 hw1;have hcx:=Low.cells hw1;simp only [Oper.quietAt];go_simp;first | done | (first | (go_at_call 185;exact Low.calls hw1 (hbw.out _))) | rfl | exact⟨rfl,rfl⟩));simp only [Act.put,zq4,zr4,zs4]));(iterate 11 (apply Zp;(case hw=>rfl);simp only [Act.put,zq4,zr4,zs4]));(iterate 1 (apply Zd;(case hw=>rfl);(case hval=>(intro w1 hw1;have hcx:=Low.cells hw1;simp only [Oper.quietAt];go_simp;first | done | (first | (go_at_call 185;exact Low.calls hw1 (hbw.out _))) | rfl | exact⟨rfl,rfl⟩));simp only [Act.put,zq4,zr4,zs4]));refine wpQuiet_nil ?_;intro w2 hw2)
      have HN3:=Lib.hid (HN.out.below hw2.out);clear s0 s1 t0 t1 p0 p1 hw2 HN l5;obtain⟨h0,hn,g3,g4,g5,hB,f0,f1⟩:=HN3.out;have l5:=g5.lt;have x0:w2.cell? ⟨w.heap.size+2,0,none⟩=some (.int .i64 sx):=g5.cell (i:=0) rfl;have x1:w2.cell? ⟨w.heap.size+2,1,none⟩=some (.int .i64 ty):=g5.cell (i:=1) rfl;have y0:=Zf g5 0;have y1:=Zf g5 1;have HZ:=Lib.hid (And.intro ((g3.other ⟨w.heap.size+2,0,none⟩ (.int .i64 px) (by simp)).other ⟨w.heap.size+2,1,none⟩ (.int .i64 py) (by simp)) (And.intro ((g4.other ⟨w.heap.size+2,0,none⟩ (.int .i64 px) (by simp)).other ⟨w.heap.size+2,1,none⟩ (.int .i64 py) (by simp)) (And.intro ((g5.set 0 (.int .i64 px)).set 1 (.int .i64 py)) ((hB.setCell (p:=⟨w.heap.size+2,0,none⟩) (by simp) (.int .i64 px)).setCell (p:=⟨w.heap.size+2,1,none⟩) (by simp) (.int .i64 py)))))
      clear g3 g4 g5 hB;go_wp2;go_roundw
      case rel=>exact⟨k+1,by omega,by go_num,HZ.out.1,HZ.out.2.1,by rw [hst.out];exact HZ.out.2.2.1,HZ.out.2.2.2⟩
      case measure=>simp [intOf];omega
     ·clear hcv
      go_wp2
      (refine Ze (by kernel_rfl) (by kernel_rfl) ?_;(iterate 8 (apply Zd;(case hw=>rfl);(case hval=>(intro w1 hw1;have hcx:=Low.cells hw1;simp only [Oper.quietAt];go_simp;first | done | (first | (go_at_call 68;exact Low.calls hw1 (hcr.out _))) | rfl | exact⟨rfl,rfl⟩));simp only [Act.put,zq4,zr4,zs4]));refine wpQuiet_nil ?_;intro w2 hw2)
      have HN2:=Lib.hid (HN.out.below hw2.out);clear s0 s1 t0 t1 p0 p1 hw2 HN l5;have HN:=HN2;clear HN2;generalize w2=X2 at HN ⊢;obtain⟨_,_,g3,g4,g5,hB,f0,f1⟩:=HN.out;have l5:=g5.lt;have s0:=Low.fact (g3.cell (i:=0) rfl:X2.cell? ⟨w.heap.size,0,none⟩=some (.int .i64 sx));have s1:=Low.fact (g3.cell (i:=1) rfl:X2.cell? ⟨w.heap.size,1,none⟩=some (.int .i64 sy));have t0:=Low.fact (g5.cell (i:=0) rfl:X2.cell? ⟨w.heap.size+2,0,none⟩=some (.int .i64 tx));have t1:=Low.fact (g5.cell (i:=1) rfl:X2.cell? ⟨w.heap.size+2,1,none⟩=some (.int .i64 ty));have p0:=Low.fact f0;have p1:=Low.fact f1;clear g3 g4 g5 hB f0 f1;go_wp2
      (refine Ze (by kernel_rfl) (by kernel_rfl) ?_;(iterate 8 (apply Zd;(case hw=>rfl);(case hval=>(intro w1 hw1;have hcx:=Low.cells hw1;simp only [Oper.quietAt];go_simp;first | done | (first | (go_at_call 185;exact Low.calls hw1 (hbw.out _))) | rfl | exact⟨rfl,rfl⟩));simp only [Act.put,zq4,zr4,zs4]));(iterate 11 (apply Zp;(case hw=>rfl);simp only [Act.put,zq4,zr4,zs4]));(iterate 1 (apply Zd;(case hw=>rfl);(case hval=>(intro w1 hw1;have hcx:=Low.cells hw1;simp only [Oper.quietAt];go_simp;first | done | (first | (go_at_call 185;exact Low.calls hw1 (hbw.out _))) | rfl | exact⟨rfl,rfl⟩));simp only [Act.put,zq4,zr4,zs4]));refine wpQuiet_nil ?_;intro w2 hw2)
      have HN3:=Lib.hid (HN.out.below hw2.out);clear s0 s1 t0 t1 p0 p1 hw2 HN l5;obtain⟨h0,hn,g3,g4,g5,hB,f0,f1⟩:=HN3.out;have l5:=g5.lt;have x0:w2.cell? ⟨w.heap.size+2,0,none⟩=some (.int .i64 tx):=g5.cell (i:=0) rfl;have x1:w2.cell? ⟨w.heap.size+2,1,none⟩=some (.int .i64 ty):=g5.cell (i:=1) rfl;have y0:=Zf g5 0;have y1:=Zf g5 1;have HZ:=Lib.hid (And.intro ((g3.other ⟨w.heap.size+2,0,none⟩ (.int .i64 px) (by simp)).other ⟨w.heap.size+2,1,none⟩ (.int .i64 py) (by simp)) (And.intro ((g4.other ⟨w.heap.size+2,0,none⟩ (.int .i64 px) (by simp)).other ⟨w.heap.size+2,1,none⟩ (.int .i64 py) (by simp)) (And.intro ((g5.set 0 (.int .i64 px)).set 1 (.int .i64 py)) ((hB.setCell (p:=⟨w.heap.size+2,0,none⟩) (by simp) (.int .i64 px)).setCell (p:=⟨w.heap.size+2,1,none⟩) (by simp) (.int .i64 py)))))
      clear g3 g4 g5 hB;go_wp2;go_roundw
      case rel=>exact⟨k+1,by omega,by go_num,HZ.out.1,HZ.out.2.1,by rw [hst.out];exact HZ.out.2.2.1,HZ.out.2.2.2⟩
      case measure=>simp [intOf];omega
    ·have d1:decide ((0:Int)<0)=false:=rfl
     cases bb
     ·rw [if_neg (by rintro (h | h | ⟨_,h⟩);exact hnp h;omega;cases h)] at hst
      clear hnp;rcases hne with⟨e1,hne⟩ | hne
      ·obtain rfl:=e1.symm
       clear hcv;go_wp2
       (refine Ze (by kernel_rfl) (by kernel_rfl) ?_;(iterate 8 (apply Zd;(case hw=>rfl);(case hval=>(intro w1 hw1;have hcx:=Low.cells hw1;simp only [Oper.quietAt];go_simp;first | done | (first | (go_at_call 68;exact Low.calls hw1 (hcr.out _))) | rfl | exact⟨rfl,rfl⟩));simp only [Act.put,zq4,zr4,zs4]));refine wpQuiet_nil ?_;intro w2 hw2)
       have HN2:=Lib.hid (HN.out.below hw2.out);clear s0 s1 t0 t1 p0 p1 hw2 HN l5;have HN:=HN2;clear HN2;generalize w2=X2 at HN ⊢;obtain⟨_,_,g3,g4,g5,hB,f0,f1⟩:=HN.out;have l5:=g5.lt;have s0:=Low.fact (g3.cell (i:=0) rfl:X2.cell? ⟨w.heap.size,0,none⟩=some (.int .i64 sx));have s1:=Low.fact (g3.cell (i:=1) rfl:X2.cell? ⟨w.heap.size,1,none⟩=some (.int .i64 sy));have t0:=Low.fact (g5.cell (i:=0) rfl:X2.cell? ⟨w.heap.size+2,0,none⟩=some (.int .i64 sx));have t1:=Low.fact (g5.cell (i:=1) rfl:X2.cell? ⟨w.heap.size+2,1,none⟩=some (.int .i64 ty));have p0:=Low.fact f0;have p1:=Low.fact f1;clear g3 g4 g5 hB f0 f1;go_wp2
       (refine Ze (by kernel_rfl) (by kernel_rfl) ?_;(iterate 20 (apply Zd;(case hw=>rfl);(case hval=>(intro w1 hw1;have hcx:=Low.cells hw1;simp only [Oper.quietAt];go_simp;first | done | (first | (go_at_call 185;exact Low.calls hw1 (hbw.out _))) | rfl | exact⟨rfl,rfl⟩));simp only [Act.put,zq4,zr4,zs4]));refine wpQuiet_nil ?_;intro w2 hw2)
       have HN3:=Lib.hid (HN.out.below hw2.out);clear s0 s1 t0 t1 p0 p1 hw2 HN l5;obtain⟨h0,hn,g3,g4,g5,hB,f0,f1⟩:=HN3.out;have HZ:=Lib.hid (And.intro g3 (And.intro g4 (And.intro g5 hB)));clear g3 g4 g5 hB f0 f1;go_wp2;go_roundw
       case rel=>exact⟨k+1,by omega,by go_num,HZ.out.1,HZ.out.2.1,by rw [hst.out];exact HZ.out.2.2.1,HZ.out.2.2.2⟩
       case measure=>simp [intOf];omega
      ·clear hcv
       go_wp2
       (refine Ze (by kernel_rfl) (by kernel_rfl) ?_;(iterate 8 (apply Zd;(case hw=>rfl);(case hval=>(intro w1 hw1;have hcx:=Low.cells hw1;simp only [Oper.quietAt];go_simp;first | done | (first | (go_at_call 68;exact Low.calls hw1 (hcr.out _))) | rfl | exact⟨rfl,rfl⟩));simp only [Act.put,zq4,zr4,zs4]));refine wpQuiet_nil ?_;intro w2 hw2)
       have HN2:=Lib.hid (HN.out.below hw2.out);clear s0 s1 t0 t1 p0 p1 hw2 HN l5;have HN:=HN2;clear HN2;generalize w2=X2 at HN ⊢;obtain⟨_,_,g3,g4,g5,hB,f0,f1⟩:=HN.out;have l5:=g5.lt;have s0:=Low.fact (g3.cell (i:=0) rfl:X2.cell? ⟨w.heap.size,0,none⟩=some (.int .i64 sx));have s1:=Low.fact (g3.cell (i:=1) rfl:X2.cell? ⟨w.heap.size,1,none⟩=some (.int .i64 sy));have t0:=Low.fact (g5.cell (i:=0) rfl:X2.cell? ⟨w.heap.size+2,0,none⟩=some (.int .i64 tx));have t1:=Low.fact (g5.cell (i:=1) rfl:X2.cell? ⟨w.heap.size+2,1,none⟩=some (.int .i64 ty));have p0:=Low.fact f0;have p1:=Low.fact f1;clear g3 g4 g5 hB f0 f1;go_wp2
       (refine Ze (by kernel_rfl) (by kernel_rfl) ?_;(iterate 20 (apply Zd;(case hw=>rfl);(case hval=>(intro w1 hw1;have hcx:=Low.cells hw1;simp only [Oper.quietAt];go_simp;first | done | (first | (go_at_call 185;exact Low.calls hw1 (hbw.out _))) | rfl | exact⟨rfl,rfl⟩));simp only [Act.put,zq4,zr4,zs4]));refine wpQuiet_nil ?_;intro w2 hw2)
       have HN3:=Lib.hid (HN.out.below hw2.out);clear s0 s1 t0 t1 p0 p1 hw2 HN l5;obtain⟨h0,hn,g3,g4,g5,hB,f0,f1⟩:=HN3.out;have HZ:=Lib.hid (And.intro g3 (And.intro g4 (And.intro g5 hB)));clear g3 g4 g5 hB f0 f1;go_wp2;go_roundw
       case rel=>exact⟨k+1,by omega,by go_num,HZ.out.1,HZ.out.2.1,by rw [hst.out];exact HZ.out.2.2.1,HZ.out.2.2.2⟩
       case measure=>simp [intOf];omega
     ·rw [if_pos (.inr (.inr ⟨rfl,rfl⟩))] at hst
      clear hnp;rcases hne with⟨e1,hne⟩ | hne
      ·obtain rfl:=e1.symm
       clear hcv;go_wp2
       (refine Ze (by kernel_rfl) (by kernel_rfl) ?_;(iterate 8 (apply Zd;(case hw=>rfl);(case hval=>(intro w1 hw1;have hcx:=Low.cells hw1;simp only [Oper.quietAt];go_simp;first | done | (first | (go_at_call 68;exact Low.calls hw1 (hcr.out _))) | rfl | exact⟨rfl,rfl⟩));simp only [Act.put,zq4,zr4,zs4]));refine wpQuiet_nil ?_;intro w2 hw2)
       have HN2:=Lib.hid (HN.out.below hw2.out);clear s0 s1 t0 t1 p0 p1 hw2 HN l5;have HN:=HN2;clear HN2;generalize w2=X2 at HN ⊢;obtain⟨_,_,g3,g4,g5,hB,f0,f1⟩:=HN.out;have l5:=g5.lt;have s0:=Low.fact (g3.cell (i:=0) rfl:X2.cell? ⟨w.heap.size,0,none⟩=some (.int .i64 sx));have s1:=Low.fact (g3.cell (i:=1) rfl:X2.cell? ⟨w.heap.size,1,none⟩=some (.int .i64 sy));have t0:=Low.fact (g5.cell (i:=0) rfl:X2.cell? ⟨w.heap.size+2,0,none⟩=some (.int .i64 sx));have t1:=Low.fact (g5.cell (i:=1) rfl:X2.cell? ⟨w.heap.size+2,1,none⟩=some (.int .i64 ty));have p0:=Low.fact f0;have p1:=Low.fact f1;clear g3 g4 g5 hB f0 f1;go_wp2
       (refine Ze (by kernel_rfl) (by kernel_rfl) ?_;(iterate 20 (apply Zd;(case hw=>rfl);(case hval=>(intro w1 hw1;have hcx:=Low.cells hw1;simp only [Oper.quietAt];go_simp;first | done | (first | (go_at_call 185;exact Low.calls hw1 (hbw.out _))) | rfl | exact⟨rfl,rfl⟩));simp only [Act.put,zq4,zr4,zs4]));refine wpQuiet_nil ?_;intro w2 hw2)
       have HN3:=Lib.hid (HN.out.below hw2.out);clear s0 s1 t0 t1 p0 p1 hw2 HN l5;obtain⟨h0,hn,g3,g4,g5,hB,f0,f1⟩:=HN3.out;have l5:=g5.lt;have x0:w2.cell? ⟨w.heap.size+2,0,none⟩=some (.int .i64 sx):=g5.cell (i:=0) rfl;have x1:w2.cell? ⟨w.heap.size+2,1,none⟩=some (.int .i64 ty):=g5.cell (i:=1) rfl;have y0:=Zf g5 0;have y1:=Zf g5 1;have HZ:=Lib.hid (And.intro ((g3.other ⟨w.heap.size+2,0,none⟩ (.int .i64 px) (by simp)).other ⟨w.heap.size+2,1,none⟩ (.int .i64 py) (by simp)) (And.intro ((g4.other ⟨w.heap.size+2,0,none⟩ (.int .i64 px) (by simp)).other ⟨w.heap.size+2,1,none⟩ (.int .i64 py) (by simp)) (And.intro ((g5.set 0 (.int .i64 px)).set 1 (.int .i64 py)) ((hB.setCell (p:=⟨w.heap.size+2,0,none⟩) (by simp) (.int .i64 px)).setCell (p:=⟨w.heap.size+2,1,none⟩) (by simp) (.int .i64 py)))))
       clear g3 g4 g5 hB;go_wp2;go_roundw
       case rel=>exact⟨k+1,by omega,by go_num,HZ.out.1,HZ.out.2.1,by rw [hst.out];exact HZ.out.2.2.1,HZ.out.2.2.2⟩
       case measure=>simp [intOf];omega
      ·clear hcv
       go_wp2
       (refine Ze (by kernel_rfl) (by kernel_rfl) ?_;(iterate 8 (apply Zd;(case hw=>rfl);(case hval=>(intro w1 hw1;have hcx:=Low.cells hw1;simp only [Oper.quietAt];go_simp;first | done | (first | (go_at_call 68;exact Low.calls hw1 (hcr.out _))) | rfl | exact⟨rfl,rfl⟩));simp only [Act.put,zq4,zr4,zs4]));refine wpQuiet_nil ?_;intro w2 hw2)
       have HN2:=Lib.hid (HN.out.below hw2.out);clear s0 s1 t0 t1 p0 p1 hw2 HN l5;have HN:=HN2;clear HN2;generalize w2=X2 at HN ⊢;obtain⟨_,_,g3,g4,g5,hB,f0,f1⟩:=HN.out;have l5:=g5.lt;have s0:=Low.fact (g3.cell (i:=0) rfl:X2.cell? ⟨w.heap.size,0,none⟩=some (.int .i64 sx));have s1:=Low.fact (g3.cell (i:=1) rfl:X2.cell? ⟨w.heap.size,1,none⟩=some (.int .i64 sy));have t0:=Low.fact (g5.cell (i:=0) rfl:X2.cell? ⟨w.heap.size+2,0,none⟩=some (.int .i64 tx));have t1:=Low.fact (g5.cell (i:=1) rfl:X2.cell? ⟨w.heap.size+2,1,none⟩=some (.int .i64 ty));have p0:=Low.fact f0;have p1:=Low.fact f1;clear g3 g4 g5 hB f0 f1;go_wp2
       (refine Ze (by kernel_rfl) (by kernel_rfl) ?_;(iterate 20 (apply Zd;(case hw=>rfl);(case hval=>(intro w1 hw1;have hcx:=Low.cells hw1;simp only [Oper.quietAt];go_simp;first | done | (first | (go_at_call 185;exact Low.calls hw1 (hbw.out _))) | rfl | exact⟨rfl,rfl⟩));simp only [Act.put,zq4,zr4,zs4]));refine wpQuiet_nil ?_;intro w2 hw2)
       have HN3:=Lib.hid (HN.out.below hw2.out);clear s0 s1 t0 t1 p0 p1 hw2 HN l5;obtain⟨h0,hn,g3,g4,g5,hB,f0,f1⟩:=HN3.out;have l5:=g5.lt;have x0:w2.cell? ⟨w.heap.size+2,0,none⟩=some (.int .i64 tx):=g5.cell (i:=0) rfl;have x1:w2.cell? ⟨w.heap.size+2,1,none⟩=some (.int .i64 ty):=g5.cell (i:=1) rfl;have y0:=Zf g5 0;have y1:=Zf g5 1;have HZ:=Lib.hid (And.intro ((g3.other ⟨w.heap.size+2,0,none⟩ (.int .i64 px) (by simp)).other ⟨w.heap.size+2,1,none⟩ (.int .i64 py) (by simp)) (And.intro ((g4.other ⟨w.heap.size+2,0,none⟩ (.int .i64 px) (by simp)).other ⟨w.heap.size+2,1,none⟩ (.int .i64 py) (by simp)) (And.intro ((g5.set 0 (.int .i64 px)).set 1 (.int .i64 py)) ((hB.setCell (p:=⟨w.heap.size+2,0,none⟩) (by simp) (.int .i64 px)).setCell (p:=⟨w.heap.size+2,1,none⟩) (by simp) (.int .i64 py)))))
       clear g3 g4 g5 hB;go_wp2;go_roundw
       case rel=>exact⟨k+1,by omega,by go_num,HZ.out.1,HZ.out.2.1,by rw [hst.out];exact HZ.out.2.2.1,HZ.out.2.2.2⟩
       case measure=>simp [intOf];omega
    ·rw [if_neg (by rintro (h | h | ⟨h,_⟩);exact hnp h;omega;omega)] at hst
     have d1:decide (c<0)=false:=by simp;omega
     have d2:(c == 0)=false:=by rw [beq_eq_false_iff_ne];omega
     have d3:¬ c=0:=by omega
     clear hnp hc;rcases hne with⟨e1,hne⟩ | hne
     ·obtain rfl:=e1.symm
      clear hcv;go_wp2
      (refine Ze (by kernel_rfl) (by kernel_rfl) ?_;(iterate 8 (apply Zd;(case hw=>rfl);(case hval=>(intro w1 hw1;have hcx:=Low.cells hw1;simp only [Oper.quietAt];go_simp;first | done | (first | (go_at_call 68;exact Low.calls hw1 (hcr.out _))) | rfl | exact⟨rfl,rfl⟩));simp only [Act.put,zq4,zr4,zs4]));refine wpQuiet_nil ?_;intro w2 hw2)
      have HN2:=Lib.hid (HN.out.below hw2.out);clear s0 s1 t0 t1 p0 p1 hw2 HN l5;have HN:=HN2;clear HN2;generalize w2=X2 at HN ⊢;obtain⟨_,_,g3,g4,g5,hB,f0,f1⟩:=HN.out;have l5:=g5.lt;have s0:=Low.fact (g3.cell (i:=0) rfl:X2.cell? ⟨w.heap.size,0,none⟩=some (.int .i64 sx));have s1:=Low.fact (g3.cell (i:=1) rfl:X2.cell? ⟨w.heap.size,1,none⟩=some (.int .i64 sy));have t0:=Low.fact (g5.cell (i:=0) rfl:X2.cell? ⟨w.heap.size+2,0,none⟩=some (.int .i64 sx));have t1:=Low.fact (g5.cell (i:=1) rfl:X2.cell? ⟨w.heap.size+2,1,none⟩=some (.int .i64 ty));have p0:=Low.fact f0;have p1:=Low.fact f1;clear g3 g4 g5 hB f0 f1;go_wp2
      (refine Ze (by kernel_rfl) (by kernel_rfl) ?_;(iterate 11 (apply Zd;(case hw=>rfl);(case hval=>(intro w1 hw1;have hcx:=Low.cells hw1;simp only [Oper.quietAt];go_simp;first | done | (first | (go_at_call 185;exact Low.calls hw1 (hbw.out _))) | rfl | exact⟨rfl,rfl⟩));simp only [Act.put,zq4,zr4,zs4]));(iterate 7 (apply Zp;(case hw=>rfl);simp only [Act.put,zq4,zr4,zs4]));(iterate 2 (apply Zd;(case hw=>rfl);(case hval=>(intro w1 hw1;have hcx:=Low.cells hw1;simp only [Oper.quietAt];go_simp;first | done | (first | (go_at_call 185;exact Low.calls hw1 (hbw.out _))) | rfl | exact⟨rfl,rfl⟩));simp only [Act.put,zq4,zr4,zs4]));refine wpQuiet_nil ?_;intro w2 hw2)
      have HN3:=Lib.hid (HN.out.below hw2.out);clear s0 s1 t0 t1 p0 p1 hw2 HN l5;obtain⟨h0,hn,g3,g4,g5,hB,f0,f1⟩:=HN3.out;have HZ:=Lib.hid (And.intro g3 (And.intro g4 (And.intro g5 hB)));clear g3 g4 g5 hB f0 f1;go_wp2;go_roundw
      case rel=>exact⟨k+1,by omega,by go_num,HZ.out.1,HZ.out.2.1,by rw [hst.out];exact HZ.out.2.2.1,HZ.out.2.2.2⟩
      case measure=>simp [intOf];omega
     ·clear hcv
      go_wp2
      (refine Ze (by kernel_rfl) (by kernel_rfl) ?_;(iterate 8 (apply Zd;(case hw=>rfl);(case hval=>(intro w1 hw1;have hcx:=Low.cells hw1;simp only [Oper.quietAt];go_simp;first | done | (first | (go_at_call 68;exact Low.calls hw1 (hcr.out _))) | rfl | exact⟨rfl,rfl⟩));simp only [Act.put,zq4,zr4,zs4]));refine wpQuiet_nil ?_;intro w2 hw2)
      have HN2:=Lib.hid (HN.out.below hw2.out);clear s0 s1 t0 t1 p0 p1 hw2 HN l5;have HN:=HN2;clear HN2;generalize w2=X2 at HN ⊢;obtain⟨_,_,g3,g4,g5,hB,f0,f1⟩:=HN.out;have l5:=g5.lt;have s0:=Low.fact (g3.cell (i:=0) rfl:X2.cell? ⟨w.heap.size,0,none⟩=some (.int .i64 sx));have s1:=Low.fact (g3.cell (i:=1) rfl:X2.cell? ⟨w.heap.size,1,none⟩=some (.int .i64 sy));have t0:=Low.fact (g5.cell (i:=0) rfl:X2.cell? ⟨w.heap.size+2,0,none⟩=some (.int .i64 tx));have t1:=Low.fact (g5.cell (i:=1) rfl:X2.cell? ⟨w.heap.size+2,1,none⟩=some (.int .i64 ty));have p0:=Low.fact f0;have p1:=Low.fact f1;clear g3 g4 g5 hB f0 f1;go_wp2
      (refine Ze (by kernel_rfl) (by kernel_rfl) ?_;(iterate 11 (apply Zd;(case hw=>rfl);(case hval=>(intro w1 hw1;have hcx:=Low.cells hw1;simp only [Oper.quietAt];go_simp;first | done | (first | (go_at_call 185;exact Low.calls hw1 (hbw.out _))) | rfl | exact⟨rfl,rfl⟩));simp only [Act.put,zq4,zr4,zs4]));(iterate 7 (apply Zp;(case hw=>rfl);simp only [Act.put,zq4,zr4,zs4]));(iterate 2 (apply Zd;(case hw=>rfl);(case hval=>(intro w1 hw1;have hcx:=Low.cells hw1;simp only [Oper.quietAt];go_simp;first | done | (first | (go_at_call 185;exact Low.calls hw1 (hbw.out _))) | rfl | exact⟨rfl,rfl⟩));simp only [Act.put,zq4,zr4,zs4]));refine wpQuiet_nil ?_;intro w2 hw2)
      have HN3:=Lib.hid (HN.out.below hw2.out);clear s0 s1 t0 t1 p0 p1 hw2 HN l5;obtain⟨h0,hn,g3,g4,g5,hB,f0,f1⟩:=HN3.out;have HZ:=Lib.hid (And.intro g3 (And.intro g4 (And.intro g5 hB)));clear g3 g4 g5 hB f0 f1;go_wp2;go_roundw
      case rel=>exact⟨k+1,by omega,by go_num,HZ.out.1,HZ.out.2.1,by rw [hst.out];exact HZ.out.2.2.1,HZ.out.2.2.2⟩
      case measure=>simp [intOf];omega
  ·obtain rfl:k=l.length:=by omega
   have dk:decide ((l.length:Int)<(l.length:Int))=false:=by simp
   obtain⟨mx,hmx⟩:∃ mx,(nextTo l ⟨sx,sy⟩ l.length).x=mx:=⟨_,rfl⟩;obtain⟨my,hmy⟩:∃ my,(nextTo l ⟨sx,sy⟩ l.length).y=my:=⟨_,rfl⟩;rw [hmx,hmy] at g5;have HM:=Lib.hid (And.intro hmx hmy);clear hmx hmy;have m0:wr.cell? ⟨w.heap.size+2,0,none⟩=some (.int .i64 mx):=g5.cell (i:=0) rfl;have m1:wr.cell? ⟨w.heap.size+2,1,none⟩=some (.int .i64 my):=g5.cell (i:=1) rfl;have x0:wr.cell? ⟨w.heap.size+1,0,none⟩=some (.int .i64 0):=g4.cell (i:=0) rfl;have x1:wr.cell? ⟨w.heap.size+1,1,none⟩=some (.int .i64 0):=g4.cell (i:=1) rfl;have y0:=Zf g4 0;have y1:=Zf g4 1;have HZ:=(g4.set 0 (.int .i64 mx)).set 1 (.int .i64 my);have z0:((wr.setCell ⟨w.heap.size+1,0,none⟩ (.int .i64 mx)).setCell ⟨w.heap.size+1,1,none⟩ (.int .i64 my)).cell? ⟨w.heap.size+1,0,none⟩=some (.int .i64 mx):=HZ.cell (i:=0) rfl;have z1:((wr.setCell ⟨w.heap.size+1,0,none⟩ (.int .i64 mx)).setCell ⟨w.heap.size+1,1,none⟩ (.int .i64 my)).cell? ⟨w.heap.size+1,1,none⟩=some (.int .i64 my):=HZ.cell (i:=1) rfl;have BB:=Lib.hid ((hB.setCell (p:=⟨w.heap.size+1,0,none⟩) (by simp) (.int .i64 mx)).setCell (p:=⟨w.heap.size+1,1,none⟩) (by simp) (.int .i64 my))
   clear HZ g3 g4 g5 hB;go_wp2;exact bodyPost_ret (v:=.agg #[.int .i64 mx,.int .i64 my]) (by simp [results,Tryz.f168,go_sem,z0,z1]) rfl ⟨by unfold nextP;rw [HM.out.1,HM.out.2],BB.out⟩
theorem Z7F (v : Value) (l : List Pt) (w : World) (hp : Z8 w.heap.size w v l) (h1 : 0 < l.length) :
  Calls Tryz.prog 167 #[v] w fun e w'=>e=.returned (.agg #[.int .i64 (leastP l).x,.int .i64 (leastP l).y])∧Below w.heap.size w w':=by
 obtain⟨hll,a,cap,rfl,hc⟩:=hp;obtain⟨b,o,rfl,hb,hc⟩:=hc.resolve_left (by intro h;rw [h] at h1;simp at h1)
 obtain⟨q0,q1⟩:=hc 0 h1;rw [Nat.zero_mul,Nat.add_zero] at q0 q1;have hA:=(Below.refl w.heap.size w).alloc (Nat.le_refl _) (.cells #[.int .i64 0,.int .i64 0] 41);have e0:=(hA.cell (p:=⟨b,o,none⟩) hb).trans q0;have e1:=(hA.cell (p:=⟨b,o+1,none⟩) hb).trans q1;have HC:=Lib.hid hc;have i0:(0:Int)<l.length:=by omega
 have h4:=(Has.new w #[.int .i64 0,.int .i64 0] 41).below ((Below.refl (w.heap.size+1) _).alloc (by simp) (.cells #[.int .i64 (nth l 0).x,.int .i64 (nth l 0).y] 41)) (by omega)
 have h5:=Has.new (w.alloc (.cells #[.int .i64 0,.int .i64 0] 41)) #[.int .i64 (nth l 0).x,.int .i64 (nth l 0).y] 41;rw [World.size_alloc] at h5;have hB:=hA.alloc hA.size (.cells #[.int .i64 (nth l 0).x,.int .i64 (nth l 0).y] 41);have HS:=Lib.hid (And.intro h4 (And.intro h5 hB));clear hc q0 q1 h4 h5 hB hA;go_enter Tryz.func167,Tryz.ntmps167;go_wp2
 go_loopw [4] (fun i wr=>∃ k:Nat,k<l.length∧i=.int .i64 ((k:Int)+1)∧Has wr w.heap.size #[.int .i64 0,.int .i64 0] 41∧Has wr (w.heap.size+1) #[.int .i64 (leastTo l (k+1)).x,.int .i64 (leastTo l (k+1)).y] 41∧Below w.heap.size w wr) (fun i _=>l.length+1-(intOf i).toNat)
 case atStart=>exact⟨0,h1,rfl,HS.out.1,by rw [show leastTo l (0+1)=nth l 0 from ite_self _];exact HS.out.2.1,HS.out.2.2⟩
 case round =>
  obtain⟨k,hk,rfl,g4,g5,hB⟩:=hrel;have hzB:=hB.size;have l5:=g5.lt;by_cases hlt:k+1<l.length
  ·obtain⟨q0,q1⟩:=HC.out (k+1) hlt
   have f0:=(hB.cell (p:=⟨b,o+(k+1)*2,none⟩) hb).trans q0;have f1:=(hB.cell (p:=⟨b,o+(k+1)*2+1,none⟩) hb).trans q1;have hst:Hid (leastTo l (k+1+1)=if LexLt (nth l (k+1)) (leastTo l (k+1)) then nth l (k+1) else leastTo l (k+1)):=rfl
   obtain⟨⟨mx,my⟩,hm⟩:∃ t,leastTo l (k+1)=t:=⟨_,rfl⟩;obtain⟨⟨px,py⟩,hpx⟩:∃ t,nth l (k+1)=t:=⟨_,rfl⟩;rw [hm] at g5 hst;rw [hpx] at f0 f1 hst;simp only at g5 f0 f1;clear hm hpx q0 q1;have dk:decide ((k:Int)+1<(l.length:Int))=true:=by simp;omega
   have kl:(k:Int)+1<l.length:=by omega
   have k0:(0:Int)≤(k:Int)+1:=by omega
   have kn:((k:Int)+1).toNat=k+1:=by omega
   have HG:=Lib.hid (And.intro g4 (And.intro g5 hB));have m0:=Low.fact (g5.cell (i:=0) rfl:wr.cell? ⟨w.heap.size+1,0,none⟩=some (.int .i64 mx));have m1:=Low.fact (g5.cell (i:=1) rfl:wr.cell? ⟨w.heap.size+1,1,none⟩=some (.int .i64 my));have p0:=Low.fact f0;have p1:=Low.fact f1;clear g4 g5 hB;have hcm:=Lib.hid (fun w1=>Z34 px py mx my w1)
   obtain⟨bb,hbb⟩:∃ bb,lessB px py mx my=bb:=⟨_,rfl⟩;have hbi:=Z8T (ax:=px) (ay:=py) (bx:=mx) (by':=my)
   rw [hbb] at hcm hbi;clear hbb;cases bb
   ·rw [if_neg (fun h=>by have:=hbi.2 h;cases this)] at hst
    clear hbi;go_wp2
    (refine Ze (by kernel_rfl) (by kernel_rfl) ?_;(iterate 6 (apply Zd;(case hw=>rfl);(case hval=>(intro w1 hw1;have hcx:=Low.cells hw1;simp only [Oper.quietAt];go_simp;first | done | (first | (go_at_call 67;exact Low.calls hw1 (hcm.out _))) | rfl | exact⟨rfl,rfl⟩));simp only [Act.put,zq4,zr4,zs4]));refine wpQuiet_nil ?_;intro w2 hw2)
    obtain⟨g4,g5,hB⟩:=HG.out;have HZ:=Lib.hid (And.intro (g4.below hw2.out (by omega)) (And.intro (g5.below hw2.out (by omega)) (hB.trans (hw2.out.mono (by omega)))))
    clear g4 g5 hB hw2 m0 m1 p0 p1 f0 f1;go_wp2;go_roundw
    case rel=>exact⟨k+1,hlt,by go_num,HZ.out.1,by rw [hst.out];exact HZ.out.2.1,HZ.out.2.2⟩
    case measure=>simp [intOf];omega
   ·rw [if_pos (hbi.1 rfl)] at hst
    clear hbi;go_wp2
    (refine Ze (by kernel_rfl) (by kernel_rfl) ?_;(iterate 6 (apply Zd;(case hw=>rfl);(case hval=>(intro w1 hw1;have hcx:=Low.cells hw1;simp only [Oper.quietAt];go_simp;first | done | (first | (go_at_call 67;exact Low.calls hw1 (hcm.out _))) | rfl | exact⟨rfl,rfl⟩));simp only [Act.put,zq4,zr4,zs4]));refine wpQuiet_nil ?_;intro w2 hw2)
    obtain⟨g4,g5,hB⟩:=HG.out;have G4:=g4.below hw2.out (by omega)
    have G5:=g5.below hw2.out (by omega)
    have B2:=hB.trans (hw2.out.mono (by omega))
    have x0:w2.cell? ⟨w.heap.size+1,0,none⟩=some (.int .i64 mx):=G5.cell (i:=0) rfl;have x1:w2.cell? ⟨w.heap.size+1,1,none⟩=some (.int .i64 my):=G5.cell (i:=1) rfl;have y0:=Zf G5 0;have y1:=Zf G5 1;have r0:=(hw2.out.cell (p:=⟨b,o+(k+1)*2,none⟩) (by show b<wr.heap.size;omega)).trans f0
    have r1:=(hw2.out.cell (p:=⟨b,o+(k+1)*2+1,none⟩) (by show b<wr.heap.size;omega)).trans f1
    have HZ:=Lib.hid (And.intro (((G4.other ⟨w.heap.size+1,0,none⟩ (.int .i64 px) (by simp)).other ⟨w.heap.size+1,1,none⟩ (.int .i64 py) (by simp))) (And.intro ((G5.set 0 (.int .i64 px)).set 1 (.int .i64 py)) ((B2.setCell (p:=⟨w.heap.size+1,0,none⟩) (by simp) (.int .i64 px)).setCell (p:=⟨w.heap.size+1,1,none⟩) (by simp) (.int .i64 py))))
    clear G4 G5 B2 g4 g5 hB hw2 m0 m1 p0 p1 f0 f1;go_wp2;go_roundw
    case rel=>exact⟨k+1,hlt,by go_num,HZ.out.1,by rw [hst.out];exact HZ.out.2.1,HZ.out.2.2⟩
    case measure=>simp [intOf];omega
  ·obtain rfl:k=l.length-1:=by omega
   have dk:decide (((l.length-1:Nat):Int)+1<(l.length:Int))=false:=by simp;omega
   have hle:leastTo l (l.length-1+1)=leastP l:=by unfold leastP;congr 1;omega
   rw [hle] at g5;obtain⟨mx,hmx⟩:∃ mx,(leastP l).x=mx:=⟨_,rfl⟩;obtain⟨my,hmy⟩:∃ my,(leastP l).y=my:=⟨_,rfl⟩;rw [hmx,hmy] at g5;have HM:=Lib.hid (And.intro hmx hmy);clear hmx hmy hle;have m0:wr.cell? ⟨w.heap.size+1,0,none⟩=some (.int .i64 mx):=g5.cell (i:=0) rfl;have m1:wr.cell? ⟨w.heap.size+1,1,none⟩=some (.int .i64 my):=g5.cell (i:=1) rfl;have x0:wr.cell? ⟨w.heap.size,0,none⟩=some (.int .i64 0):=g4.cell (i:=0) rfl;have x1:wr.cell? ⟨w.heap.size,1,none⟩=some (.int .i64 0):=g4.cell (i:=1) rfl;have y0:=Zf g4 0;have y1:=Zf g4 1;have HZ:=(g4.set 0 (.int .i64 mx)).set 1 (.int .i64 my);have z0:((wr.setCell ⟨w.heap.size,0,none⟩ (.int .i64 mx)).setCell ⟨w.heap.size,1,none⟩ (.int .i64 my)).cell? ⟨w.heap.size,0,none⟩=some (.int .i64 mx):=HZ.cell (i:=0) rfl;have z1:((wr.setCell ⟨w.heap.size,0,none⟩ (.int .i64 mx)).setCell ⟨w.heap.size,1,none⟩ (.int .i64 my)).cell? ⟨w.heap.size,1,none⟩=some (.int .i64 my):=HZ.cell (i:=1) rfl;have BB:=Lib.hid ((hB.setCell (p:=⟨w.heap.size,0,none⟩) (by simp) (.int .i64 mx)).setCell (p:=⟨w.heap.size,1,none⟩) (by simp) (.int .i64 my))
   clear HZ g4 g5 hB;go_wp2;exact bodyPost_ret (v:=.agg #[.int .i64 mx,.int .i64 my]) (by simp [results,Tryz.f167,go_sem,z0,z1]) rfl ⟨by rw [HM.out.1,HM.out.2],BB.out⟩
end
def wideN (n:Nat):Nat:=if isqrt (2*n*n)*isqrt (2*n*n)=2*n*n then isqrt (2*n*n) else isqrt (2*n*n)+1
theorem Z1k (n:Nat):2*n*n≤wideN n*wideN n∧∀ m,m<wideN n→m*m<2*n*n:=by
 have h:=ZX (2*n*n);unfold wideN;generalize isqrt (2*n*n)=r at *;generalize 2*n*n=q at *
 split
 ·refine⟨by omega,fun m hm=>?_⟩
  have:=Nat.mul_lt_mul'' hm hm;omega
 ·refine⟨by omega,fun m hm=>?_⟩
  have:=Nat.mul_le_mul (show m≤r by omega) (show m≤r by omega)
  omega
theorem Z9W {n m:Nat} (h:2*n*n≤m*m):wideN n≤m:=by
 rcases Nat.lt_or_ge m (wideN n) with h' | h'
 ·have:=(Z1k n).2 m h';omega
 ·exact h'
theorem Z2F (n:Nat):n≤wideN n:=by
 rcases Nat.lt_or_ge (wideN n) n with h' | h'
 ·have:=(Z1k n).1
  have b:=Nat.mul_lt_mul'' h' h';rw [Nat.mul_assoc] at this;omega
 ·exact h'
theorem Z1L (n:Nat):wideN n≤2*n:=Z9W (by
 have:2*n*(2*n)=2*(2*n*n):=by grind
 omega)
def octK (n:Nat):Int:=(wideN n:Int)-n
theorem Z4z (n:Nat):0≤octK n∧octK n≤n:=by
 have:=Z2F n;have:=Z1L n;unfold octK;omega
theorem Z1Y {l h:List Pt} (k:HullOf l h) {i:Nat} (hi:i<h.length):nth h i ∈ l:=by
 by_cases h0:i=0
 ·subst h0
  by_cases hl:l=[]
  ·rw [k.none hl] at hi;simp at hi
  ·exact (k.first hl).1
 ·have:=k.next (i-1) (by omega)
  rw [show i-1+1=i by omega,Nat.mod_eq_of_lt hi] at this
  exact this.1
theorem Z9K {a b:Pt}:cmpP a b<0↔LexLt a b:=by
 unfold cmpP LexLt cmpV orI cmpI
 repeat' split
 all_goals omega
theorem Z46 {l h : List Pt} (k : HullOf l h) (hl : l ≠ []) (h64 : h.length ≤ 64) (hp : ∀ x, x ∈ l → Z4 x = true) : GoValid h := by
 have lex:∀ i,0<i→i<h.length→LexLt (nth h 0) (nth h i):=fun i h0 hi=>by
  have:=(k.first hl).2 _ (Z1Y k hi)
  rcases LexLt.tri (nth h 0) (nth h i) with c | c | c
  ·exact c
  ·exact absurd c.symm (k.back i h0 hi)
  ·exact absurd c this
 refine⟨k.some hl,h64,fun i hi=>⟨hp _ (Z1Y k hi),fun h0=>Z9K.2 (lex i h0 hi)⟩,fun h3 i hi j hj n1 n2=>?_⟩
 have a:=(k.next i hi).2.2 _ (Z1Y k hj);unfold sideP at n1 n2 ⊢;simp only at n1 n2 ⊢;rcases Int.lt_or_le 0 (Z6 (nth h i) (nth h ((i+1) % h.length)) (nth h j)) with c | c
 ·exact c
 ·exfalso
  have z:Z6 (nth h i) (nth h ((i+1) % h.length)) (nth h j)=0:=by omega
  have bt:=a.2 z;have mi:=Z1Y k hi;have mi':=Z1Y k (Nat.mod_lt (i+1) (by omega):(i+1) % h.length<h.length)
  have nj:=k.next j hj;have bi:=nj.2.2 _ mi;have bi':=nj.2.2 _ mi';have ne:nth h j≠nth h ((j+1) % h.length):=fun e=>by
   have all:=nj.2.1 e.symm;exact n1 (all _ mi).symm
  generalize nth h i=p at *;generalize nth h ((i+1) % h.length)=q at *;generalize nth h j=x at *;generalize nth h ((j+1) % h.length)=t at *;clear nj mi mi' a c k lex;have hpq:∃ m n:Int,0<m∧0<n∧m*(p.x-x.x)+n*(q.x-x.x)=0∧m*(p.y-x.y)+n*(q.y-x.y)=0:=by
   unfold Btw at bt;have n1':¬ (x.x=p.x∧x.y=p.y):=fun e=>n1 (Pt.ext' e.1 e.2)
   have n2':¬ (x.x=q.x∧x.y=q.y):=fun e=>n2 (Pt.ext' e.1 e.2)
   unfold Z6 turnV at z;by_cases hx:x.x=p.x
   ·have z1:(q.x-p.x)*(x.y-p.y)=0:=by rw [hx] at z;grind
    have z2:q.x=p.x:=by have:=(Int.mul_eq_zero.1 z1).resolve_right (by omega);omega
    have e1:p.x-x.x=0:=by omega
    have e2:q.x-x.x=0:=by omega
    rw [e1,e2];rcases Int.lt_or_le p.y x.y with c | c
    ·exact⟨q.y-x.y,x.y-p.y,by omega,by omega,by omega,by grind⟩
    ·exact⟨x.y-q.y,p.y-x.y,by omega,by omega,by omega,by grind⟩
   ·by_cases hx2:x.x=q.x
    ·have z1:(q.x-p.x)*(x.y-q.y)=0:=by rw [hx2] at z;grind
     have:=(Int.mul_eq_zero.1 z1).resolve_left (by omega)
     omega
    ·rcases Int.lt_or_le p.x x.x with c | c
     ·exact⟨q.x-x.x,x.x-p.x,by omega,by omega,by grind,by grind⟩
     ·exact⟨x.x-q.x,p.x-x.x,by omega,by omega,by grind,by grind⟩
  obtain⟨m,n,hm,hn,ex,ey⟩:=hpq;have lin:m*Z6 x t p+n*Z6 x t q=0:=by
   have:m*Z6 x t p+n*Z6 x t q=(t.x-x.x)*(m*(p.y-x.y)+n*(q.y-x.y))-(t.y-x.y)*(m*(p.x-x.x)+n*(q.x-x.x)):=by unfold Z6 turnV;grind
   rw [this,ex,ey];simp
  have u1:=Int.mul_nonneg (Int.le_of_lt hm) bi.1;have u2:=Int.mul_nonneg (Int.le_of_lt hn) bi'.1;have z1:Z6 x t p=0:=(Int.mul_eq_zero.1 (show m*Z6 x t p=0 by omega)).resolve_left (by omega)
  have z2:Z6 x t q=0:=(Int.mul_eq_zero.1 (show n*Z6 x t q=0 by omega)).resolve_left (by omega)
  have b1:=bi.2 z1;have b2:=bi'.2 z2;have d1:0≤(t.x-x.x)*(p.x-x.x):=by
   unfold Btw at b1;rcases Int.le_total x.x t.x with c | c
   ·exact Int.mul_nonneg (by omega) (by omega)
   ·have:=Int.mul_nonneg (show 0≤-(t.x-x.x) by omega) (show 0≤-(p.x-x.x) by omega);rwa [Int.neg_mul_neg] at this
  have d2:0≤(t.x-x.x)*(q.x-x.x):=by
   unfold Btw at b2;rcases Int.le_total x.x t.x with c | c
   ·exact Int.mul_nonneg (by omega) (by omega)
   ·have:=Int.mul_nonneg (show 0≤-(t.x-x.x) by omega) (show 0≤-(q.x-x.x) by omega);rwa [Int.neg_mul_neg] at this
  have d3:0≤(t.y-x.y)*(p.y-x.y):=by
   unfold Btw at b1;rcases Int.le_total x.y t.y with c | c
   ·exact Int.mul_nonneg (by omega) (by omega)
   ·have:=Int.mul_nonneg (show 0≤-(t.y-x.y) by omega) (show 0≤-(p.y-x.y) by omega);rwa [Int.neg_mul_neg] at this
  have d4:0≤(t.y-x.y)*(q.y-x.y):=by
   unfold Btw at b2;rcases Int.le_total x.y t.y with c | c
   ·exact Int.mul_nonneg (by omega) (by omega)
   ·have:=Int.mul_nonneg (show 0≤-(t.y-x.y) by omega) (show 0≤-(q.y-x.y) by omega);rwa [Int.neg_mul_neg] at this
  have s1:m*((t.x-x.x)*(p.x-x.x))+n*((t.x-x.x)*(q.x-x.x))=0:=by
   have:m*((t.x-x.x)*(p.x-x.x))+n*((t.x-x.x)*(q.x-x.x))=(t.x-x.x)*(m*(p.x-x.x)+n*(q.x-x.x)):=by grind
   rw [this,ex,Int.mul_zero]
  have s2:m*((t.y-x.y)*(p.y-x.y))+n*((t.y-x.y)*(q.y-x.y))=0:=by
   have:m*((t.y-x.y)*(p.y-x.y))+n*((t.y-x.y)*(q.y-x.y))=(t.y-x.y)*(m*(p.y-x.y)+n*(q.y-x.y)):=by grind
   rw [this,ey,Int.mul_zero]
  have v1:=Int.mul_nonneg (Int.le_of_lt hm) d1;have v2:=Int.mul_nonneg (Int.le_of_lt hn) d2;have v3:=Int.mul_nonneg (Int.le_of_lt hm) d3;have v4:=Int.mul_nonneg (Int.le_of_lt hn) d4;have w1:(t.x-x.x)*(p.x-x.x)=0:=(Int.mul_eq_zero.1 (show m*((t.x-x.x)*(p.x-x.x))=0 by omega)).resolve_left (by omega)
  have w3:(t.y-x.y)*(p.y-x.y)=0:=(Int.mul_eq_zero.1 (show m*((t.y-x.y)*(p.y-x.y))=0 by omega)).resolve_left (by omega)
  have hne:¬ (t.x=x.x∧t.y=x.y):=fun e=>ne (Pt.ext' e.1.symm e.2.symm)
  have hpx:¬ (p.x=x.x∧p.y=x.y):=fun e=>n1 (Pt.ext' e.1.symm e.2.symm)
  unfold Z6 turnV at z1;rcases Int.mul_eq_zero.1 w1 with c | c
  ·have c3:=(Int.mul_eq_zero.1 w3).resolve_left (by omega)
   rw [c,c3] at z1;have z1':(t.y-x.y)*(p.x-x.x)=0:=by grind
   have:=(Int.mul_eq_zero.1 z1').resolve_left (by omega)
   omega
  ·have c3:t.y-x.y=0:=(Int.mul_eq_zero.1 w3).resolve_right (by omega)
   rw [c,c3] at z1;have z1':(t.x-x.x)*(p.y-x.y)=0:=by grind
   have:=(Int.mul_eq_zero.1 z1').resolve_left (by omega)
   omega
section
attribute [local irreducible] wpQuiet
open Go.RowKit
def lenOf:Value→Nat
 | .slice _ n _=>n
 | _=>0
theorem Z7s (f:Nat→Pt) (k:Nat):(List.range (k+1)).map f=(List.range k).map f++[f k]:=by simp [List.range_succ]
def AS (F B:Nat) (fx fy tx ty:Int) (k:Nat) (xs:List Value) (out:Value) (w wr:World):Prop :=
 w.heap.size≤B∧B<wr.heap.size∧w.heap.size≤F∧F<wr.heap.size∧B≠F∧out.ownBlock≠some B∧Has wr F #[.int .i64 fx,.int .i64 fy] 41∧Has wr B #[.int .i64 tx,.int .i64 ty] 41 ∧
 wr.ownsRow (F+1) 41 2 out k xs∧Below w.heap.size w wr
theorem Has.kept {W W':World} {B:Nat} {cs:Array Value} {t:TypeId} {row:Option Nat} (h:Has W B cs t) (hg:W.grownBy W' row) (hne:row≠some B):Has W' B cs t :=
 (hg.block B h.lt (fun e=>hne e.symm)).trans h
theorem Z4r {W:World} {base k size:Nat} {e:TypeId} {v:Value} {xs:List Value} (h:W.ownsRow base e size v k xs):lenOf v=k:=by
 rcases h.2 with⟨rfl,h0⟩ | ⟨g,cap,cur,rfl,_⟩
 ·exact h0.symm
 ·rfl
theorem Z4i (v : Value) (l : List Pt) (w : World) (hp : Z8 w.heap.size w v l) (hl : ∀ k, k < l.length → far6 (nth l k)) (hsz : l.length ≤ 1000000) :
  Calls Tryz.prog 151 #[v] w (PtsN (hullP l) w):=by
 by_cases h0:l=[]
 ·subst h0
  obtain⟨a,cap,rfl⟩:=hp.len;have e:hullP []=[]:=((Z0G []).none rfl);rw [e];clear e hp hl;go_enter Tryz.func151,Tryz.ntmps151;go_wp2;go_ret;exact⟨_,rfl,Z8.nil _ _,Below.refl _ _,NewI.nil _⟩
 have h1:0<l.length:=List.length_pos_iff.2 h0;have hm:=Z2b (l:=l) h1;have hle:=Z3f (l:=l);obtain⟨N,n1,n2,n3,n4⟩:=Z3F hm hle;have HH:=Lib.hid ((Z20 (Z5f hm hle n1 n3 n4)).symm);have hwl:∀ k,far6 (walkP l (leastP l) k):=fun k=>by
  obtain⟨j,hj,e⟩:=mem_nth' (Z1z hm hle k).1;rw [← e];exact hl j hj
 have c1:=Lib.hid (Z7F v l w hp h1);have c2:=Lib.hid (fun (W:World) (B:Below w.heap.size w W) (t:Pt) (ht:far6 t)=>Zak v l t W ((hp.below B).mono B.size) hl ht)
 obtain⟨a,cap,rfl⟩:=hp.len;obtain⟨⟨fx,fy⟩,hf⟩:∃ f,leastP l=f:=⟨_,rfl⟩;rw [hf] at HH hwl c1 n3 n4;have HW:=Lib.hid hwl;have HN:=Lib.hid (And.intro n3 n4);have dl:((l.length:Int) == 0)=false:=by rw [beq_eq_false_iff_ne];omega
 clear hp hl hm hle hf hwl n3 n4;go_enter Tryz.func151,Tryz.ntmps151;go_wp2_with fail;refine c1.out.mono ?_;rintro e w1 ⟨rfl,b1⟩;have z1:=b1.size;have f0:=Has.new w1 #[.int .i64 fx,.int .i64 fy] 41;have A1:=(Below.refl w1.heap.size w1).alloc (Nat.le_refl _) (.cells #[.int .i64 fx,.int .i64 fy] 41);have sz1:(w1.alloc (.cells #[.int .i64 fx,.int .i64 fy] 41)).heap.size=w1.heap.size+1:=by simp
 have f1:=f0.below ((Below.refl (w1.heap.size+1) _).alloc (by simp) (.cells #[.int .i64 fx,.int .i64 fy] 41)) (by omega)
 have r1:((w1.alloc (.cells #[.int .i64 fx,.int .i64 fy] 41)).alloc (.cells #[.int .i64 fx,.int .i64 fy] 41)).ownsRow (w1.heap.size+1) 41 2 (.slice (some ⟨w1.heap.size+1,0,none⟩) 1 1) 1 [.int .i64 fx,.int .i64 fy]:=by
  have:=World.ownsRow_lit (base:=w1.heap.size+1) (e:=41) (size:=2) (w1.alloc (.cells #[.int .i64 fx,.int .i64 fy] 41)) #[.int .i64 fx,.int .i64 fy] 1 (by simp) (by unfold maxLen;omega) rfl
  rwa [sz1] at this
 have B2:=(b1.trans (A1.mono z1)).trans (((Below.refl _ (w1.alloc (.cells #[.int .i64 fx,.int .i64 fy] 41))).alloc (Nat.le_refl _) (.cells #[.int .i64 fx,.int .i64 fy] 41)).mono (by rw [sz1];omega):Below w.heap.size _ _)
 have c0:=f0.cell (i:=0) rfl;have c0':=f0.cell (i:=1) rfl;have c3:=f1.cell (i:=0) rfl;have c4:=f1.cell (i:=1) rfl;have F1:=Lib.hid (And.intro f1 (And.intro r1 B2));have zF:w.heap.size≤w1.heap.size:=z1;have zT:w1.heap.size+1<((w1.alloc (.cells #[.int .i64 fx,.int .i64 fy] 41)).alloc (.cells #[.int .i64 fx,.int .i64 fy] 41)).heap.size:=by simp
 clear b1 A1 f0 f1 r1 B2 sz1;go_wp2_with fail;generalize (w1.alloc (.cells #[.int .i64 fx,.int .i64 fy] 41)).alloc (.cells #[.int .i64 fx,.int .i64 fy] 41)=W2 at *;have d2:=c2.out W2 F1.out.2.2 ⟨fx,fy⟩ (HW.out 0);refine d2.mono ?_;rintro e w3 ⟨rfl,b3⟩;have HW1:Hid (walkP l ⟨fx,fy⟩ 1=nextP l ⟨fx,fy⟩):=rfl;obtain⟨⟨ux,uy⟩,hu⟩:∃ u,nextP l ⟨fx,fy⟩=u:=⟨_,rfl⟩;rw [hu] at HW1;simp only [hu];have A4:=(Below.refl w3.heap.size w3).alloc (Nat.le_refl _) (.cells #[.int .i64 ux,.int .i64 uy] 41);have G4:=Has.new w3 #[.int .i64 ux,.int .i64 uy] 41;have Z3:=b3.size;have S4:Hid (AS w1.heap.size w3.heap.size fx fy ux uy 1 [.int .i64 fx,.int .i64 fy] (.slice (some ⟨w1.heap.size+1,0,none⟩) 1 1) w (w3.alloc (.cells #[.int .i64 ux,.int .i64 uy] 41))):=by
  obtain⟨f1,r1,B2⟩:=F1.out;refine⟨by omega,by simp,zF,by simp;omega,by omega,?_,?_,G4,Zj (Zj r1 b3) A4,B2.trans ((b3.mono (by omega)).trans (A4.mono (by omega)))⟩
  ·simp only [Value.ownBlock,ne_eq,Option.some.injEq];omega
  ·exact (f1.below b3 (by omega)).below A4 (by omega)
 clear c0 c0' c3 c4 F1 d2 b3 hu A4 G4 c1;go_wp2
 go_loopw [4,5] (fun out xp wr=>∃ k B:Nat,1≤k∧k≤N∧xp=.pointer (some ⟨B,0,none⟩)∧AS w1.heap.size B fx fy (walkP l ⟨fx,fy⟩ k).x (walkP l ⟨fx,fy⟩ k).y k (Za ((List.range k).map (walkP l ⟨fx,fy⟩))) out w wr) (fun out _ _=>N-lenOf out)
 case atStart =>
  refine⟨1,w3.heap.size,by omega,n1,rfl,?_⟩
  rw [HW1.out];exact S4.out
 case round =>
  obtain⟨k,B,hk1,hkN,rfl,hS⟩:=hrel;obtain⟨s1,s2,s3,s4,s5,s6,g1,g2,hrow,hB⟩:=hS;have hwk:=HW.out k;have HWk:Hid (walkP l ⟨fx,fy⟩ (k+1)=nextP l (walkP l ⟨fx,fy⟩ k)):=rfl;have hrs:=Z7s (walkP l ⟨fx,fy⟩) k;have hfin:walkP l ⟨fx,fy⟩ k=⟨fx,fy⟩→k=N:=fun e=>by
   rcases Nat.lt_or_ge k N with h | h
   ·exact absurd e (HN.out.2 k hk1 h)
   ·omega
  have hfin2:k=N→walkP l ⟨fx,fy⟩ k=⟨fx,fy⟩:=fun e=>by rw [e];exact HN.out.1
  obtain⟨⟨tx,ty⟩,ht⟩:∃ t,walkP l ⟨fx,fy⟩ k=t:=⟨_,rfl⟩;rw [ht] at hwk HWk hrs g2 hfin hfin2;simp only at g2;clear ht;have x0:=g1.cell (i:=0) rfl;have x1:=g1.cell (i:=1) rfl;have y0:=g2.cell (i:=0) rfl;have y1:=g2.cell (i:=1) rfl;have hlen:=Z4r hrow;have HG:=Lib.hid (And.intro g1 (And.intro g2 (And.intro hrow (And.intro hB s6))));have HRS:=Lib.hid hrs;have HFI:=Lib.hid hwk;clear g1 g2 hrow hB s6 hrs hwk;rcases (show (tx=fx∧ty=fy)∨(tx=fx∧¬ ty=fy)∨¬ tx=fx by omega) with⟨e1,e2⟩ | hne
  ·obtain rfl:=e1.symm
   obtain rfl:=e2.symm;have hkn:=hfin rfl;clear hfin hfin2;go_wp2;go_ret;refine⟨_,rfl,?_,HG.out.2.2.2.1,fun b o n c e=>Nat.le_trans (by omega) ((HG.out.2.2.1).lt b (congrArg Value.ownBlock e)).1⟩
   rw [HH.out,← hkn];exact Z8.own (HG.out.2.2.1) (by simp;omega)
  ·have hkn:k<N:=by
    rcases Nat.lt_or_ge k N with h | h
    ·exact h
    ·have:=hfin2 (by omega)
     simp only [Pt.mk.injEq] at this;omega
   clear hfin hfin2;obtain⟨i0,hi,hz0',hz1',hz2'⟩:=info_parts ptInfo;rcases hne with⟨e1,hne⟩ | hne
   ·obtain rfl:=e1.symm
    go_wp2_with (at_builtin;refine wpList_append_own _ rfl _ _ 23 rfl (w1.heap.size+1) 41 i0 (.agg #[.int .i64 0,.int .i64 0]) 2 16 Tryz.underlying23 hi hz0' hz1' hz2' rfl (by decide) _ _ _ rfl (HG.out.2.2.1.alloc _) ⟨wr.heap.size,0,none⟩ 1 1 [.int .i64 fx,.int .i64 ty] rfl rfl (Z11 _ _ _) (by simp [Value.oneCell']) (by unfold maxLen;omega) (by omega) (by simp;omega) ?_;intro v' w4 hown' hgrow _;have G2:=((HG.out.2.1.below ((Below.refl wr.heap.size wr).alloc (Nat.le_refl _) (.cells #[.int .i64 fx,.int .i64 ty] 41)) s2).kept hgrow HG.out.2.2.2.2);have m0:=G2.cell (i:=0) rfl;have m1:=G2.cell (i:=1) rfl;have n0:=(Has.new w4 #[.int .i64 fx,.int .i64 ty] 41).cell (i:=0) rfl;have n1:=(Has.new w4 #[.int .i64 fx,.int .i64 ty] 41).cell (i:=1) rfl;clear G2)
    obtain⟨g1,g2,hrow,hB,s6⟩:=HG.out;have hA:=(Below.refl wr.heap.size wr).alloc (Nat.le_refl _) (.cells #[.int .i64 fx,.int .i64 ty] 41);have hlt:=hrow.lt;have hA':(wr.alloc (.cells #[.int .i64 fx,.int .i64 ty] 41)).heap.size=wr.heap.size+1:=by simp
    have hz4:=hgrow.size;have hb4:Below w.heap.size w w4:=hB.trans (((hA.mono hB.size)).grown hgrow (by omega) (fun j ej=>by have:=(hlt j ej).1;omega))
    have G1:=(g1.below hA s4).kept hgrow (fun e=>by have:=(hlt _ e).1;omega)
    have A5:=(Below.refl w4.heap.size w4).alloc (Nat.le_refl _) (.cells #[.int .i64 fx,.int .i64 ty] 41);have b5:=hb4.trans (A5.mono hb4.size);have d5:=c2.out _ b5 ⟨fx,ty⟩ HFI.out;refine d5.mono ?_;rintro e w6 ⟨rfl,b6⟩;obtain⟨⟨ux',uy'⟩,hu⟩:∃ u,nextP l ⟨fx,ty⟩=u:=⟨_,rfl⟩;rw [hu] at HWk;simp only [hu];have N5:=(Has.new w4 #[.int .i64 fx,.int .i64 ty] 41);have z5:(w4.alloc (.cells #[.int .i64 fx,.int .i64 ty] 41)).heap.size=w4.heap.size+1:=by simp
    have N6:=N5.below b6 (by omega)
    have p0:=N6.cell (i:=0) rfl;have p1:=N6.cell (i:=1) rfl;have q0:=Zf N6 0;have q1:=Zf N6 1;have G6:=(G1.below A5 (by omega)).below b6 (by omega)
    have O6:=Zj (Zj hown' A5) b6;have P6:=(N6.set 0 (.int .i64 ux')).set 1 (.int .i64 uy');have hv':=hown'.lt;have z6:=b6.size;have B6:=b5.trans (b6.mono b5.size);have HZ:Hid (AS w1.heap.size w4.heap.size fx fy ux' uy' (k+1) (Za ((List.range (k+1)).map (walkP l ⟨fx,fy⟩))) v' w ((w6.setCell ⟨w4.heap.size,0,none⟩ (.int .i64 ux')).setCell ⟨w4.heap.size,1,none⟩ (.int .i64 uy'))):=by
     have hz:=hb4.size;have sz:((w6.setCell ⟨w4.heap.size,0,none⟩ (.int .i64 ux')).setCell ⟨w4.heap.size,1,none⟩ (.int .i64 uy')).heap.size=w6.heap.size:=by simp [World.setCell]
     refine⟨hz,by omega,s3,by omega,by omega,fun e=>?_,(G6.other _ _ (by show w1.heap.size≠w4.heap.size;omega)).other _ _ (by show w1.heap.size≠w4.heap.size;omega),P6,?_,(B6.setCell (p:=⟨w4.heap.size,0,none⟩) (by simp;omega) (.int .i64 ux')).setCell (p:=⟨w4.heap.size,1,none⟩) (by simp;omega) (.int .i64 uy')⟩
     ·have:=(hv' _ e).2;omega
     ·rw [HRS.out,Zu]
      refine ZW O6 fun g hg=>?_
      have:=(hv' g hg).2;rw [Below.heap_setCell _ _ _ _ (by show g≠w4.heap.size;omega),Below.heap_setCell _ _ _ _ (by show g≠w4.heap.size;omega)]
    have hl6:=Z4r hown';clear g1 g2 hrow hB hA hb4 G1 A5 b5 d5 b6 hu N5 N6 G6 O6 P6 B6 hown' hgrow m0 m1 n0 n1 hlt hv' x0 x1 y0 y1;go_wp2;go_roundw
    case rel =>
     refine⟨k+1,w4.heap.size,by omega,by omega,rfl,?_⟩
     rw [HWk.out];exact HZ.out
    case measure=>omega
   ·go_wp2_with (at_builtin;refine wpList_append_own _ rfl _ _ 23 rfl (w1.heap.size+1) 41 i0 (.agg #[.int .i64 0,.int .i64 0]) 2 16 Tryz.underlying23 hi hz0' hz1' hz2' rfl (by decide) _ _ _ rfl (HG.out.2.2.1.alloc _) ⟨wr.heap.size,0,none⟩ 1 1 [.int .i64 tx,.int .i64 ty] rfl rfl (Z11 _ _ _) (by simp [Value.oneCell']) (by unfold maxLen;omega) (by omega) (by simp;omega) ?_;intro v' w4 hown' hgrow _;have G2:=((HG.out.2.1.below ((Below.refl wr.heap.size wr).alloc (Nat.le_refl _) (.cells #[.int .i64 tx,.int .i64 ty] 41)) s2).kept hgrow HG.out.2.2.2.2);have m0:=G2.cell (i:=0) rfl;have m1:=G2.cell (i:=1) rfl;have n0:=(Has.new w4 #[.int .i64 tx,.int .i64 ty] 41).cell (i:=0) rfl;have n1:=(Has.new w4 #[.int .i64 tx,.int .i64 ty] 41).cell (i:=1) rfl;clear G2)
    obtain⟨g1,g2,hrow,hB,s6⟩:=HG.out;have hA:=(Below.refl wr.heap.size wr).alloc (Nat.le_refl _) (.cells #[.int .i64 tx,.int .i64 ty] 41);have hlt:=hrow.lt;have hA':(wr.alloc (.cells #[.int .i64 tx,.int .i64 ty] 41)).heap.size=wr.heap.size+1:=by simp
    have hz4:=hgrow.size;have hb4:Below w.heap.size w w4:=hB.trans (((hA.mono hB.size)).grown hgrow (by omega) (fun j ej=>by have:=(hlt j ej).1;omega))
    have G1:=(g1.below hA s4).kept hgrow (fun e=>by have:=(hlt _ e).1;omega)
    have A5:=(Below.refl w4.heap.size w4).alloc (Nat.le_refl _) (.cells #[.int .i64 tx,.int .i64 ty] 41);have b5:=hb4.trans (A5.mono hb4.size);have d5:=c2.out _ b5 ⟨tx,ty⟩ HFI.out;refine d5.mono ?_;rintro e w6 ⟨rfl,b6⟩;obtain⟨⟨ux',uy'⟩,hu⟩:∃ u,nextP l ⟨tx,ty⟩=u:=⟨_,rfl⟩;rw [hu] at HWk;simp only [hu];have N5:=(Has.new w4 #[.int .i64 tx,.int .i64 ty] 41);have z5:(w4.alloc (.cells #[.int .i64 tx,.int .i64 ty] 41)).heap.size=w4.heap.size+1:=by simp
    have N6:=N5.below b6 (by omega)
    have p0:=N6.cell (i:=0) rfl;have p1:=N6.cell (i:=1) rfl;have q0:=Zf N6 0;have q1:=Zf N6 1;have G6:=(G1.below A5 (by omega)).below b6 (by omega)
    have O6:=Zj (Zj hown' A5) b6;have P6:=(N6.set 0 (.int .i64 ux')).set 1 (.int .i64 uy');have hv':=hown'.lt;have z6:=b6.size;have B6:=b5.trans (b6.mono b5.size);have HZ:Hid (AS w1.heap.size w4.heap.size fx fy ux' uy' (k+1) (Za ((List.range (k+1)).map (walkP l ⟨fx,fy⟩))) v' w ((w6.setCell ⟨w4.heap.size,0,none⟩ (.int .i64 ux')).setCell ⟨w4.heap.size,1,none⟩ (.int .i64 uy'))):=by
     have hz:=hb4.size;have sz:((w6.setCell ⟨w4.heap.size,0,none⟩ (.int .i64 ux')).setCell ⟨w4.heap.size,1,none⟩ (.int .i64 uy')).heap.size=w6.heap.size:=by simp [World.setCell]
     refine⟨hz,by omega,s3,by omega,by omega,fun e=>?_,(G6.other _ _ (by show w1.heap.size≠w4.heap.size;omega)).other _ _ (by show w1.heap.size≠w4.heap.size;omega),P6,?_,(B6.setCell (p:=⟨w4.heap.size,0,none⟩) (by simp;omega) (.int .i64 ux')).setCell (p:=⟨w4.heap.size,1,none⟩) (by simp;omega) (.int .i64 uy')⟩
     ·have:=(hv' _ e).2;omega
     ·rw [HRS.out,Zu]
      refine ZW O6 fun g hg=>?_
      have:=(hv' g hg).2;rw [Below.heap_setCell _ _ _ _ (by show g≠w4.heap.size;omega),Below.heap_setCell _ _ _ _ (by show g≠w4.heap.size;omega)]
    have hl6:=Z4r hown';clear g1 g2 hrow hB hA hb4 G1 A5 b5 d5 b6 hu N5 N6 G6 O6 P6 B6 hown' hgrow m0 m1 n0 n1 hlt hv' x0 x1 y0 y1;go_wp2;go_roundw
    case rel =>
     refine⟨k+1,w4.heap.size,by omega,by omega,rfl,?_⟩
     rw [HWk.out];exact HZ.out
    case measure=>omega
theorem Z2p (v:Value) (l:List Pt) (w:World) (hp:Z8 w.heap.size w v l) (hl:∀ k,k<l.length→far6 (nth l k)) (hsz:l.length≤1000000) :
  Calls Tryz.prog 151 #[v] w (PtsQ (hullP l) w):=(Z4i v l w hp hl hsz).mono fun _ _ h=>h.old
open Classical in
noncomputable def polysB (ls:List (List Pt)):Bool:=decide (∀ j,j<ls.length→Zb (rk ls j)=true)
theorem Z7w {ls:List (List Pt)}:polysB ls=true↔∀ j,j<ls.length→Zb (rk ls j)=true:=by unfold polysB;rw [decide_eq_true_eq]
end
end Go.Proofs.YtcfkhkgldboddaaGreat
