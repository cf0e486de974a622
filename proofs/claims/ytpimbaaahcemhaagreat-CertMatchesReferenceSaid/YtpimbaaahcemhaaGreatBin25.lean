/- landfallref03's Around: the hull of points. | landfallref04's Crossings. (Printed by tools/mkrcross.py.) | landfallref04's Corners and Lies. -/
import Derived.Test.YtpimbaaahcemhaaGreatBin23
import Derived.Test.YtpimbaaahcemhaaGreatBin24
set_option linter.unusedSimpArgs false
set_option linter.unusedVariables false
set_option maxRecDepth 8000
set_option maxHeartbeats 6000000
namespace Go.Proofs.YtpimbaaahcemhaaGreat
section
attribute [local irreducible] wpQuiet
open Go.RowKit
def lenOf:Value→Nat
 | .slice _ n _=>n
 | _=>0
theorem Z7R (f:Nat→Pt) (k:Nat):(List.range (k+1)).map f=(List.range k).map f++[f k]:=by simp [List.range_succ]
def AS (F B:Nat) (fx fy tx ty:Int) (k:Nat) (xs:List Value) (out:Value) (w wr:World):Prop :=
 w.heap.size≤B∧B<wr.heap.size∧w.heap.size≤F∧F<wr.heap.size∧B≠F∧out.ownBlock≠some B∧Has wr F #[.int .i64 fx,.int .i64 fy] 58∧Has wr B #[.int .i64 tx,.int .i64 ty] 58 ∧
 wr.ownsRow (F+1) 58 2 out k xs∧Below w.heap.size w wr
theorem Has.kept {W W':World} {B:Nat} {cs:Array Value} {t:TypeId} {row:Option Nat} (h:Has W B cs t) (hg:W.grownBy W' row) (hne:row≠some B):Has W' B cs t :=
 (hg.block B h.lt (fun e=>hne e.symm)).trans h
theorem Z4E {W:World} {base k size:Nat} {e:TypeId} {v:Value} {xs:List Value} (h:W.ownsRow base e size v k xs):lenOf v=k:=by
 rcases h.2 with⟨rfl,h0⟩ | ⟨g,cap,cur,rfl,_⟩
 ·exact h0.symm
 ·rfl
theorem Z4v (v : Value) (l : List Pt) (w : World) (hp : Z8 w.heap.size w v l) (hl : ∀ k, k < l.length → far6 (nth l k)) (hsz : l.length ≤ 1000000) :
  Calls Tryz.prog 92 #[v] w (PtsN (hullP l) w):=by
 by_cases h0:l=[]
 ·subst h0
  obtain⟨a,cap,rfl⟩:=hp.len;have e:hullP []=[]:=((Z0G []).none rfl);rw [e];clear e hp hl;go_enter Tryz.func92,Tryz.ntmps92;go_wp2;go_ret;exact⟨_,rfl,Z8.nil _ _,Below.refl _ _,NewI.nil _⟩
 have h1:0<l.length:=List.length_pos_iff.2 h0;have hm:=Z2q (l:=l) h1;have hle:=Z3s (l:=l);obtain⟨N,n1,n2,n3,n4⟩:=Z3Y hm hle;have HH:=Lib.hid ((Z29 (Z5K hm hle n1 n3 n4)).symm);have hwl:∀ k,far6 (walkP l (leastP l) k):=fun k=>by
  obtain⟨j,hj,e⟩:=mem_nth' (Z1C hm hle k).1;rw [← e];exact hl j hj
 have c1:=Lib.hid (Z81 v l w hp h1);have c2:=Lib.hid (fun (W:World) (B:Below w.heap.size w W) (t:Pt) (ht:far6 t)=>Zau v l t W ((hp.below B).mono B.size) hl ht)
 obtain⟨a,cap,rfl⟩:=hp.len;obtain⟨⟨fx,fy⟩,hf⟩:∃ f,leastP l=f:=⟨_,rfl⟩;rw [hf] at HH hwl c1 n3 n4;have HW:=Lib.hid hwl;have HN:=Lib.hid (And.intro n3 n4);have dl:((l.length:Int) == 0)=false:=by rw [beq_eq_false_iff_ne];omega
 clear hp hl hm hle hf hwl n3 n4;go_enter Tryz.func92,Tryz.ntmps92;go_wp2_with fail;refine c1.out.mono ?_;rintro e w1 ⟨rfl,b1⟩;have z1:=b1.size;have f0:=Has.new w1 #[.int .i64 fx,.int .i64 fy] 58;have A1:=(Below.refl w1.heap.size w1).alloc (Nat.le_refl _) (.cells #[.int .i64 fx,.int .i64 fy] 58);have sz1:(w1.alloc (.cells #[.int .i64 fx,.int .i64 fy] 58)).heap.size=w1.heap.size+1:=by simp
 have f1:=f0.below ((Below.refl (w1.heap.size+1) _).alloc (by simp) (.cells #[.int .i64 fx,.int .i64 fy] 58)) (by omega)
 have r1:((w1.alloc (.cells #[.int .i64 fx,.int .i64 fy] 58)).alloc (.cells #[.int .i64 fx,.int .i64 fy] 58)).ownsRow (w1.heap.size+1) 58 2 (.slice (some ⟨w1.heap.size+1,0,none⟩) 1 1) 1 [.int .i64 fx,.int .i64 fy]:=by
  have:=World.ownsRow_lit (base:=w1.heap.size+1) (e:=58) (size:=2) (w1.alloc (.cells #[.int .i64 fx,.int .i64 fy] 58)) #[.int .i64 fx,.int .i64 fy] 1 (by simp) (by unfold maxLen;omega) rfl
  rwa [sz1] at this
 have B2:=(b1.trans (A1.mono z1)).trans (((Below.refl _ (w1.alloc (.cells #[.int .i64 fx,.int .i64 fy] 58))).alloc (Nat.le_refl _) (.cells #[.int .i64 fx,.int .i64 fy] 58)).mono (by rw [sz1];omega):Below w.heap.size _ _)
 have c0:=f0.cell (i:=0) rfl;have c0':=f0.cell (i:=1) rfl;have c3:=f1.cell (i:=0) rfl;have c4:=f1.cell (i:=1) rfl;have F1:=Lib.hid (And.intro f1 (And.intro r1 B2));have zF:w.heap.size≤w1.heap.size:=z1;have zT:w1.heap.size+1<((w1.alloc (.cells #[.int .i64 fx,.int .i64 fy] 58)).alloc (.cells #[.int .i64 fx,.int .i64 fy] 58)).heap.size:=by simp
 clear b1 A1 f0 f1 r1 B2 sz1;go_wp2_with fail;generalize (w1.alloc (.cells #[.int .i64 fx,.int .i64 fy] 58)).alloc (.cells #[.int .i64 fx,.int .i64 fy] 58)=W2 at *;have d2:=c2.out W2 F1.out.2.2 ⟨fx,fy⟩ (HW.out 0);refine d2.mono ?_;rintro e w3 ⟨rfl,b3⟩;have HW1:Hid (walkP l ⟨fx,fy⟩ 1=nextP l ⟨fx,fy⟩):=rfl;obtain⟨⟨ux,uy⟩,hu⟩:∃ u,nextP l ⟨fx,fy⟩=u:=⟨_,rfl⟩;rw [hu] at HW1;simp only [hu];have A4:=(Below.refl w3.heap.size w3).alloc (Nat.le_refl _) (.cells #[.int .i64 ux,.int .i64 uy] 58);have G4:=Has.new w3 #[.int .i64 ux,.int .i64 uy] 58;have Z3:=b3.size;have S4:Hid (AS w1.heap.size w3.heap.size fx fy ux uy 1 [.int .i64 fx,.int .i64 fy] (.slice (some ⟨w1.heap.size+1,0,none⟩) 1 1) w (w3.alloc (.cells #[.int .i64 ux,.int .i64 uy] 58))):=by
  obtain⟨f1,r1,B2⟩:=F1.out;refine⟨by omega,by simp,zF,by simp;omega,by omega,?_,?_,G4,Zo (Zo r1 b3) A4,B2.trans ((b3.mono (by omega)).trans (A4.mono (by omega)))⟩
  ·simp only [Value.ownBlock,ne_eq,Option.some.injEq];omega
  ·exact (f1.below b3 (by omega)).below A4 (by omega)
 clear c0 c0' c3 c4 F1 d2 b3 hu A4 G4 c1;go_wp2
 go_loopw [4,5] (fun out xp wr=>∃ k B:Nat,1≤k∧k≤N∧xp=.pointer (some ⟨B,0,none⟩)∧AS w1.heap.size B fx fy (walkP l ⟨fx,fy⟩ k).x (walkP l ⟨fx,fy⟩ k).y k (Zb ((List.range k).map (walkP l ⟨fx,fy⟩))) out w wr) (fun out _ _=>N-lenOf out)
 case atStart =>
  refine⟨1,w3.heap.size,by omega,n1,rfl,?_⟩
  rw [HW1.out];exact S4.out
 case round =>
  obtain⟨k,B,hk1,hkN,rfl,hS⟩:=hrel;obtain⟨s1,s2,s3,s4,s5,s6,g1,g2,hrow,hB⟩:=hS;have hwk:=HW.out k;have HWk:Hid (walkP l ⟨fx,fy⟩ (k+1)=nextP l (walkP l ⟨fx,fy⟩ k)):=rfl;have hrs:=Z7R (walkP l ⟨fx,fy⟩) k;have hfin:walkP l ⟨fx,fy⟩ k=⟨fx,fy⟩→k=N:=fun e=>by
   rcases Nat.lt_or_ge k N with h | h
   ·exact absurd e (HN.out.2 k hk1 h)
   ·omega
  have hfin2:k=N→walkP l ⟨fx,fy⟩ k=⟨fx,fy⟩:=fun e=>by rw [e];exact HN.out.1
  obtain⟨⟨tx,ty⟩,ht⟩:∃ t,walkP l ⟨fx,fy⟩ k=t:=⟨_,rfl⟩;rw [ht] at hwk HWk hrs g2 hfin hfin2;simp only at g2;clear ht;have x0:=g1.cell (i:=0) rfl;have x1:=g1.cell (i:=1) rfl;have y0:=g2.cell (i:=0) rfl;have y1:=g2.cell (i:=1) rfl;have hlen:=Z4E hrow;have HG:=Lib.hid (And.intro g1 (And.intro g2 (And.intro hrow (And.intro hB s6))));have HRS:=Lib.hid hrs;have HFI:=Lib.hid hwk;clear g1 g2 hrow hB s6 hrs hwk;rcases (show (tx=fx∧ty=fy)∨(tx=fx∧¬ ty=fy)∨¬ tx=fx by omega) with⟨e1,e2⟩ | hne
  ·obtain rfl:=e1.symm
   obtain rfl:=e2.symm;have hkn:=hfin rfl;clear hfin hfin2;go_wp2;go_ret;refine⟨_,rfl,?_,HG.out.2.2.2.1,fun b o n c e=>Nat.le_trans (by omega) ((HG.out.2.2.1).lt b (congrArg Value.ownBlock e)).1⟩
   rw [HH.out,← hkn];exact Z8.own (HG.out.2.2.1) (by simp;omega)
  ·have hkn:k<N:=by
    rcases Nat.lt_or_ge k N with h | h
    ·exact h
    ·have:=hfin2 (by omega)
     simp only [Pt.mk.injEq] at this;omega
   clear hfin hfin2;obtain⟨i0,hi,hz0',hz1',hz2'⟩:=info_parts ptInfo;rcases hne with⟨e1,hne⟩ | hne
   ·obtain rfl:=e1.symm
    go_wp2_with (at_builtin;refine wpList_append_own _ rfl _ _ 23 rfl (w1.heap.size+1) 58 i0 (.agg #[.int .i64 0,.int .i64 0]) 2 16 Tryz.underlying23 hi hz0' hz1' hz2' rfl (by decide) _ _ _ rfl (HG.out.2.2.1.alloc _) ⟨wr.heap.size,0,none⟩ 1 1 [.int .i64 fx,.int .i64 ty] rfl rfl (Z16 _ _ _) (by simp [Value.oneCell']) (by unfold maxLen;omega) (by omega) (by simp;omega) ?_;intro v' w4 hown' hgrow _;have G2:=((HG.out.2.1.below ((Below.refl wr.heap.size wr).alloc (Nat.le_refl _) (.cells #[.int .i64 fx,.int .i64 ty] 58)) s2).kept hgrow HG.out.2.2.2.2);have m0:=G2.cell (i:=0) rfl;have m1:=G2.cell (i:=1) rfl;have n0:=(Has.new w4 #[.int .i64 fx,.int .i64 ty] 58).cell (i:=0) rfl;have n1:=(Has.new w4 #[.int .i64 fx,.int .i64 ty] 58).cell (i:=1) rfl;clear G2)
    obtain⟨g1,g2,hrow,hB,s6⟩:=HG.out;have hA:=(Below.refl wr.heap.size wr).alloc (Nat.le_refl _) (.cells #[.int .i64 fx,.int .i64 ty] 58);have hlt:=hrow.lt;have hA':(wr.alloc (.cells #[.int .i64 fx,.int .i64 ty] 58)).heap.size=wr.heap.size+1:=by simp
    have hz4:=hgrow.size;have hb4:Below w.heap.size w w4:=hB.trans (((hA.mono hB.size)).grown hgrow (by omega) (fun j ej=>by have:=(hlt j ej).1;omega))
    have G1:=(g1.below hA s4).kept hgrow (fun e=>by have:=(hlt _ e).1;omega)
    have A5:=(Below.refl w4.heap.size w4).alloc (Nat.le_refl _) (.cells #[.int .i64 fx,.int .i64 ty] 58);have b5:=hb4.trans (A5.mono hb4.size);have d5:=c2.out _ b5 ⟨fx,ty⟩ HFI.out;refine d5.mono ?_;rintro e w6 ⟨rfl,b6⟩;obtain⟨⟨ux',uy'⟩,hu⟩:∃ u,nextP l ⟨fx,ty⟩=u:=⟨_,rfl⟩;rw [hu] at HWk;simp only [hu];have N5:=(Has.new w4 #[.int .i64 fx,.int .i64 ty] 58);have z5:(w4.alloc (.cells #[.int .i64 fx,.int .i64 ty] 58)).heap.size=w4.heap.size+1:=by simp
    have N6:=N5.below b6 (by omega)
    have p0:=N6.cell (i:=0) rfl;have p1:=N6.cell (i:=1) rfl;have q0:=Zh N6 0;have q1:=Zh N6 1;have G6:=(G1.below A5 (by omega)).below b6 (by omega)
    have O6:=Zo (Zo hown' A5) b6;have P6:=(N6.set 0 (.int .i64 ux')).set 1 (.int .i64 uy');have hv':=hown'.lt;have z6:=b6.size;have B6:=b5.trans (b6.mono b5.size);have HZ:Hid (AS w1.heap.size w4.heap.size fx fy ux' uy' (k+1) (Zb ((List.range (k+1)).map (walkP l ⟨fx,fy⟩))) v' w ((w6.setCell ⟨w4.heap.size,0,none⟩ (.int .i64 ux')).setCell ⟨w4.heap.size,1,none⟩ (.int .i64 uy'))):=by
     have hz:=hb4.size;have sz:((w6.setCell ⟨w4.heap.size,0,none⟩ (.int .i64 ux')).setCell ⟨w4.heap.size,1,none⟩ (.int .i64 uy')).heap.size=w6.heap.size:=by simp [World.setCell]
     refine⟨hz,by omega,s3,by omega,by omega,fun e=>?_,(G6.other _ _ (by show w1.heap.size≠w4.heap.size;omega)).other _ _ (by show w1.heap.size≠w4.heap.size;omega),P6,?_,(B6.setCell (p:=⟨w4.heap.size,0,none⟩) (by simp;omega) (.int .i64 ux')).setCell (p:=⟨w4.heap.size,1,none⟩) (by simp;omega) (.int .i64 uy')⟩
     ·have:=(hv' _ e).2;omega
     ·rw [HRS.out,ZB]
      refine ZY O6 fun g hg=>?_
      have:=(hv' g hg).2;rw [Below.heap_setCell _ _ _ _ (by show g≠w4.heap.size;omega),Below.heap_setCell _ _ _ _ (by show g≠w4.heap.size;omega)]
    have hl6:=Z4E hown';clear g1 g2 hrow hB hA hb4 G1 A5 b5 d5 b6 hu N5 N6 G6 O6 P6 B6 hown' hgrow m0 m1 n0 n1 hlt hv' x0 x1 y0 y1;go_wp2;go_roundw
    case rel =>
     refine⟨k+1,w4.heap.size,by omega,by omega,rfl,?_⟩
     rw [HWk.out];exact HZ.out
    case measure=>omega
   ·go_wp2_with (at_builtin;refine wpList_append_own _ rfl _ _ 23 rfl (w1.heap.size+1) 58 i0 (.agg #[.int .i64 0,.int .i64 0]) 2 16 Tryz.underlying23 hi hz0' hz1' hz2' rfl (by decide) _ _ _ rfl (HG.out.2.2.1.alloc _) ⟨wr.heap.size,0,none⟩ 1 1 [.int .i64 tx,.int .i64 ty] rfl rfl (Z16 _ _ _) (by simp [Value.oneCell']) (by unfold maxLen;omega) (by omega) (by simp;omega) ?_;intro v' w4 hown' hgrow _;have G2:=((HG.out.2.1.below ((Below.refl wr.heap.size wr).alloc (Nat.le_refl _) (.cells #[.int .i64 tx,.int .i64 ty] 58)) s2).kept hgrow HG.out.2.2.2.2);have m0:=G2.cell (i:=0) rfl;have m1:=G2.cell (i:=1) rfl;have n0:=(Has.new w4 #[.int .i64 tx,.int .i64 ty] 58).cell (i:=0) rfl;have n1:=(Has.new w4 #[.int .i64 tx,.int .i64 ty] 58).cell (i:=1) rfl;clear G2)
    obtain⟨g1,g2,hrow,hB,s6⟩:=HG.out;have hA:=(Below.refl wr.heap.size wr).alloc (Nat.le_refl _) (.cells #[.int .i64 tx,.int .i64 ty] 58);have hlt:=hrow.lt;have hA':(wr.alloc (.cells #[.int .i64 tx,.int .i64 ty] 58)).heap.size=wr.heap.size+1:=by simp
    have hz4:=hgrow.size;have hb4:Below w.heap.size w w4:=hB.trans (((hA.mono hB.size)).grown hgrow (by omega) (fun j ej=>by have:=(hlt j ej).1;omega))
    have G1:=(g1.below hA s4).kept hgrow (fun e=>by have:=(hlt _ e).1;omega)
    have A5:=(Below.refl w4.heap.size w4).alloc (Nat.le_refl _) (.cells #[.int .i64 tx,.int .i64 ty] 58);have b5:=hb4.trans (A5.mono hb4.size);have d5:=c2.out _ b5 ⟨tx,ty⟩ HFI.out;refine d5.mono ?_;rintro e w6 ⟨rfl,b6⟩;obtain⟨⟨ux',uy'⟩,hu⟩:∃ u,nextP l ⟨tx,ty⟩=u:=⟨_,rfl⟩;rw [hu] at HWk;simp only [hu];have N5:=(Has.new w4 #[.int .i64 tx,.int .i64 ty] 58);have z5:(w4.alloc (.cells #[.int .i64 tx,.int .i64 ty] 58)).heap.size=w4.heap.size+1:=by simp
    have N6:=N5.below b6 (by omega)
    have p0:=N6.cell (i:=0) rfl;have p1:=N6.cell (i:=1) rfl;have q0:=Zh N6 0;have q1:=Zh N6 1;have G6:=(G1.below A5 (by omega)).below b6 (by omega)
    have O6:=Zo (Zo hown' A5) b6;have P6:=(N6.set 0 (.int .i64 ux')).set 1 (.int .i64 uy');have hv':=hown'.lt;have z6:=b6.size;have B6:=b5.trans (b6.mono b5.size);have HZ:Hid (AS w1.heap.size w4.heap.size fx fy ux' uy' (k+1) (Zb ((List.range (k+1)).map (walkP l ⟨fx,fy⟩))) v' w ((w6.setCell ⟨w4.heap.size,0,none⟩ (.int .i64 ux')).setCell ⟨w4.heap.size,1,none⟩ (.int .i64 uy'))):=by
     have hz:=hb4.size;have sz:((w6.setCell ⟨w4.heap.size,0,none⟩ (.int .i64 ux')).setCell ⟨w4.heap.size,1,none⟩ (.int .i64 uy')).heap.size=w6.heap.size:=by simp [World.setCell]
     refine⟨hz,by omega,s3,by omega,by omega,fun e=>?_,(G6.other _ _ (by show w1.heap.size≠w4.heap.size;omega)).other _ _ (by show w1.heap.size≠w4.heap.size;omega),P6,?_,(B6.setCell (p:=⟨w4.heap.size,0,none⟩) (by simp;omega) (.int .i64 ux')).setCell (p:=⟨w4.heap.size,1,none⟩) (by simp;omega) (.int .i64 uy')⟩
     ·have:=(hv' _ e).2;omega
     ·rw [HRS.out,ZB]
      refine ZY O6 fun g hg=>?_
      have:=(hv' g hg).2;rw [Below.heap_setCell _ _ _ _ (by show g≠w4.heap.size;omega),Below.heap_setCell _ _ _ _ (by show g≠w4.heap.size;omega)]
    have hl6:=Z4E hown';clear g1 g2 hrow hB hA hb4 G1 A5 b5 d5 b6 hu N5 N6 G6 O6 P6 B6 hown' hgrow m0 m1 n0 n1 hlt hv' x0 x1 y0 y1;go_wp2;go_roundw
    case rel =>
     refine⟨k+1,w4.heap.size,by omega,by omega,rfl,?_⟩
     rw [HWk.out];exact HZ.out
    case measure=>omega
theorem Z2A (v:Value) (l:List Pt) (w:World) (hp:Z8 w.heap.size w v l) (hl:∀ k,k<l.length→far6 (nth l k)) (hsz:l.length≤1000000) :
  Calls Tryz.prog 92 #[v] w (PtsQ (hullP l) w):=(Z4v v l w hp hl hsz).mono fun _ _ h=>h.old
def crossR (S T:Pt × Pt):List Pt:=if (crossB (Z6 S.1 S.2 T.1) (Z6 S.1 S.2 T.2) && crossB (Z6 T.1 T.2 S.1) (Z6 T.1 T.2 S.2))=true then frameR T.1 T.2 (Z6 S.1 S.2 T.1) (Z6 S.1 S.2 T.2) else []
theorem Z7Z {S T:Pt × Pt} {x:Pt}:x ∈ crossR S T↔x ∈ crossST S T:=by
 unfold crossR crossST
 split
 ·exact Z7Y
 ·exact Iff.rfl
theorem Z8l (S T:Pt × Pt):(crossR S T).length≤4:=by unfold crossR;split <;> simp [frameR]
def rowTo (S:Pt × Pt) (m:List Pt) (j:Nat):List Pt:=(upto (sideP m) j).flatMap (crossR S)
def outTo (l m:List Pt) (i:Nat):List Pt:=(upto (sideP l) i).flatMap fun S=>rowTo S m m.length
def crossPR (l m:List Pt):List Pt:=outTo l m l.length
theorem Z46 (S:Pt × Pt) (m:List Pt) (j:Nat):rowTo S m (j+1)=rowTo S m j++crossR S (sideP m j):=by simp [rowTo,Zq]
theorem Z4c (l m:List Pt) (i:Nat):outTo l m (i+1)=outTo l m i++rowTo (sideP l i) m m.length:=by simp [outTo,Zq]
theorem Z39 (S:Pt × Pt) (m:List Pt):∀ j,(rowTo S m j).length≤4*j
 | 0=>by simp [rowTo,upto]
 | j + 1 => by
  rw [Z46,List.length_append];have:=Z39 S m j;have:=Z8l S (sideP m j);omega
theorem Z21 (l m:List Pt):∀ i,(outTo l m i).length≤4*m.length*i
 | 0=>by simp [outTo,upto]
 | i + 1 => by
  rw [Z4c,List.length_append,Nat.mul_succ];have:=Z21 l m i;have:=Z39 (sideP l i) m m.length;omega
theorem Z6x {l m:List Pt} {x:Pt}:x ∈ crossPR l m↔x ∈ crossP l m:=by
 unfold crossPR outTo crossP crossL rowS sidesL rowTo;simp only [List.mem_flatMap,Z7Z]
structure CS (A B:Nat) (ax ay bx by':Int) (xs:List Pt) (out:Value) (w W:World):Prop where
 hA:w.heap.size≤A∧A<W.heap.size
 hB:w.heap.size≤B∧B<W.heap.size
 nA:out.ownBlock≠some A
 nB:out.ownBlock≠some B
 gA:Has W A #[.int .i64 ax,.int .i64 ay] 58
 gB:Has W B #[.int .i64 bx,.int .i64 by'] 58
 row:W.ownsRow w.heap.size 58 2 out xs.length (Zb xs)
 bel:Below w.heap.size w W
theorem CS.below {A B:Nat} {ax ay bx by':Int} {xs:List Pt} {out:Value} {w W W':World} (h:CS A B ax ay bx by' xs out w W) (hb:Below W.heap.size W W'):CS A B ax ay bx by' xs out w W' :=
 ⟨⟨h.hA.1,Nat.lt_of_lt_of_le h.hA.2 hb.size⟩,⟨h.hB.1,Nat.lt_of_lt_of_le h.hB.2 hb.size⟩,h.nA,h.nB,h.gA.below hb h.hA.2,h.gB.below hb h.hB.2,Zo h.row hb,h.bel.trans (hb.mono h.bel.size)⟩
theorem CS.app {A B:Nat} {ax ay bx by':Int} {xs ys:List Pt} {out out':Value} {w W W':World} (h:CS A B ax ay bx by' xs out w W) (hr:W'.ownsRow w.heap.size 58 2 out' (xs.length+ys.length) (Zb xs++Zb ys)) (hg:W.grownBy W' out.ownBlock) (ho:out'.ownBlock=out.ownBlock∨out'.ownBlock=some W.heap.size):CS A B ax ay bx by' (xs++ys) out' w W':=by
 have hz:=hg.size;refine⟨⟨h.hA.1,by have:=h.hA.2;omega⟩,⟨h.hB.1,by have:=h.hB.2;omega⟩,?_,?_,h.gA.kept hg h.nA,h.gB.kept hg h.nB,by rw [List.length_append,ZB];exact hr,h.bel.trans ((Below.refl w.heap.size W).grown hg h.bel.size fun j ej=>(h.row.lt j ej).1)⟩
 ·rcases ho with e | e
  ·rw [e];exact h.nA
  ·rw [e];intro e';cases e';exact absurd h.hA.2 (Nat.lt_irrefl _)
 ·rcases ho with e | e
  ·rw [e];exact h.nB
  ·rw [e];intro e';cases e';exact absurd h.hB.2 (Nat.lt_irrefl _)
structure DS (C D:Nat) (cx cy dx dy:Int) (W:World):Prop where
 gC:Has W C #[.int .i64 cx,.int .i64 cy] 58
 gD:Has W D #[.int .i64 dx,.int .i64 dy] 58
theorem DS.below {C D:Nat} {cx cy dx dy:Int} {W W':World} (h:DS C D cx cy dx dy W) (hb:Below W.heap.size W W'):DS C D cx cy dx dy W':=⟨h.gC.below hb h.gC.lt,h.gD.below hb h.gD.lt⟩
theorem Z8A (W:World) (ax ay bx by':Int):Has ((W.alloc (.cells #[.int .i64 ax,.int .i64 ay] 58)).alloc (.cells #[.int .i64 bx,.int .i64 by'] 58)) W.heap.size #[.int .i64 ax,.int .i64 ay] 58∧Has ((W.alloc (.cells #[.int .i64 ax,.int .i64 ay] 58)).alloc (.cells #[.int .i64 bx,.int .i64 by'] 58)) (W.heap.size+1) #[.int .i64 bx,.int .i64 by'] 58∧Below W.heap.size W ((W.alloc (.cells #[.int .i64 ax,.int .i64 ay] 58)).alloc (.cells #[.int .i64 bx,.int .i64 by'] 58))∧((W.alloc (.cells #[.int .i64 ax,.int .i64 ay] 58)).alloc (.cells #[.int .i64 bx,.int .i64 by'] 58)).heap.size=W.heap.size+2:=by
 refine⟨(Has.new W #[.int .i64 ax,.int .i64 ay] 58).below ((Below.refl (W.heap.size+1) _).alloc (by simp) (.cells #[.int .i64 bx,.int .i64 by'] 58)) (by omega),?_,((Below.refl W.heap.size W).alloc (Nat.le_refl _) _).alloc (by simp) _,by simp⟩
 have:=Has.new (W.alloc (.cells #[.int .i64 ax,.int .i64 ay] 58)) #[.int .i64 bx,.int .i64 by'] 58
 rwa [World.size_alloc] at this
theorem Z7i {k n:Nat} (hk:k<n) (hn:n≤70368744177663):∃ m:Nat,m<n∧(k+1) % n=m∧IntKind.i64.wrap ((k:Int)+1)=(k:Int)+1∧((k:Int)+1).tmod (n:Int)=(m:Int):=by
 refine⟨(k+1) % n,Nat.mod_lt _ (by omega),rfl,zW2,?_⟩
 rw [Int.tmod_eq_emod_of_nonneg (by omega)];rfl
theorem Z3R (vp vq : Value) (l m : List Pt) (w : World) (hp : Z8 w.heap.size w vp l) (hq : Z8 w.heap.size w vq m) (hl : Zc l = true) (hm : Zc m = true) :
  Calls Tryz.prog 171 #[vp,vq] w (PtsQ (crossPR l m) w):=by
 have GL:=Zn hl;have GM:=Zn hm;have l1:=GL.1;have l64:=GL.2.1;have m1:=GM.1;have m64:=GM.2.1;have PL:=Lib.hid (fun k hk=>Zl (GL.2.2.1 k hk).1)
 have PM:=Lib.hid (fun k hk=>Zl (GM.2.2.1 k hk).1)
 obtain⟨hll,a,cap,rfl,hc⟩:=hp;obtain⟨b,o,rfl,hb,hc⟩:=hc.resolve_left (by intro h;rw [h] at l1;simp at l1)
 obtain⟨hlm,a2,cap2,rfl,hc2⟩:=hq;obtain⟨b2,o2,rfl,hb2,hc2⟩:=hc2.resolve_left (by intro h;rw [h] at m1;simp at m1)
 have HC:=Lib.hid hc;have HC2:=Lib.hid hc2;have nel:¬ l=[]:=by intro h;rw [h] at l1;simp at l1
 have nem:¬ m=[]:=by intro h;rw [h] at m1;simp at m1
 obtain⟨i0,hi,hz0',hz1',hz2'⟩:=info_parts ptInfo;clear hc hc2 hl hm GL GM;go_enter Tryz.func171,Tryz.ntmps171;go_wp2
 go_loopw [5,6] (fun out i wr=>∃ k:Nat,k≤l.length∧i=.int .i64 (k:Int)∧wr.ownsRow w.heap.size 58 2 out (outTo l m k).length (Zb (outTo l m k))∧Below w.heap.size w wr) (fun _ i _=>l.length-(intOf i).toNat)
 case atStart=>exact⟨0,by omega,rfl,World.ownsRow_nil _ _ _ _,Below.refl _ _⟩
 case round =>
  rename World=>wo
  obtain⟨i,hik,rfl,hrow,hB⟩:=hrel;have hzB:=hB.size;by_cases hlt:i<l.length
  ·obtain ⟨mi, hmi, hme, mw, mt⟩ := Z7i hlt hll
   have pa:=PL.out i hlt;have pb:=PL.out mi hmi;have hsd:sideP l i=(nth l i,nth l mi):=by unfold sideP;rw [hme]
   have hos:=Z4c l m i;rw [hsd] at hos;obtain⟨q0,q1⟩:=HC.out i hlt;obtain⟨q2,q3⟩:=HC.out mi hmi;have e0:=(hB.cell (p:=⟨b,o+i*2,none⟩) hb).trans q0;have e1:=(hB.cell (p:=⟨b,o+i*2+1,none⟩) hb).trans q1;obtain⟨⟨ax,ay⟩,hea⟩:∃ t,nth l i=t:=⟨_,rfl⟩;obtain⟨⟨bx,by'⟩,heb⟩:∃ t,nth l mi=t:=⟨_,rfl⟩
   rw [hea] at e0 e1 pa hos;rw [heb] at q2 q3 pb hos;simp only at e0 e1 q2 q3 pa pb;have hBa:=hB.alloc hzB (.cells #[.int .i64 ax,.int .i64 ay] 58);have e2:=(hBa.cell (p:=⟨b,o+mi*2,none⟩) hb).trans q2;have e3:=(hBa.cell (p:=⟨b,o+mi*2+1,none⟩) hb).trans q3;have h2:=Z8A wo ax ay bx by'
   have hos':=Lib.hid hos;obtain⟨xs,hxs⟩:∃ xs,outTo l m i=xs:=⟨_,rfl⟩;have hxl:=Z21 l m i;rw [hxs] at hrow hos' hxl;have hlt4:4*m.length*i≤4*64*64:=Nat.mul_le_mul (Nat.mul_le_mul (Nat.le_refl 4) m64) (by omega)
   have HS0:Hid (CS wo.heap.size (wo.heap.size+1) ax ay bx by' (xs++rowTo (⟨ax,ay⟩,⟨bx,by'⟩) m 0) u5 w ((wo.alloc (.cells #[.int .i64 ax,.int .i64 ay] 58)).alloc (.cells #[.int .i64 bx,.int .i64 by'] 58))):=by
    have e:rowTo (⟨ax,ay⟩,⟨bx,by'⟩) m 0=[]:=rfl
    rw [e,List.append_nil];exact⟨⟨hzB,by rw [h2.2.2.2];omega⟩,⟨by omega,by rw [h2.2.2.2];omega⟩,fun e=>by have:=(hrow.lt _ e).2;omega,fun e=>by have:=(hrow.lt _ e).2;omega,h2.1,h2.2.1,Zo hrow h2.2.2.1,hB.trans (h2.2.2.1.mono hzB)⟩
   have ki:(i:Int)<l.length:=by omega
   have k0:(0:Int)≤i:=by omega
   have kmi:(mi:Int)<l.length:=by omega
   have kmi0:(0:Int)≤mi:=by omega
   have di:decide ((i:Int)<(l.length:Int))=true:=by simp;omega
   clear q0 q1 q2 q3 hea heb hsd hos hme hxs hrow hB hBa h2;go_wp2
   go_loopw [5,9] (fun out j wr'=>∃ k:Nat,k≤m.length∧j=.int .i64 (k:Int)∧CS wo.heap.size (wo.heap.size+1) ax ay bx by' (xs++rowTo (⟨ax,ay⟩,⟨bx,by'⟩) m k) out w wr') (fun _ j _=>m.length-(intOf j).toNat)
   case atStart=>exact⟨0,by omega,rfl,HS0.out⟩
   case round =>
    clear HS0 mt mw e0 e1 e2 e3;obtain⟨j,hjk,rfl,hS⟩:=hrel;have hzB:=hS.bel.size;by_cases hlj:j<m.length
    ·obtain⟨mj,hmj,hme,mw,mt⟩:=Z7i hlj hlm
     have pc:=PM.out j hlj;have pd:=PM.out mj hmj;have hsd:sideP m j=(nth m j,nth m mj):=by unfold sideP;rw [hme]
     have hos:=Z46 (⟨ax,ay⟩,⟨bx,by'⟩) m j
     rw [hsd] at hos;obtain⟨q0,q1⟩:=HC2.out j hlj;obtain⟨q2,q3⟩:=HC2.out mj hmj;have e0:=(hS.bel.cell (p:=⟨b2,o2+j*2,none⟩) hb2).trans q0;have e1:=(hS.bel.cell (p:=⟨b2,o2+j*2+1,none⟩) hb2).trans q1;obtain⟨⟨cx,cy⟩,hec⟩:∃ t,nth m j=t:=⟨_,rfl⟩;obtain⟨⟨dx,dy⟩,hed⟩:∃ t,nth m mj=t:=⟨_,rfl⟩;rw [hec] at e0 e1 pc hos;rw [hed] at q2 q3 pd hos;simp only at e0 e1 q2 q3 pc pd;have hBa:=hS.bel.alloc hzB (.cells #[.int .i64 cx,.int .i64 cy] 58);have e2:=(hBa.cell (p:=⟨b2,o2+mj*2,none⟩) hb2).trans q2;have e3:=(hBa.cell (p:=⟨b2,o2+mj*2+1,none⟩) hb2).trans q3;have h2:=Z8A wr cx cy dx dy;have hrl:=Z39 (⟨ax,ay⟩,⟨bx,by'⟩) m j
     have hfl:∀ s t:Int,(frameR ⟨cx,cy⟩ ⟨dx,dy⟩ s t).length=4:=fun _ _=>rfl
     have ts:=Z2R (a:=⟨ax,ay⟩) (b:=⟨bx,by'⟩) (c:=⟨cx,cy⟩) pa pb pc
     have tt:=Z2R (a:=⟨ax,ay⟩) (b:=⟨bx,by'⟩) (c:=⟨dx,dy⟩) pa pb pd
     simp only at ts tt;have f1:=Lib.hid (fun w1=>Z0s ax ay bx by' cx cy w1 (by omega) (by omega) (by omega) (by omega) (by omega) (by omega) (by omega) (by omega) (by omega) (by omega) (by omega) (by omega))
     have f2:=Lib.hid (fun w1=>Z0s ax ay bx by' dx dy w1 (by omega) (by omega) (by omega) (by omega) (by omega) (by omega) (by omega) (by omega) (by omega) (by omega) (by omega) (by omega))
     have f3:=Lib.hid (fun w1=>Z0s cx cy dx dy ax ay w1 (by omega) (by omega) (by omega) (by omega) (by omega) (by omega) (by omega) (by omega) (by omega) (by omega) (by omega) (by omega))
     have f4:=Lib.hid (fun w1=>Z0s cx cy dx dy bx by' w1 (by omega) (by omega) (by omega) (by omega) (by omega) (by omega) (by omega) (by omega) (by omega) (by omega) (by omega) (by omega))
     have hpc:Z4 ⟨cx,cy⟩=true:=ZS.2 pc;have hpd:Z4 ⟨dx,dy⟩=true:=ZS.2 pd;have hcr:crossR (⟨ax,ay⟩,⟨bx,by'⟩) (⟨cx,cy⟩,⟨dx,dy⟩)=if (crossB (turnV ax ay bx by' cx cy) (turnV ax ay bx by' dx dy) && crossB (turnV cx cy dx dy ax ay) (turnV cx cy dx dy bx by'))=true then frameR ⟨cx,cy⟩ ⟨dx,dy⟩ (turnV ax ay bx by' cx cy) (turnV ax ay bx by' dx dy) else []:=rfl
     rw [hcr] at hos;obtain⟨s,hs⟩:∃ s,turnV ax ay bx by' cx cy=s:=⟨_,rfl⟩
     obtain⟨t,ht⟩:∃ s,turnV ax ay bx by' dx dy=s:=⟨_,rfl⟩
     obtain⟨u,hu⟩:∃ s,turnV cx cy dx dy ax ay=s:=⟨_,rfl⟩;obtain⟨v,hv⟩:∃ s,turnV cx cy dx dy bx by'=s:=⟨_,rfl⟩
     rw [hs,ht,hu,hv] at hos;rw [hs] at f1 ts;rw [ht] at f2 tt;rw [hu] at f3;rw [hv] at f4;have d1:=Lib.hid (fun w1=>Z4o s t w1)
     have d2:=Lib.hid (fun w1=>Z4o u v w1)
     have hf:=Lib.hid (fun (hne:¬ s-t=0) w1=>Z7P ⟨cx,cy⟩ ⟨dx,dy⟩ s t w1 hpc hpd ts.1 ts.2 tt.1 tt.2 hne)
     have hne:crossB s t=true→¬ s-t=0:=fun h=>by unfold crossB at h;rw [decide_eq_true_eq] at h;omega
     obtain⟨c1,hc1⟩:∃ c,crossB s t=c:=⟨_,rfl⟩;obtain⟨c2,hc2⟩:∃ c,crossB u v=c:=⟨_,rfl⟩;rw [hc1] at d1 hos hne;rw [hc2] at d2 hos;have HOS:=Lib.hid hos;have HNE:=Lib.hid hne;have HS:=Lib.hid (hS.below h2.2.2.1);have HD:Hid (DS wr.heap.size (wr.heap.size+1) cx cy dx dy ((wr.alloc (.cells #[.int .i64 cx,.int .i64 cy] 58)).alloc (.cells #[.int .i64 dx,.int .i64 dy] 58))):=⟨h2.1,h2.2.1⟩;have ki:(j:Int)<m.length:=by omega
     have k0':(0:Int)≤j:=by omega
     have kmj:(mj:Int)<m.length:=by omega
     have kmj0:(0:Int)≤mj:=by omega
     have dj:decide ((j:Int)<(m.length:Int))=true:=by simp;omega
     obtain⟨C0,hC0⟩:∃ C0,wr.heap.size=C0:=⟨_,rfl⟩;have za0:=(HS.out.gA.cell (i:=0) rfl);have za1:=(HS.out.gA.cell (i:=1) rfl);have zb0:=(HS.out.gB.cell (i:=0) rfl);have zb1:=(HS.out.gB.cell (i:=1) rfl);have zc0:=(HD.out.gC.cell (i:=0) rfl);have zc1:=(HD.out.gC.cell (i:=1) rfl);have zd0:=(HD.out.gD.cell (i:=0) rfl);have zd1:=(HD.out.gD.cell (i:=1) rfl);clear q0 q1 q2 q3 hec hed hsd hos hme hS hBa h2 pa pb pc pd hpc hpd hcr hs ht hu hv ts tt hne hc1 hc2 hC0;go_wp2_with fail;refine (f1.out _).mono ?_;rintro e w5 ⟨rfl,b5⟩;have HS':=Lib.hid (HS.out.below b5);have HD':=Lib.hid (HD.out.below b5);clear za0 za1 zb0 zb1 zc0 zc1 zd0 zd1 HS HD;have HS:=HS';have HD:=HD';clear HS' HD';have za0:=(HS.out.gA.cell (i:=0) rfl);have za1:=(HS.out.gA.cell (i:=1) rfl);have zb0:=(HS.out.gB.cell (i:=0) rfl);have zb1:=(HS.out.gB.cell (i:=1) rfl);have zc0:=(HD.out.gC.cell (i:=0) rfl);have zc1:=(HD.out.gC.cell (i:=1) rfl);have zd0:=(HD.out.gD.cell (i:=0) rfl);have zd1:=(HD.out.gD.cell (i:=1) rfl);clear b5;go_wp2_with fail;refine (f2.out _).mono ?_;rintro e w6 ⟨rfl,b6⟩;have HS':=Lib.hid (HS.out.below b6);have HD':=Lib.hid (HD.out.below b6);clear za0 za1 zb0 zb1 zc0 zc1 zd0 zd1 HS HD;have HS:=HS';have HD:=HD';clear HS' HD';have za0:=Low.fact (HS.out.gA.cell (i:=0) rfl);have za1:=Low.fact (HS.out.gA.cell (i:=1) rfl);have zb0:=Low.fact (HS.out.gB.cell (i:=0) rfl);have zb1:=Low.fact (HS.out.gB.cell (i:=1) rfl);have zc0:=Low.fact (HD.out.gC.cell (i:=0) rfl);have zc1:=Low.fact (HD.out.gC.cell (i:=1) rfl);have zd0:=Low.fact (HD.out.gD.cell (i:=0) rfl);have zd1:=Low.fact (HD.out.gD.cell (i:=1) rfl);clear b6;go_wp2_with (go_at_call 195;refine (d1.out _).mono ?_;rintro e w' ⟨rfl,rfl⟩)
     (refine Zg (by kernel_rfl) (by kernel_rfl) ?_;(iterate 10 (apply Zf;(case hw=>rfl);(case hval=>(intro w1 hw1;have hcx:=Low.cells hw1;simp only [Oper.quietAt];go_simp;first | done | (first | (go_at_call 59;with_reducible exact Low.calls hw1 (f3.out _)) | (go_at_call 59;with_reducible exact Low.calls hw1 (f4.out _)) | (go_at_call 195;with_reducible exact Low.calls_same hw1 (d2.out _))) | rfl | exact⟨rfl,rfl⟩));simp only [Act.put,zq5,zr5,zs5]));refine wpQuiet_nil ?_;intro w2 hw2)
     have HS':=Lib.hid (HS.out.below hw2.out);have HD':=Lib.hid (HD.out.below hw2.out);clear za0 za1 zb0 zb1 zc0 zc1 zd0 zd1 HS HD;have HS:=HS';have HD:=HD';clear HS' HD';have za0:=(HS.out.gA.cell (i:=0) rfl);have za1:=(HS.out.gA.cell (i:=1) rfl);have zb0:=(HS.out.gB.cell (i:=0) rfl);have zb1:=(HS.out.gB.cell (i:=1) rfl);have zc0:=(HD.out.gC.cell (i:=0) rfl);have zc1:=(HD.out.gC.cell (i:=1) rfl);have zd0:=(HD.out.gD.cell (i:=0) rfl);have zd1:=(HD.out.gD.cell (i:=1) rfl);clear hw2 d1 d2 f1 f2 f3 f4 mt mw e0 e1 e2 e3;cases c1
     ·have hz:=HS.out.bel.size
      go_wp2;go_roundw
      case rel =>
       refine⟨j+1,by omega,by go_num,?_⟩
       rw [HOS.out]
       simpa using HS.out
      case measure=>simp [intOf];omega
     ·cases c2
      ·have hz:=HS.out.bel.size
       go_wp2;go_roundw
       case rel =>
        refine⟨j+1,by omega,by go_num,?_⟩
        rw [HOS.out]
        simpa using HS.out
       case measure=>simp [intOf];omega
      ·go_wp2_with fail
       refine (hf.out (HNE.out trivial) _).mono ?_;rintro e w8 ⟨vf,rfl,hpf,b8⟩;have HS':=Lib.hid (HS.out.below b8);obtain⟨_,af,capf,rfl,hcf⟩:=hpf;obtain⟨bf,of,rfl,hbf,hcf⟩:=hcf.resolve_left (fun h=>by have:=hfl s t;rw [h] at this;simp at this)
       have hz:=HS'.out.bel.size;have hl1:=hfl s t;rw [hl1];have hrw:=HS'.out.row;have hlen:(xs++rowTo (⟨ax,ay⟩,⟨bx,by'⟩) m j).length≤100000:=by rw [List.length_append];omega
       clear za0 za1 zb0 zb1 zc0 zc1 zd0 zd1 HS HD b8;go_wp2_with (at_builtin;refine wpList_append_own_at _ rfl _ _ 23 rfl w.heap.size 58 i0 (.agg #[.int .i64 0,.int .i64 0]) 2 16 Tryz.underlying23 hi hz0' hz1' hz2' rfl (by decide) _ _ _ rfl hrw ⟨bf,of,none⟩ 4 _ (Zb (frameR ⟨cx,cy⟩ ⟨dx,dy⟩ s t)) rfl (by rw [Zw,hl1]) (Z4a hcf) (Z05 _) (by unfold maxLen;omega) (by omega) hz ?_;intro v' w9 hown' hgrow _ hob)
       have HZ:=Lib.hid (HS'.out.app (ys:=frameR ⟨cx,cy⟩ ⟨dx,dy⟩ s t) (by rw [hl1];exact hown') hgrow hob)
       clear hown' hgrow hob hrw hcf;go_roundw
       case rel =>
        refine⟨j+1,by omega,by go_num,?_⟩
        rw [HOS.out];rw [← List.append_assoc];exact HZ.out
       case measure=>simp [intOf];omega
    ·obtain rfl:j=m.length:=by omega
     have dj:decide ((m.length:Int)<(m.length:Int))=false:=by simp
     have HZ:=Lib.hid hS;clear hS;go_wp2;go_roundw
     case rel =>
      refine⟨i+1,by omega,by go_num,?_,HZ.out.bel⟩
      rw [hos'.out];exact HZ.out.row
     case measure=>simp [intOf];omega
  ·obtain rfl:i=l.length:=by omega
   have dk:decide ((l.length:Int)<(l.length:Int))=false:=by simp
   have hxl:=Z21 l m l.length;have hlt4:4*m.length*l.length≤4*64*64:=Nat.mul_le_mul (Nat.mul_le_mul (Nat.le_refl 4) m64) l64;have HI:=Lib.hid (Z8.own hrow (by omega))
   have HB:=Lib.hid hB;clear hrow hB;go_wp2;go_ret;exact⟨_,rfl,HI.out,HB.out⟩
theorem Z1c (vp vq : Value) (l m : List Pt) (w : World) (hp : Z8 w.heap.size w vp l) (hq : Z8 w.heap.size w vq m) (hs : l.length ≤ 1000000) (hpl : ∀ k, k < l.length → Z4 (nth l k) = true) (hm : Zc m = true) :
  Calls Tryz.prog 167 #[vp,vq] w (PtsQ (cornersP l m) w):=by
 have HQ:=Lib.hid hq;have GM:=Lib.hid (Zn hm);have HPL:=Lib.hid hpl;obtain⟨hll,a,cap,rfl,hc⟩:=hp;obtain⟨aq,capq,rfl⟩:=hq.len;have HC:=Lib.hid hc;obtain⟨i0,hi,hz0',hz1',hz2'⟩:=info_parts ptInfo;clear hc hq hpl hm;go_enter Tryz.func167,Tryz.ntmps167;go_wp2
 go_loopw [5,6] (fun v i wr=>∃ k:Nat,k≤l.length∧i=.int .i64 (k:Int)∧wr.ownsRow w.heap.size 58 2 v (cornersTo l m k).length (Zb (cornersTo l m k))∧Below w.heap.size w wr) (fun _ i _=>l.length-(intOf i).toNat)
 case atStart=>exact⟨0,by omega,rfl,World.ownsRow_nil _ _ _ _,Below.refl _ _⟩
 case round =>
  obtain⟨k,hk,rfl,hrow,hB⟩:=hrel;have hzB:=hB.size;by_cases hlt:k<l.length
  ·obtain⟨b,o,rfl,hb,hcc⟩:∃ b o,a=some ⟨b,o,none⟩∧b<w.heap.size∧∀ j,j<l.length→w.cell? ⟨b,o+j*2,none⟩=some (.int .i64 (nth l j).x)∧w.cell? ⟨b,o+j*2+1,none⟩=some (.int .i64 (nth l j).y):=by
    rcases HC.out with h | h
    ·rw [h] at hlt;simp at hlt
    ·exact h
   obtain⟨q0,q1⟩:=hcc k hlt;have e0:=(hB.cell (p:=⟨b,o+k*2,none⟩) hb).trans q0;have e1:=(hB.cell (p:=⟨b,o+k*2+1,none⟩) hb).trans q1;have E01:=Lib.hid (And.intro q0 q1);have hlen:=ZO l m k;have hpx:=HPL.out k hlt;have hst:Hid (cornersTo l m (k+1)=if inside m ⟨(nth l k).x,(nth l k).y⟩=true then cornersTo l m k++[⟨(nth l k).x,(nth l k).y⟩] else cornersTo l m k):=by
    show _=_
    have:=Z54 GM.out hpx;simp only [cornersTo,show (hasB m (nth l k)=true)=(inside m (nth l k)=true) from propext this]
   obtain⟨cl,hcl⟩:∃ cl,cornersTo l m k=cl:=⟨_,rfl⟩;rw [hcl] at hrow hst hlen;have hh:=Z6k (.slice aq m.length (m.length+capq)) m ⟨(nth l k).x,(nth l k).y⟩ wr ((HQ.out.below hB).mono hB.size) GM.out hpx;have dk:decide ((k:Int)<(l.length:Int))=true:=by simp;omega
   have kl:(k:Int)<l.length:=by omega
   have k0:(0:Int)≤k:=by omega
   have HH:=Lib.hid hh;have HR:=Lib.hid hrow;have HB:=Lib.hid hB;clear hcc q0 q1 hrow hh hB hcl hpx;cases hin:inside m ⟨(nth l k).x,(nth l k).y⟩
   ·rw [hin] at HH hst
    clear hin;generalize (nth l k).x=px at *;generalize (nth l k).y=py at *;go_wp2_with fail;refine HH.out.mono ?_;rintro e w2 ⟨rfl,hb2⟩;have R2:=Lib.hid (Zo HR.out hb2);have B2:=Lib.hid (HB.out.trans (hb2.mono hzB));clear hb2;go_wp2;go_roundw
    case rel=>exact⟨k+1,by omega,by go_num,by rw [hst.out];exact R2.out,B2.out⟩
    case measure=>simp [intOf];omega
   ·rw [hin] at HH hst
    clear hin;generalize (nth l k).x=px at *;generalize (nth l k).y=py at *;go_wp2_with fail;refine HH.out.mono ?_;rintro e w2 ⟨rfl,hb2⟩;have R2:=Lib.hid (Zo HR.out hb2);have B2:=Lib.hid (HB.out.trans (hb2.mono hzB));have x0:=(B2.out.cell (p:=⟨b,o+k*2,none⟩) hb).trans E01.out.1;have x1:=(B2.out.cell (p:=⟨b,o+k*2+1,none⟩) hb).trans E01.out.2;have hz2:=B2.out.size;clear hb2 e0 e1;go_wp2_with (at_builtin;refine wpList_append_own _ rfl _ _ 23 rfl w.heap.size 58 i0 (.agg #[.int .i64 0,.int .i64 0]) 2 16 Tryz.underlying23 hi hz0' hz1' hz2' rfl (by decide) _ _ _ rfl (R2.out.alloc _) ⟨w2.heap.size,0,none⟩ 1 1 [.int .i64 px,.int .i64 py] rfl rfl (Z16 _ _ _) (by simp [Value.oneCell']) (by unfold maxLen;omega) (by omega) (by simp;omega) ?_;intro v' w4 hown' hgrow _)
    go_roundw
    case rel =>
     have hb0:Below w.heap.size w2 w4:=((Below.refl w.heap.size w2).alloc (by omega) _).grown hgrow (by simp;omega) (fun j ej=>(R2.out.lt j ej).1)
     refine⟨k+1,by omega,by go_num,?_,B2.out.trans hb0⟩
     rw [hst.out]
     simpa [Zb] using hown'
    case measure=>simp [intOf];omega
  ·obtain rfl:k=l.length:=by omega
   have dk:decide ((l.length:Int)<(l.length:Int))=false:=by simp
   have HI:=Lib.hid (Z8.own hrow (by have:=ZO l m l.length;omega))
   have HB:=Lib.hid hB;clear hrow hB;go_wp2;go_ret;exact⟨_,rfl,HI.out,HB.out⟩
noncomputable def liesB (l m:List Pt):Bool:=decide ((cornersP l m).length=l.length)
theorem Z2h {l m:List Pt}:∀ k,(cornersTo l m k).length=k→∀ j,j<k→hasB m (nth l j)=true
 | 0,_,j,hj=>by omega
 | k + 1, h, j, hj => by
  have hl:=ZO l m k;simp only [cornersTo] at h
  split at h
  ·rename_i hb
   simp only [List.length_append,List.length_singleton] at h;by_cases e:j=k
   ·rw [e];exact hb
   ·exact Z2h k (by omega) j (by omega)
  ·omega
theorem Z4T (vp vq:Value) (l m:List Pt) (w:World) (hp:Z8 w.heap.size w vp l) (hq:Z8 w.heap.size w vq m) (hl:Zc l=true) (hm:Zc m=true) :
  Calls Tryz.prog 104 #[vp,vq] w fun e w'=>e=.returned (.bool (liesB l m))∧Below w.heap.size w w':=by
 have GL:=Zn hl;have l64:=GL.2.1;have f:=Lib.hid (Z1c vp vq l m w hp hq (by omega) (fun k hk=>(GL.2.2.1 k hk).1) hm)
 obtain⟨ap,capp,rfl⟩:=hp.len;obtain⟨aq,capq,rfl⟩:=hq.len;have he:Hid (decide (((cornersP l m).length:Int)=(l.length:Int))=liesB l m):=by
  show _=_
  unfold liesB;rw [Bool.eq_iff_iff];simp only [decide_eq_true_eq];omega
 clear hp hq GL;go_enter Tryz.func104,Tryz.ntmps104;go_wp2_with fail;refine f.out.mono ?_;rintro e w1 ⟨v,rfl,h1,b1⟩;obtain⟨a1,cap1,rfl⟩:=h1.len;have B1:=Lib.hid b1;clear b1 h1;go_wp2;go_ret;exact⟨by rw [← he.out];first | rfl | (congr 2;rw [Bool.eq_iff_iff];simp),B1.out⟩
end
end Go.Proofs.YtpimbaaahcemhaaGreat
