/- The reference's stops: has, Stops. | The reference's Spent and Used. | landfallref32's SameInts and Has; landfallref03's Same. (Printed by tools/mk .. -/
import Derived.Test.YtcfkhkgldboddaaGreatBin16
set_option linter.unusedSimpArgs false
set_option maxRecDepth 8000
set_option maxHeartbeats 4000000
namespace Go.Proofs.YtcfkhkgldboddaaGreat
section
open Go.RowKit
theorem zAA {a b c:World} (p:Hid (Below a.heap.size a b)) (q:Below b.heap.size b c):Hid (Below a.heap.size a c):=Lib.hid (p.out.trans (q.mono p.out.size))
end
section
attribute [local irreducible] wpQuiet
open Go.RowKit
theorem Z2P {l:List Int} {s:Int}:s ∈ l↔∃ k,k<l.length∧l.getD k 0=s:=by
 constructor
 ·intro h
  obtain⟨k,hk,e⟩:=List.mem_iff_getElem.1 h;exact⟨k,hk,by simp [List.getD,List.getElem?_eq_getElem hk,e]⟩
 ·rintro ⟨k,hk,e⟩
  simp [List.getD,List.getElem?_eq_getElem hk] at e;rw [← e];exact List.getElem_mem hk
theorem Z7n (vl : Value) (l : List Int) (s : Int) (w : World) (hl : Z9 w.heap.size w vl l) :
  Calls Tryz.prog 121 #[vl,.int .i64 s] w fun e w'=>e=.returned (.bool (decide (s ∈ l)))∧Below w.heap.size w w':=by
 obtain⟨hll,al,capl,rfl,hlc⟩:=hl;have hlH:=Lib.hid hlc;clear hlc;go_enter Tryz.func121,Tryz.ntmps121;go_wp2
 go_loopw [5] (fun i wr=>∃ k:Nat,k≤l.length∧i=.int .i64 k∧(∀ j,j<k→l.getD j 0≠s)∧wr=w) (fun i _=>l.length-(intOf i).toNat)
 case atStart=>exact⟨0,by omega,rfl,fun j hj=>by omega,rfl⟩
 case round =>
  obtain⟨k,hk,rfl,hall,rfl⟩:=hrel;have hall':=Lib.hid hall;clear hall;by_cases hlt:k<l.length
  ·obtain⟨bl,ol,rfl,hbl,hcl⟩:∃ b1 o1,al=some ⟨b1,o1,none⟩∧b1<wr.heap.size∧∀ j,j<l.length→wr.cell? ⟨b1,o1+j,none⟩=some (.int .i64 (l.getD j 0)):=by
    rcases hlH.out with h | h
    ·rw [h] at hlt;simp at hlt
    ·exact h
   have f1:=hcl k hlt;clear hcl;obtain⟨q,hq⟩:∃ q,l.getD k 0=q:=⟨_,rfl⟩;rw [hq] at f1;have HQ:=Lib.hid hq;clear hq;by_cases he:q=s
   ·have hm:Hid (decide (s ∈ l)=true):=decide_eq_true (Z2P.2 ⟨k,hlt,HQ.out.trans he⟩)
    subst he;go_wp2;go_ret;exact⟨by rw [hm.out];rfl,Below.refl _ _⟩
   ·have hd:(q == s)=false:=by simpa using he
    have he':=Lib.hid he;clear he;go_wp2;go_roundw
    case rel=>exact⟨k+1,by omega,by go_num,fun j hj=>by
     by_cases e:j=k
     ·rw [e,HQ.out];exact he'.out
     ·exact hall'.out j (by omega),trivial⟩
    case measure=>simp [intOf];omega
  ·obtain rfl:k=l.length:=by omega
   have hm:Hid (decide (s ∈ l)=false):=decide_eq_false fun h=>by obtain⟨j,hj,e⟩:=Z2P.1 h;exact hall'.out j hj e
   go_wp2;go_ret;exact⟨by rw [hm.out];rfl,Below.refl _ _⟩
theorem Z0Q (W:World) (e:TypeId) (x:Value) {base:Nat} (h:base≤W.heap.size):(W.alloc (.cells #[x] e)).ownsRow base e 1 (.slice (some ⟨W.heap.size,0,none⟩) 1 1) 1 [x] :=
 ⟨rfl,.inr ⟨_,1,#[x],rfl,h,World.alloc_heap_new W _,by omega,by decide,rfl,rfl⟩⟩
theorem Two.low {base:Nat} {e:TypeId} {W X:World} {v1 v2 u1 u2:Value} {n1 n2 k1 k2:Nat} {l1 l2 m1 m2:List Value} (h:Two base e W X v1 v2 u1 u2 n1 n2 l1 l2) (r1:W.ownsRow base e 1 v1 k1 m1) (r2:W.ownsRow base e 1 v2 k2 m2) (hb:base≤W.heap.size):Below base W X :=
 ⟨h.os,h.tape,h.output,h.size,fun b hlt=>h.keep b (by omega) (Zs r1 hlt) (Zs r2 hlt)⟩
theorem Z7i (m : Msn) (vw vh vr vl : Value) (l : List Int) (w : World) (hm : MsnAt w.heap.size w m vw vh vr) (hl : Z9 w.heap.size w vl l) (hV : validB m = true) :
  Calls Tryz.prog 72 #[.agg (Zc m vw vh vr),vl] w fun e w'=>∃ v1 v2,e=.returned (.tuple #[v1,v2])∧Z9 w'.heap.size w' v1 (usedT m l)∧Z9 w'.heap.size w' v2 (usedE m l)∧Below w.heap.size w w':=by
 have V:=(Zn m).1 hV;have n41:=V.n41;have n2:=V.n2;obtain⟨b,o,cap,rfl,hb,hc2⟩:=hm.1.cells (by omega)
 have HL:=Lib.hid hl;have HM:=Lib.hid hm;have HCW:=Lib.hid hc2;have HV:=Lib.hid (And.intro hV V);have hhas:=Lib.hid (fun s w1 h=>Z7n vl l s w1 h)
 obtain⟨_,al,capl,rfl,_⟩:=hl;have H0:=Has.new w (Zc m (.slice (some ⟨b,o,none⟩) m.ways.length (m.ways.length+cap)) vh vr) 26;have H0':=Lib.hid H0;have R1:=Lib.hid ((Z0Q (w.alloc (.cells (Zc m (.slice (some ⟨b,o,none⟩) m.ways.length (m.ways.length+cap)) vh vr) 26)) 3 (.int .i64 0) (base:=w.heap.size+1) (by simp)).alloc (.cells #[.int .i64 0] 3))
 have R2:=Lib.hid (Z0Q ((w.alloc (.cells (Zc m (.slice (some ⟨b,o,none⟩) m.ways.length (m.ways.length+cap)) vh vr) 26)).alloc (.cells #[.int .i64 0] 3)) 3 (.int .i64 0) (base:=w.heap.size+1) (by simp))
 have H1:=Lib.hid ((H0.below ((Below.refl (w.heap.size+1) _).alloc (by simp) (.cells #[.int .i64 0] 3)) (by omega)).below ((Below.refl (w.heap.size+1) _).alloc (by simp) (.cells #[.int .i64 0] 3)) (by omega))
 have B1:Hid (Below w.heap.size w (((w.alloc (.cells (Zc m (.slice (some ⟨b,o,none⟩) m.ways.length (m.ways.length+cap)) vh vr) 26)).alloc (.cells #[.int .i64 0] 3)).alloc (.cells #[.int .i64 0] 3))):=(((Below.refl _ w).alloc (Nat.le_refl _) _).alloc (by first | omega | (simp;done) | (simp;omega)) _).alloc (by first | omega | (simp;done) | (simp;omega)) _
 obtain⟨i0,hi,hz0',hz1',hz2'⟩:=info_parts intInfo;clear hm hc2 hV V H0;unfold Zc at *;go_enter Tryz.func72,Tryz.ntmps72;go_wp2
 go_loopw [6,7,8,9,10] (fun v1 v2 t e i wr=>∃ k:Nat,k+1≤m.ways.length∧t=.int .i64 (usT m l k)∧e=.int .i64 (usE m l k)∧i=.int .i64 ((k:Int)+1) ∧
  wr.ownsRow (w.heap.size+1) 3 1 v1 (k+1) ((upto (usT m l) (k+1)).map (Value.int .i64))∧wr.ownsRow (w.heap.size+1) 3 1 v2 (k+1) ((upto (usE m l) (k+1)).map (Value.int .i64))∧(v1.ownBlock=none∨v1.ownBlock≠v2.ownBlock) ∧
  Has wr w.heap.size (Zc m (.slice (some ⟨b,o,none⟩) m.ways.length (m.ways.length+cap)) vh vr) 26∧Below w.heap.size w wr) (fun _ _ _ _ i _=>m.ways.length-(intOf i).toNat)
 case atStart =>
  refine⟨0,by omega,rfl,rfl,rfl,?_,?_,.inr ?_,H1.out,B1.out⟩
  ·have:=R1.out
   rw [World.size_alloc] at this;exact this
  ·have:=R2.out
   rw [World.size_alloc,World.size_alloc] at this;exact this
  ·simp [Value.ownBlock]
 case round =>
  obtain⟨k,hk,rfl,rfl,rfl,r1,r2,hne,H,hB⟩:=hrel;have hbase:w.heap.size+1≤wr.heap.size:=H.lt;obtain⟨ga,ca,rfl⟩:=ownsRow_succ r1;obtain⟨gb,cb,rfl⟩:=ownsRow_succ r2;obtain⟨hV,V⟩:=HV.out;by_cases hlt:k+1<m.ways.length
  ·have ub:=Z1A V l k (by omega)
   have wbd:=Z5G V l (k:=k) (by omega)
   have tb:=Z28 V.leg V.ways (i:=k) (j:=k+1) (by omega) hlt
   have eb:=Z1G V (i:=k) (j:=k+1) (by omega) hlt
   have BWf:=Lib.hid (fun X u1 u2 n1 n2 l1 l2 (h:Two (w.heap.size+1) 3 wr X _ _ u1 u2 n1 n2 l1 l2)=>hB.trans ((h.low r1 r2 hbase).mono (by omega)))
   have HAf:=Lib.hid (fun X u1 u2 n1 n2 l1 l2 (h:Two (w.heap.size+1) 3 wr X _ _ u1 u2 n1 n2 l1 l2)=>H.below (h.low r1 r2 hbase) (by omega))
   have hT:=Lib.hid (Two.refl r1 r2 hne);have hbt:∀ w1,MsnAt w1.heap.size w1 m _ vh vr→Calls Tryz.prog 122 #[.agg (Zc m (.slice (some ⟨b,o,none⟩) m.ways.length (m.ways.length+cap)) vh vr),.int .i64 (k:Int),.int .i64 ((k:Int)+1)] w1 fun e w'=>e=.returned (.tuple #[.int .i64 (tLeg m k (k+1)),.int .i64 (eLeg m k (k+1))])∧Below w1.heap.size w1 w':=fun w1 h=>Z2u m _ vh vr k (k+1) w1 h hV (by omega) hlt
   have hh:=hhas.out (k:Int) wr ((HL.out.below hB).mono hB.size);obtain⟨c0,c1,c2,c3,c4,c5,c6,c7,c8,c9,c10⟩:=Zh (m:=m) (vw:=.slice (some ⟨b,o,none⟩) m.ways.length (m.ways.length+cap)) (vh:=vh) (vr:=vr) H;have hsu:usT m l (k+1)=usT m l k+waitT m l k+tLeg m k (k+1)∧usE m l (k+1)=usE m l k+m.idle*waitT m l k+eLeg m k (k+1):=⟨rfl,rfl⟩;have hcw:=(HCW.out k (by omega)).2.2.2.1
   have u3:=(hB.cell (p:=⟨b,o+k*5+3,none⟩) hb).trans hcw;have zB:=hB.size;unfold Zc at hbt;have hbt:=Lib.hid hbt;have kw:IntKind.i64.wrap (k:Int)=k:=zW2;have k0:(0:Int)≤(k:Int):=by omega
   have k1:(k:Int)<m.ways.length:=by omega
   have d1:decide ((k:Int)+1<(m.ways.length:Int))=true:=by rw [decide_eq_true_eq];omega
   have UW:=Lib.hid hB;generalize hTe:tLeg m k (k+1)=tl at *;generalize hEe:eLeg m k (k+1)=el at *;by_cases hin:(k:Int) ∈ l
   ·have dl:decide ((k:Int) ∈ l)=true:=by simpa using hin
    rw [dl] at hh;simp only [waitT,hin,if_true] at hsu wbd;have hh:=Lib.hid hh;have hs:=Lib.hid hsu;have U3:=Lib.hid u3;generalize hqe:(wy m.ways k).wait=q at *;generalize usT m l k=t0 at *;generalize usE m l k=e0 at *;have y1:IntKind.i64.wrap (t0+q)=t0+q:=zW2;have y2:IntKind.i64.wrap (m.idle*q)=m.idle*q:=zW2;have y3:IntKind.i64.wrap (e0+m.idle*q)=e0+m.idle*q:=zW2;have y4:IntKind.i64.wrap (t0+q+tl)=t0+q+tl:=zW2;have y5:IntKind.i64.wrap (e0+m.idle*q+el)=e0+m.idle*q+el:=zW2;clear hV V r1 r2 hne H hB hsu hcw u3 ub wbd tb eb hin dl;go_wp2_with fail;refine hh.out.mono ?_;rintro e1 wb ⟨rfl,hb2⟩;replace hT:=Lib.hid (hT.out.grow ⟨hb2.os,hb2.tape,hb2.output,hb2.size,fun k hk _=>hb2.block k hk⟩)
    have u3:=(hb2.cell (p:=⟨b,o+k*5+3,none⟩) (show b<wr.heap.size by omega)).trans U3.out
    obtain⟨c0,c1,c2,c3,c4,c5,c6,c7,c8,c9,c10⟩:=Zh (m:=m) (vw:=.slice (some ⟨b,o,none⟩) m.ways.length (m.ways.length+cap)) (vh:=vh) (vr:=vr) (HAf.out _ _ _ _ _ _ _ hT.out);have l0:=Low.fact c0;have l7:=Low.fact c7;have l3:=Low.fact u3;clear hb2;go_wp2
    (refine Ze (by kernel_rfl) (by kernel_rfl) ?_;(iterate 13 (apply Zd;(case hw=>rfl);(case hval=>(intro w1 hw1;have hcx:=Low.cells hw1;simp only [Oper.quietAt];go_simp;first | done | rfl | exact⟨rfl,rfl⟩));simp only [Act.put,zq4,zr4,zs4]));refine wpQuiet_nil ?_;intro w2 hw2)
    replace hT:=Lib.hid (hT.out.grow ⟨hw2.out.os,hw2.out.tape,hw2.out.output,hw2.out.size,fun k hk _=>hw2.out.block k hk⟩)
    clear hw2 l0 l7 l3 u3 c0 c1 c2 c3 c4 c5 c6 c7 c8 c9 c10;obtain⟨c0,c1,c2,c3,c4,c5,c6,c7,c8,c9,c10⟩:=Zh (m:=m) (vw:=.slice (some ⟨b,o,none⟩) m.ways.length (m.ways.length+cap)) (vh:=vh) (vr:=vr) (HAf.out _ _ _ _ _ _ _ hT.out);go_wp2_with fail;refine (hbt.out _ ((HM.out.below (BWf.out _ _ _ _ _ _ _ hT.out)).mono (BWf.out _ _ _ _ _ _ _ hT.out).size)).mono ?_;rintro e3 w3 ⟨rfl,hb3⟩;replace hT:=Lib.hid (hT.out.grow ⟨hb3.os,hb3.tape,hb3.output,hb3.size,fun k hk _=>hb3.block k hk⟩)
    clear hb3;go_wp2_with (first | (at_builtin;refine wpList_append_own_at _ rfl _ _ 27 rfl (w.heap.size+1) 3 i0 (.int .i64 0) 1 8 Tryz.underlying27 hi hz0' hz1' hz2' rfl (by decide) _ _ _ rfl (hT.out.alloc (.cells #[.int .i64 (t0+q+tl)] 3)).r1 ⟨w3.heap.size,0,none⟩ 1 1 [.int .i64 (t0+q+tl)] rfl rfl (cell_one_new _ _ _) (by simp [Value.oneCell']) (by unfold maxLen;omega) (by omega) (Nat.le_trans hbase ((hT.out.alloc (.cells #[.int .i64 (t0+q+tl)] 3)).size)) ?_;intro u1 x1 hr1 hg1 _ ho1;replace hT:=Lib.hid ((hT.out.alloc (.cells #[.int .i64 (t0+q+tl)] 3)).app1 hg1 hr1 ho1);obtain⟨g1,cp1,rfl⟩:=ownsRow_succ hr1;clear hg1 hr1 ho1) | (at_builtin;refine wpList_append_own_at _ rfl _ _ 27 rfl (w.heap.size+1) 3 i0 (.int .i64 0) 1 8 Tryz.underlying27 hi hz0' hz1' hz2' rfl (by decide) _ _ _ rfl (hT.out.alloc (.cells #[.int .i64 (e0+m.idle*q+el)] 3)).r2 ⟨x1.heap.size,0,none⟩ 1 1 [.int .i64 (e0+m.idle*q+el)] rfl rfl (cell_one_new _ _ _) (by simp [Value.oneCell']) (by unfold maxLen;omega) (by omega) (Nat.le_trans hbase ((hT.out.alloc (.cells #[.int .i64 (e0+m.idle*q+el)] 3)).size)) ?_;intro u2 x2 hr2 hg2 _ ho2;replace hT:=Lib.hid ((hT.out.alloc (.cells #[.int .i64 (e0+m.idle*q+el)] 3)).app2 hg2 hr2 ho2);obtain⟨g2,cp2,rfl⟩:=ownsRow_succ hr2;clear hg2 hr2 ho2))
    go_roundw
    case rel =>
     refine⟨k+1,by omega,by rw [hs.out.1],by rw [hs.out.2],by go_num,?_,?_,hT.out.ne,HAf.out _ _ _ _ _ _ _ hT.out,BWf.out _ _ _ _ _ _ _ hT.out⟩
     ·rw [Zo,List.map_append,hs.out.1]
      exact hT.out.r1
     ·rw [Zo,List.map_append,hs.out.2]
      exact hT.out.r2
    case measure=>simp [intOf];omega
   ·have dl:decide ((k:Int) ∈ l)=false:=by simpa using hin
    rw [dl] at hh;simp only [waitT,hin,if_false,Int.mul_zero,Int.add_zero] at hsu;have hh:=Lib.hid hh;have hs:=Lib.hid hsu;generalize usT m l k=t0 at *;generalize usE m l k=e0 at *;have y4:IntKind.i64.wrap (t0+tl)=t0+tl:=zW2;have y5:IntKind.i64.wrap (e0+el)=e0+el:=zW2;clear hV V r1 r2 hne H hB hsu hcw u3 ub wbd tb eb hin dl;go_wp2_with fail;refine hh.out.mono ?_;rintro e1 wb ⟨rfl,hb2⟩;replace hT:=Lib.hid (hT.out.grow ⟨hb2.os,hb2.tape,hb2.output,hb2.size,fun k hk _=>hb2.block k hk⟩)
    clear hb2 c0 c1 c2 c3 c4 c5 c6 c7 c8 c9 c10;obtain⟨c0,c1,c2,c3,c4,c5,c6,c7,c8,c9,c10⟩:=Zh (m:=m) (vw:=.slice (some ⟨b,o,none⟩) m.ways.length (m.ways.length+cap)) (vh:=vh) (vr:=vr) (HAf.out _ _ _ _ _ _ _ hT.out);go_wp2_with fail;refine (hbt.out _ ((HM.out.below (BWf.out _ _ _ _ _ _ _ hT.out)).mono (BWf.out _ _ _ _ _ _ _ hT.out).size)).mono ?_;rintro e3 w3 ⟨rfl,hb3⟩;replace hT:=Lib.hid (hT.out.grow ⟨hb3.os,hb3.tape,hb3.output,hb3.size,fun k hk _=>hb3.block k hk⟩)
    clear hb3;go_wp2_with (first | (at_builtin;refine wpList_append_own_at _ rfl _ _ 27 rfl (w.heap.size+1) 3 i0 (.int .i64 0) 1 8 Tryz.underlying27 hi hz0' hz1' hz2' rfl (by decide) _ _ _ rfl (hT.out.alloc (.cells #[.int .i64 (t0+tl)] 3)).r1 ⟨w3.heap.size,0,none⟩ 1 1 [.int .i64 (t0+tl)] rfl rfl (cell_one_new _ _ _) (by simp [Value.oneCell']) (by unfold maxLen;omega) (by omega) (Nat.le_trans hbase ((hT.out.alloc (.cells #[.int .i64 (t0+tl)] 3)).size)) ?_;intro u1 x1 hr1 hg1 _ ho1;replace hT:=Lib.hid ((hT.out.alloc (.cells #[.int .i64 (t0+tl)] 3)).app1 hg1 hr1 ho1);obtain⟨g1,cp1,rfl⟩:=ownsRow_succ hr1;clear hg1 hr1 ho1) | (at_builtin;refine wpList_append_own_at _ rfl _ _ 27 rfl (w.heap.size+1) 3 i0 (.int .i64 0) 1 8 Tryz.underlying27 hi hz0' hz1' hz2' rfl (by decide) _ _ _ rfl (hT.out.alloc (.cells #[.int .i64 (e0+el)] 3)).r2 ⟨x1.heap.size,0,none⟩ 1 1 [.int .i64 (e0+el)] rfl rfl (cell_one_new _ _ _) (by simp [Value.oneCell']) (by unfold maxLen;omega) (by omega) (Nat.le_trans hbase ((hT.out.alloc (.cells #[.int .i64 (e0+el)] 3)).size)) ?_;intro u2 x2 hr2 hg2 _ ho2;replace hT:=Lib.hid ((hT.out.alloc (.cells #[.int .i64 (e0+el)] 3)).app2 hg2 hr2 ho2);obtain⟨g2,cp2,rfl⟩:=ownsRow_succ hr2;clear hg2 hr2 ho2))
    go_roundw
    case rel =>
     refine⟨k+1,by omega,by rw [hs.out.1],by rw [hs.out.2],by go_num,?_,?_,hT.out.ne,HAf.out _ _ _ _ _ _ _ hT.out,BWf.out _ _ _ _ _ _ _ hT.out⟩
     ·rw [Zo,List.map_append,hs.out.1]
      exact hT.out.r1
     ·rw [Zo,List.map_append,hs.out.2]
      exact hT.out.r2
    case measure=>simp [intOf];omega
  ·obtain hke:k+1=m.ways.length:=by omega
   have d1:decide ((k:Int)+1<(m.ways.length:Int))=false:=by rw [decide_eq_false_iff_not];omega
   have g1:(usedT m l).length≤70368744177663:=by simp [usedT,upto];omega
   have g2:(usedE m l).length≤70368744177663:=by simp [usedE,upto];omega
   have I1:Z9 wr.heap.size wr _ (usedT m l):=Z9.own (by unfold usedT;rw [← hke];exact r1) g1
   have I2:Z9 wr.heap.size wr _ (usedE m l):=Z9.own (by unfold usedE;rw [← hke];exact r2) g2
   have HI:=Lib.hid (And.intro I1 (And.intro I2 hB));obtain⟨c0,c1,c2,c3,c4,c5,c6,c7,c8,c9,c10⟩:=Zh (m:=m) (vw:=.slice (some ⟨b,o,none⟩) m.ways.length (m.ways.length+cap)) (vh:=vh) (vr:=vr) H;clear I1 I2 hB H r1 r2 hne hV V g1 g2;go_wp2;go_ret2;exact⟨_,_,rfl,HI.out.1,HI.out.2.1,HI.out.2.2⟩
theorem Z29 (va vb : Value) (a b : List Int) (w : World) (ha : Z9 w.heap.size w va a) (hb : Z9 w.heap.size w vb b) :
  Calls Tryz.prog 10 #[va,vb] w fun e w'=>e=.returned (.bool (decide (a=b)))∧Below w.heap.size w w':=by
 obtain⟨hla,aa,capa,rfl,hca⟩:=ha;obtain⟨hlb,ab,capb,rfl,hcb⟩:=hb;by_cases hl:a.length=b.length
 ·rw [← hl]
  have d0:((a.length:Int) != (a.length:Int))=false:=by simp
  have hcaH:=Lib.hid hca;have hcbH:=Lib.hid hcb;have hlH:=Lib.hid hl;clear hca hcb hl;go_enter Tryz.func10,Tryz.ntmps10;go_wp2
  go_loopw [5] (fun i wr=>∃ k:Nat,k≤a.length∧i=.int .i64 k∧(∀ j,j<k→a.getD j 0=b.getD j 0)∧Below w.heap.size w wr) (fun i _=>a.length-(intOf i).toNat)
  case atStart=>exact⟨0,by omega,rfl,fun j hj=>by omega,Below.refl _ _⟩
  case round =>
   obtain⟨k,hk,rfl,hall,hB⟩:=hrel;have hall':=Lib.hid hall;clear hall;by_cases hlt:k<a.length
   ·obtain⟨ba,oa,rfl,hba,hcA⟩:∃ b1 o1,aa=some ⟨b1,o1,none⟩∧b1<w.heap.size∧∀ j,j<a.length→w.cell? ⟨b1,o1+j,none⟩=some (.int .i64 (a.getD j 0)):=by
     rcases hcaH.out with h | h
     ·rw [h] at hlt;simp at hlt
     ·exact h
    obtain⟨bb,ob,rfl,hbb,hcB⟩:∃ b1 o1,ab=some ⟨b1,o1,none⟩∧b1<w.heap.size∧∀ j,j<b.length→w.cell? ⟨b1,o1+j,none⟩=some (.int .i64 (b.getD j 0)):=by
     rcases hcbH.out with h | h
     ·have:=hlH.out;rw [h] at this;simp at this;rw [this] at hlt;simp at hlt
     ·exact h
    have c1:=Low.fact ((hB.cell (p:=⟨ba,oa+k,none⟩) hba).trans (hcA k hlt));have c2:=Low.fact ((hB.cell (p:=⟨bb,ob+k,none⟩) hbb).trans (hcB k (by have:=hlH.out;omega)))
    have hi:(k:Int)<a.length:=by omega
    have hz:=hB.size;clear hcA hcB;by_cases he:a.getD k 0=b.getD k 0
    ·rw [← he] at c2
     have he':=Lib.hid he;clear he;generalize a.getD k 0=x at c1 c2;have dx:(x != x)=false:=by simp
     go_wp2
     (refine Ze (by kernel_rfl) (by kernel_rfl) ?_;(iterate 9 (apply Zd;(case hw=>rfl);(case hval=>(intro w1 hw1;have hcx:=Low.cells hw1;simp only [Oper.quietAt];go_simp;first | done | rfl | exact⟨rfl,rfl⟩));simp only [Act.put,zq4,zr4,zs4]));refine wpQuiet_nil ?_;intro w2 hw2)
     go_wp2;go_roundw
     case rel =>
      refine⟨k+1,by omega,by go_num,fun j hj=>?_,hB.trans (hw2.out.mono hz)⟩
      by_cases e:j=k
      ·rw [e];exact he'.out
      ·exact hall'.out j (by omega)
     case measure=>simp [intOf];omega
    ·have hne:Hid (decide (a=b)=false):=by
      show decide (a=b)=false
      simp only [decide_eq_false_iff_not];rintro rfl;exact he rfl
     generalize a.getD k 0=x at *;generalize b.getD k 0=y at *;have dx:(x != y)=true:=by simpa using he
     clear he;go_wp2
     (refine Ze (by kernel_rfl) (by kernel_rfl) ?_;(iterate 9 (apply Zd;(case hw=>rfl);(case hval=>(intro w1 hw1;have hcx:=Low.cells hw1;simp only [Oper.quietAt];go_simp;first | done | rfl | exact⟨rfl,rfl⟩));simp only [Act.put,zq4,zr4,zs4]));refine wpQuiet_nil ?_;intro w2 hw2)
     go_wp2;go_ret;exact⟨Zq hne.out.symm,hB.trans (hw2.out.mono hz)⟩
   ·have heq:Hid (decide (a=b)=true):=by
     show decide (a=b)=true
     simp only [decide_eq_true_eq];refine List.ext_getElem hlH.out fun j h1 h2=>?_
     have:=hall'.out j (by omega)
     simpa [List.getD,List.getElem?_eq_getElem h1,List.getElem?_eq_getElem h2] using this
    go_wp2;go_ret;exact⟨Zq heq.out.symm,hB⟩
 ·have hne:decide (a=b)=false:=by
   simp only [decide_eq_false_iff_not];rintro rfl;exact hl rfl
  rw [hne];have d0:((a.length:Int) != (b.length:Int))=true:=by simp;omega
  clear hca hcb hl hne;go_enter Tryz.func10,Tryz.ntmps10;go_wp2;go_ret;exact⟨rfl,zB2⟩
theorem Z7o (vl : Value) (l : List Int) (s : Int) (w : World) (hl : Z9 w.heap.size w vl l) :
  Calls Tryz.prog 120 #[vl,.int .i64 s] w fun e w'=>e=.returned (.bool (decide (s ∈ l)))∧Below w.heap.size w w':=by
 obtain⟨hll,al,capl,rfl,hlc⟩:=hl;have hlH:=Lib.hid hlc;clear hlc;go_enter Tryz.func120,Tryz.ntmps120;go_wp2
 go_loopw [5] (fun i wr=>∃ k:Nat,k≤l.length∧i=.int .i64 k∧(∀ j,j<k→l.getD j 0≠s)∧wr=w) (fun i _=>l.length-(intOf i).toNat)
 case atStart=>exact⟨0,by omega,rfl,fun j hj=>by omega,rfl⟩
 case round =>
  obtain⟨k,hk,rfl,hall,rfl⟩:=hrel;have hall':=Lib.hid hall;clear hall;by_cases hlt:k<l.length
  ·obtain⟨bl,ol,rfl,hbl,hcl⟩:∃ b1 o1,al=some ⟨b1,o1,none⟩∧b1<wr.heap.size∧∀ j,j<l.length→wr.cell? ⟨b1,o1+j,none⟩=some (.int .i64 (l.getD j 0)):=by
    rcases hlH.out with h | h
    ·rw [h] at hlt;simp at hlt
    ·exact h
   have f1:=hcl k hlt;clear hcl;obtain⟨q,hq⟩:∃ q,l.getD k 0=q:=⟨_,rfl⟩;rw [hq] at f1;have HQ:=Lib.hid hq;clear hq;by_cases he:q=s
   ·have hm:Hid (decide (s ∈ l)=true):=decide_eq_true (Z2P.2 ⟨k,hlt,HQ.out.trans he⟩)
    subst he;go_wp2;go_ret;exact⟨by rw [hm.out];rfl,Below.refl _ _⟩
   ·have hd:(q == s)=false:=by simpa using he
    have he':=Lib.hid he;clear he;go_wp2;go_roundw
    case rel=>exact⟨k+1,by omega,by go_num,fun j hj=>by
     by_cases e:j=k
     ·rw [e,HQ.out];exact he'.out
     ·exact hall'.out j (by omega),trivial⟩
    case measure=>simp [intOf];omega
  ·obtain rfl:k=l.length:=by omega
   have hm:Hid (decide (s ∈ l)=false):=decide_eq_false fun h=>by obtain⟨j,hj,e⟩:=Z2P.1 h;exact hall'.out j hj e
   go_wp2;go_ret;exact⟨by rw [hm.out];rfl,Below.refl _ _⟩
theorem Z17 (m : Msn) (vw vh vr vl : Value) (l : List Int) (w : World) (hfx : ∀ k, k < m.ways.length → 0 ≤ (wy m.ways k).fix) (hw : WaysAt w.heap.size w vw m.ways) (hl : Z9 w.heap.size w vl l) :
  Calls Tryz.prog 19 #[.agg (Zc m vw vh vr),vl] w fun e w'=>e=.returned (.bool (stopsB m l))∧Below w.heap.size w w':=by
 obtain⟨hll,al,capl,rfl,hlc⟩:=hl;obtain⟨hwl,aw,capw,rfl,hwc⟩:=hw;have H0:=Has.new w (Zc m (.slice aw m.ways.length (m.ways.length+capw)) vh vr) 26;have H0':=Lib.hid H0;have hlH:=Lib.hid hlc;have hwH:=Lib.hid hwc;have HFX:=Lib.hid hfx;clear hlc hwc H0 hfx;unfold Zc at *;go_enter Tryz.func19,Tryz.ntmps19;go_wp2
 go_loopw [5] (fun i wr=>∃ k:Nat,k≤l.length∧i=.int .i64 k∧(∀ j,j<k→stopOk m l j)∧Has wr w.heap.size (Zc m (.slice aw m.ways.length (m.ways.length+capw)) vh vr) 26∧Below w.heap.size w wr) (fun i _=>l.length-(intOf i).toNat)
 case atStart=>exact⟨0,by omega,rfl,fun j hj=>by omega,H0'.out,(Below.refl _ _).alloc (Nat.le_refl _) _⟩
 case round =>
  obtain⟨k,hk,rfl,hall,H,hB⟩:=hrel;have hzr:=hB.size;have hlt1:=H.lt;have hall':=Lib.hid hall;have HH:=Lib.hid H;have BB:=Lib.hid hB;have hp:=Z0E hall k (Nat.le_refl _);by_cases hlt:k<l.length
  ·obtain ⟨bl, ol, rfl, hbl, hcl⟩ : ∃ b1 o1, al = some ⟨b1, o1, none⟩ ∧ b1 < w.heap.size ∧ ∀ j, j < l.length → w.cell? ⟨b1, o1 + j, none⟩ = some (.int .i64 (l.getD j 0)) := by
    rcases hlH.out with h | h
    ·rw [h] at hlt;simp at hlt
    ·exact h
   have f1:=Low.fact ((hB.cell (p:=⟨bl,ol+k,none⟩) hbl).trans (hcl k hlt));have cc:=Low.fact (show wr.cell? ⟨w.heap.size,0,none⟩=some (.slice aw m.ways.length (m.ways.length+capw)) from H.cell (i:=0) rfl)
   have HC:=Lib.hid hcl;have hok:stopOk m l k↔prevS l k<l.getD k 0∧l.getD k 0<m.ways.length∧(wy m.ways (l.getD k 0).toNat).fix≠0:=Iff.rfl;have hpv:∀ j,k=j+1→prevS l k=l.getD j 0:=fun j e=>by subst e;simp [prevS]
   have hp0:k=0→prevS l k=0:=fun e=>by subst e;simp [prevS]
   clear hcl hall H hB;obtain⟨s,hs⟩:∃ s,l.getD k 0=s:=⟨_,rfl⟩;rw [hs] at f1 hok;have HO:=Lib.hid (And.intro hok (And.intro hpv (And.intro hp0 hs)));clear hok hpv hp0 hs;have kl:(k:Int)<l.length:=by omega
   have k0:(0:Int)≤k:=by omega
   have dk:decide ((k:Int)<(l.length:Int))=true:=by rw [decide_eq_true_eq];omega
   by_cases h1:s<1
   ·have hno:Hid (stopsB m l=false):=ZR hlt (fun h=>by have:=(HO.out.1.1 h).1;omega)
    have d1:decide (s<1)=true:=by simpa using h1
    clear h1;go_wp2
    (refine Ze (by kernel_rfl) (by kernel_rfl) ?_;(iterate 6 (apply Zd;(case hw=>rfl);(case hval=>(intro w1 hw1;have hcx:=Low.cells hw1;simp only [Oper.quietAt];go_simp;first | done | rfl | exact⟨rfl,rfl⟩));simp only [Act.put,zq4,zr4,zs4]));(iterate 8 (apply Zp;(case hw=>rfl);simp only [Act.put,zq4,zr4,zs4]));(iterate 2 (apply Zd;(case hw=>rfl);(case hval=>(intro w1 hw1;have hcx:=Low.cells hw1;simp only [Oper.quietAt];go_simp;first | done | rfl | exact⟨rfl,rfl⟩));simp only [Act.put,zq4,zr4,zs4]));(iterate 14 (apply Zp;(case hw=>rfl);simp only [Act.put,zq4,zr4,zs4]));(iterate 1 (apply Zd;(case hw=>rfl);(case hval=>(intro w1 hw1;have hcx:=Low.cells hw1;simp only [Oper.quietAt];go_simp;first | done | rfl | exact⟨rfl,rfl⟩));simp only [Act.put,zq4,zr4,zs4]));refine wpQuiet_nil ?_;intro w2 hw2)
    go_wp2;go_ret;exact⟨by rw [hno.out];rfl,BB.out.trans (hw2.out.mono BB.out.size)⟩
   ·have d1 : decide (s < 1) = false := by simpa using h1
    by_cases h2:s<m.ways.length
    ·have d2 : decide ((m.ways.length : Int) ≤ s) = false := by simp; omega
     obtain⟨q,rfl⟩:∃ q:Nat,s=q:=⟨s.toNat,by omega⟩
     obtain⟨bw,ow,rfl,hbw,hcw⟩:∃ b o,aw=some ⟨b,o,none⟩∧b<w.heap.size∧∀ j,j<m.ways.length→w.cell? ⟨b,o+j*5,none⟩=some (.int .i64 (wy m.ways j).x)∧w.cell? ⟨b,o+j*5+1,none⟩=some (.int .i64 (wy m.ways j).y)∧w.cell? ⟨b,o+j*5+2,none⟩=some (.int .i64 (wy m.ways j).fix)∧w.cell? ⟨b,o+j*5+3,none⟩=some (.int .i64 (wy m.ways j).wait)∧w.cell? ⟨b,o+j*5+4,none⟩=some (.int .i64 (wy m.ways j).back):=by
      rcases hwH.out with h | h
      ·rw [h] at h2;simp at h2;omega
      ·exact h
     have hql:q<m.ways.length:=by omega
     have d2n:decide (m.ways.length≤q)=false:=by simp;omega
     have d2m:¬ m.ways.length≤q:=by omega
     have HW2:=Lib.hid ((BB.out.cell (p:=⟨bw,ow+q*5+2,none⟩) hbw).trans (hcw q hql).2.2.1);have F1:=Lib.hid ((BB.out.cell (p:=⟨bl,ol+k,none⟩) hbl).trans ((HC.out k hlt).trans (by rw [HO.out.2.2.2])))
     have HOk:=HO.out.1;rw [Int.toNat_natCast] at HOk;have HOK:=Lib.hid HOk;have q0:(0:Int)≤(q:Int):=by omega
     have hf0:=HFX.out q hql;clear hcw HOk;obtain⟨fx,hfx⟩:∃ fx,(wy m.ways q).fix=fx:=⟨_,rfl⟩;rw [hfx] at hf0;have HFV:=Lib.hid hfx;clear hfx;cases k with
     | zero =>
      have d4:decide ((0:Int)>0)=false:=by decide
      have hpz:Hid (prevS l 0<(q:Int)):=by show _<_;simp only [prevS,if_true];omega
      simp only [Int.natCast_zero,Nat.add_zero] at *;go_wp2
      (refine Ze (by kernel_rfl) (by kernel_rfl) ?_;(iterate 19 (apply Zd;(case hw=>rfl);(case hval=>(intro w1 hw1;have hcx:=Low.cells hw1;simp only [Oper.quietAt];go_simp;first | done | rfl | exact⟨rfl,rfl⟩));simp only [Act.put,zq4,zr4,zs4]));(iterate 10 (apply Zp;(case hw=>rfl);simp only [Act.put,zq4,zr4,zs4]));(iterate 2 (apply Zd;(case hw=>rfl);(case hval=>(intro w1 hw1;have hcx:=Low.cells hw1;simp only [Oper.quietAt];go_simp;first | done | rfl | exact⟨rfl,rfl⟩));simp only [Act.put,zq4,zr4,zs4]));refine wpQuiet_nil ?_;intro w2 hw2)
      clear f1 cc;have BW:=Lib.hid hw2.out;have H2:=HH.out.below hw2.out hlt1;have HH2:=Lib.hid H2;have g1:=Low.fact (hw2.cell F1.out);have gc:=Low.fact (show w2.cell? ⟨w.heap.size,0,none⟩=some (.slice (some ⟨bw,ow,none⟩) m.ways.length (m.ways.length+capw)) from H2.cell (i:=0) rfl)
      have gw:=Low.fact ((hw2.cell HW2.out).trans (by rw [HFV.out]))
      clear H2 hw2 d1 d2;obtain⟨wa,rfl⟩:∃ wa,wa=w2:=⟨_,rfl⟩;have hza:=BW.out.size;by_cases h3:fx=0
      ·have hno:Hid (stopsB m l=false):=ZR hlt (fun h=>(HOK.out.1 h).2.2 (HFV.out.trans h3))
       subst h3;go_wp2
       (refine Ze (by kernel_rfl) (by kernel_rfl) ?_;(iterate 10 (apply Zd;(case hw=>rfl);(case hval=>(intro w1 hw1;have hcx:=Low.cells hw1;simp only [Oper.quietAt];go_simp;first | done | rfl | exact⟨rfl,rfl⟩));simp only [Act.put,zq4,zr4,zs4]));refine wpQuiet_nil ?_;intro w2 hw2)
       go_wp2;go_ret;exact⟨by rw [hno.out];rfl,BB.out.trans ((BW.out.trans (hw2.out.mono BW.out.size)).mono BB.out.size)⟩
      ·have d3:decide (fx<1)=false:=by simp;omega
       have h3':Hid ((wy m.ways q).fix≠0):=by show _≠_;rw [HFV.out];exact h3
       clear h3;go_wp2
       (refine Ze (by kernel_rfl) (by kernel_rfl) ?_;(iterate 10 (apply Zd;(case hw=>rfl);(case hval=>(intro w1 hw1;have hcx:=Low.cells hw1;simp only [Oper.quietAt];go_simp;first | done | rfl | exact⟨rfl,rfl⟩));simp only [Act.put,zq4,zr4,zs4]));refine wpQuiet_nil ?_;intro w2 hw2)
       go_wp2;go_roundw
       case rel =>
        refine⟨0+1,by omega,by go_num,fun i hi=>?_,HH2.out.below (hw2.out.mono (by omega)) (by omega),BB.out.trans ((BW.out.trans (hw2.out.mono BW.out.size)).mono BB.out.size)⟩
        by_cases e:i=0
        ·rw [e]
         exact HOK.out.2 ⟨hpz.out,h2,h3'.out⟩
        ·exact hall'.out i (by omega)
       case measure=>simp [intOf];omega
     | succ j =>
      have F2:=Low.fact ((BB.out.cell (p:=⟨bl,ol+j,none⟩) hbl).trans (HC.out j (by omega)))
      have hpj:=HO.out.2.1 j rfl;obtain⟨pv,hpv⟩:∃ pv,l.getD j 0=pv:=⟨_,rfl⟩;rw [hpv] at F2 hpj;have HPJ:=Lib.hid hpj;clear hpv hpj;have j1:(j:Int)<l.length:=by omega
      have j2:(j:Int)+1<l.length:=by omega
      have j3:(0:Int)≤(j:Int)+1:=by omega
      have j4:(0:Int)≤(j:Int):=by omega
      have j5:IntKind.i64.wrap (j:Int)=j:=zW2;have d4:decide ((j:Int)+1>0)=true:=by rw [decide_eq_true_eq];omega
      by_cases h5:(q:Int)≤pv
      ·have hno:Hid (stopsB m l=false):=ZR hlt (fun h=>by have:=(HOK.out.1 h).1;rw [HPJ.out] at this;omega)
       have d5:decide ((q:Int)≤pv)=true:=by simpa using h5
       clear h5;go_wp2
       (refine Ze (by kernel_rfl) (by kernel_rfl) ?_;(iterate 31 (apply Zd;(case hw=>rfl);(case hval=>(intro w1 hw1;have hcx:=Low.cells hw1;simp only [Oper.quietAt];go_simp;first | done | rfl | exact⟨rfl,rfl⟩));simp only [Act.put,zq4,zr4,zs4]));refine wpQuiet_nil ?_;intro w2 hw2)
       go_wp2;go_ret;exact⟨by rw [hno.out];rfl,BB.out.trans (hw2.out.mono BB.out.size)⟩
      ·have d5:decide ((q:Int)≤pv)=false:=by simpa using h5
       have h5':Hid (pv<(q:Int)):=by show _<_;omega
       clear h5;go_wp2
       (refine Ze (by kernel_rfl) (by kernel_rfl) ?_;(iterate 31 (apply Zd;(case hw=>rfl);(case hval=>(intro w1 hw1;have hcx:=Low.cells hw1;simp only [Oper.quietAt];go_simp;first | done | rfl | exact⟨rfl,rfl⟩));simp only [Act.put,zq4,zr4,zs4]));refine wpQuiet_nil ?_;intro w2 hw2)
       clear f1 cc F2;have BW:=Lib.hid hw2.out;have H2:=HH.out.below hw2.out hlt1;have HH2:=Lib.hid H2;have g1:=Low.fact (hw2.cell F1.out);have gc:=Low.fact (show w2.cell? ⟨w.heap.size,0,none⟩=some (.slice (some ⟨bw,ow,none⟩) m.ways.length (m.ways.length+capw)) from H2.cell (i:=0) rfl)
       have gw:=Low.fact ((hw2.cell HW2.out).trans (by rw [HFV.out]))
       clear H2 hw2 d1 d2;obtain⟨wa,rfl⟩:∃ wa,wa=w2:=⟨_,rfl⟩;have hza:=BW.out.size;by_cases h3:fx=0
       ·have hno:Hid (stopsB m l=false):=ZR hlt (fun h=>(HOK.out.1 h).2.2 (HFV.out.trans h3))
        subst h3;go_wp2
        (refine Ze (by kernel_rfl) (by kernel_rfl) ?_;(iterate 10 (apply Zd;(case hw=>rfl);(case hval=>(intro w1 hw1;have hcx:=Low.cells hw1;simp only [Oper.quietAt];go_simp;first | done | rfl | exact⟨rfl,rfl⟩));simp only [Act.put,zq4,zr4,zs4]));refine wpQuiet_nil ?_;intro w2 hw2)
        go_wp2;go_ret;exact⟨by rw [hno.out];rfl,BB.out.trans ((BW.out.trans (hw2.out.mono BW.out.size)).mono BB.out.size)⟩
       ·have d3:decide (fx<1)=false:=by simp;omega
        have h3':Hid ((wy m.ways q).fix≠0):=by show _≠_;rw [HFV.out];exact h3
        clear h3;go_wp2
        (refine Ze (by kernel_rfl) (by kernel_rfl) ?_;(iterate 10 (apply Zd;(case hw=>rfl);(case hval=>(intro w1 hw1;have hcx:=Low.cells hw1;simp only [Oper.quietAt];go_simp;first | done | rfl | exact⟨rfl,rfl⟩));simp only [Act.put,zq4,zr4,zs4]));refine wpQuiet_nil ?_;intro w2 hw2)
        go_wp2;go_roundw
        case rel =>
         refine⟨(j+1)+1,by omega,by go_num,fun i hi=>?_,HH2.out.below (hw2.out.mono (by omega)) (by omega),BB.out.trans ((BW.out.trans (hw2.out.mono BW.out.size)).mono BB.out.size)⟩
         by_cases e:i=(j+1)
         ·rw [e]
          exact HOK.out.2 ⟨by rw [HPJ.out];exact h5'.out,h2,h3'.out⟩
         ·exact hall'.out i (by omega)
        case measure=>simp [intOf];omega
    ·have hno:Hid (stopsB m l=false):=ZR hlt (fun h=>h2 (HO.out.1.1 h).2.1)
     have d2:decide ((m.ways.length:Int)≤s)=true:=by simp;omega
     go_wp2
     (refine Ze (by kernel_rfl) (by kernel_rfl) ?_;(iterate 16 (apply Zd;(case hw=>rfl);(case hval=>(intro w1 hw1;have hcx:=Low.cells hw1;simp only [Oper.quietAt];go_simp;first | done | rfl | exact⟨rfl,rfl⟩));simp only [Act.put,zq4,zr4,zs4]));(iterate 14 (apply Zp;(case hw=>rfl);simp only [Act.put,zq4,zr4,zs4]));(iterate 1 (apply Zd;(case hw=>rfl);(case hval=>(intro w1 hw1;have hcx:=Low.cells hw1;simp only [Oper.quietAt];go_simp;first | done | rfl | exact⟨rfl,rfl⟩));simp only [Act.put,zq4,zr4,zs4]));refine wpQuiet_nil ?_;intro w2 hw2)
     go_wp2;go_ret;exact⟨by rw [hno.out];rfl,BB.out.trans (hw2.out.mono BB.out.size)⟩
  ·obtain rfl:k=l.length:=by omega
   have hyes:Hid (stopsB m l=true):=by
    show stopsB m l=true
    simp only [stopsB,decide_eq_true_eq];exact hall'.out
   have hd:decide ((l.length:Int)<(l.length:Int))=false:=by simp
   clear hall H hB;go_wp2;go_ret;exact⟨by rw [hyes.out];rfl,BB.out⟩
theorem ZaV {m:Msn} (V:VMsn m):∀ k,k<m.ways.length→0≤(wy m.ways k).fix:=fun _ hk=>(ZL (Z0h V.ways hk)).2.2.2.2.1
theorem Z8p (m:Msn) (vw vh vr vl:Value) (l:List Int) (w:World) (hm:MsnAt w.heap.size w m vw vh vr) (hl:Z9 w.heap.size w vl l) (hE:radOkB m l=false) :
  Calls Tryz.prog 71 #[.agg (Zc m vw vh vr),vl] w (UsedQ [] [] 1 w):=by
 have hA:=(Below.refl w.heap.size w).alloc (Nat.le_refl _) (.cells (Zc m vw vh vr) 26);have hv:=Z0D m vw vh vr (w.alloc (.cells (Zc m vw vh vr) 26)) ((hm.below hA).mono hA.size);have BA:=Lib.hid hA;have HM:=Lib.hid hm;have HL:=Lib.hid hl;have HN:=Lib.hid (Has.new w (Zc m vw vh vr) 26);have hs0:w.heap.size<(w.alloc (.cells (Zc m vw vh vr) 26)).heap.size:=by simp
 obtain⟨⟨_,a1,cap1,rfl,_⟩,⟨_,a2,cap2,rfl,_⟩,⟨_,a3,cap3,rfl,_⟩⟩:=hm;obtain⟨_,al,capl,rfl,_⟩:=hl;cases hV:validB m
 ·rw [hV] at hv
  have hv:=Lib.hid hv;clear hV hE hA;unfold Zc at *;go_enter Tryz.func71,Tryz.ntmps71;go_wp2_with fail;refine (hv.out).mono ?_;rintro e w1 ⟨rfl,b1⟩;have B1:=zAA BA b1;clear b1;go_wp2;go_ret3;exact⟨_,_,rfl,Z9.nil _ _,Z9.nil _ _,B1.out⟩
 ·rw [hV] at hv
  have hv:=Lib.hid hv;have hst:stopsB m l=false:=by simpa [radOkB,hV] using hE
  have hs:=fun w1 (h1:MsnAt w1.heap.size w1 m (.slice a1 m.ways.length (m.ways.length+cap1)) (.slice a2 m.home.length (m.home.length+cap2)) (.slice a3 m.rocks.length (m.rocks.length+cap3))) h2=>Z17 m (.slice a1 m.ways.length (m.ways.length+cap1)) (.slice a2 m.home.length (m.home.length+cap2)) (.slice a3 m.rocks.length (m.rocks.length+cap3)) (.slice al l.length (l.length+capl)) l w1 (ZaV ((Zn m).1 hV)) h1.1 h2
  rw [hst] at hs;have hs:=Lib.hid hs;clear hV hE hA hst;unfold Zc at *;go_enter Tryz.func71,Tryz.ntmps71;go_wp2_with fail;refine (hv.out).mono ?_;rintro e w1 ⟨rfl,b1⟩;have B1:=zAA BA b1;have H1:=HN.out.below b1 hs0;obtain⟨c0,c1,c2,c3,c4,c5,c6,c7,c8,c9,c10⟩:=Zh (m:=m) (vw:=.slice a1 m.ways.length (m.ways.length+cap1)) (vh:=.slice a2 m.home.length (m.home.length+cap2)) (vr:=.slice a3 m.rocks.length (m.rocks.length+cap3)) H1;clear H1 b1;go_wp2_with fail;refine (hs.out _ ((HM.out.below B1.out).mono B1.out.size) ((HL.out.below B1.out).mono B1.out.size)).mono ?_;rintro e w2 ⟨rfl,b2⟩;have B2:=zAA B1 b2;clear b2;go_wp2;go_ret3;exact⟨_,_,rfl,Z9.nil _ _,Z9.nil _ _,B2.out⟩
theorem Z8c (f:Nat→Int) (k:Nat):((upto f (k+1)).map (Value.int .i64))[k]?=some (.int .i64 (f k)):=by simp [upto]
theorem Z7k (m : Msn) (vw vh vr vl : Value) (l : List Int) (w : World) (hm : MsnAt w.heap.size w m vw vh vr) (hl : Z9 w.heap.size w vl l) (hV : validB m = true) (hst : stopsB m l = true) :
  Calls Tryz.prog 71 #[.agg (Zc m vw vh vr),vl] w (UsedQ (upto (rdB m l) m.ways.length) (upto (rdA m l) m.ways.length) 0 w):=by
 have V:=(Zn m).1 hV;have n41:=V.n41;have n2:=V.n2;obtain⟨b,o,cap,rfl,hb,hc2⟩:=hm.1.cells (by omega)
 have hA:=(Below.refl w.heap.size w).alloc (Nat.le_refl _) (.cells (Zc m (.slice (some ⟨b,o,none⟩) m.ways.length (m.ways.length+cap)) vh vr) 26);have hv:=Z0D m (.slice (some ⟨b,o,none⟩) m.ways.length (m.ways.length+cap)) vh vr (w.alloc (.cells (Zc m (.slice (some ⟨b,o,none⟩) m.ways.length (m.ways.length+cap)) vh vr) 26)) ((hm.below hA).mono hA.size);rw [hV] at hv;have hv:=Lib.hid hv;have hs:=fun w1 (h1:MsnAt w1.heap.size w1 m (.slice (some ⟨b,o,none⟩) m.ways.length (m.ways.length+cap)) vh vr) h2=>Z17 m (.slice (some ⟨b,o,none⟩) m.ways.length (m.ways.length+cap)) vh vr vl l w1 (ZaV V) h1.1 h2
 rw [hst] at hs;have hs:=Lib.hid hs;have BA:=Lib.hid hA;have HL:=Lib.hid hl;have HM:=Lib.hid hm;have HCW:=Lib.hid hc2;have HV:=Lib.hid (And.intro hV V);have hhas:=Lib.hid (fun s w1 h=>Z7o vl l s w1 h)
 have HN:=Lib.hid (Has.new w (Zc m (.slice (some ⟨b,o,none⟩) m.ways.length (m.ways.length+cap)) vh vr) 26);have hs0:w.heap.size<(w.alloc (.cells (Zc m (.slice (some ⟨b,o,none⟩) m.ways.length (m.ways.length+cap)) vh vr) 26)).heap.size:=by simp
 obtain⟨_,al,capl,rfl,_⟩:=hl;obtain⟨_,⟨_,a2,cap2,rfl,_⟩,⟨_,a3,cap3,rfl,_⟩⟩:=hm;obtain⟨i0,hi,hz0',hz1',hz2'⟩:=info_parts intInfo;clear hc2 hV V hA hst;unfold Zc at *;go_enter Tryz.func71,Tryz.ntmps71;go_wp2_with fail;refine (hv.out).mono ?_;rintro e w1 ⟨rfl,b1⟩;have B1:=zAA BA b1;have H1:=HN.out.below b1 hs0;obtain⟨c0,c1,c2,c3,c4,c5,c6,c7,c8,c9,c10⟩:=Zh (m:=m) (vw:=(.slice (some ⟨b,o,none⟩) m.ways.length (m.ways.length+cap))) (vh:=.slice a2 m.home.length (m.home.length+cap2)) (vr:=.slice a3 m.rocks.length (m.rocks.length+cap3)) H1;have HN1:=Lib.hid H1;clear H1 b1;go_wp2_with fail;refine (hs.out _ ((HM.out.below B1.out).mono B1.out.size) ((HL.out.below B1.out).mono B1.out.size)).mono ?_;rintro e w2 ⟨rfl,b2⟩;have B2:=zAA B1 b2;have H2:=HN1.out.below b2 HN1.out.lt;clear c0 c1 c2 c3 c4 c5 c6 c7 c8 c9 c10;obtain⟨c0,c1,c2,c3,c4,c5,c6,c7,c8,c9,c10⟩:=Zh (m:=m) (vw:=(.slice (some ⟨b,o,none⟩) m.ways.length (m.ways.length+cap))) (vh:=.slice a2 m.home.length (m.home.length+cap2)) (vr:=.slice a3 m.rocks.length (m.rocks.length+cap3)) H2;have HN2:=Lib.hid H2;clear H2 b2;have hz2:=B2.out.size;have hn2:=HN2.out.lt;have R1:=Lib.hid ((Z0Q w2 3 (.int .i64 m.start) (base:=w2.heap.size) (Nat.le_refl _)).alloc (.cells #[.int .i64 m.start] 3));have R2:=Lib.hid (Z0Q (w2.alloc (.cells #[.int .i64 m.start] 3)) 3 (.int .i64 m.start) (base:=w2.heap.size) (by simp))
 have B3:Hid (Below w2.heap.size w2 ((w2.alloc (.cells #[.int .i64 m.start] 3)).alloc (.cells #[.int .i64 m.start] 3))):=((Below.refl _ w2).alloc (Nat.le_refl _) _).alloc (by first | omega | (simp;done) | (simp;omega)) _
 go_wp2;obtain⟨wS,rfl⟩:∃ x,x=w2:=⟨_,rfl⟩
 go_loopw [9,10,11] (fun v1 v2 i wr=>∃ k:Nat,k+1≤m.ways.length∧i=.int .i64 ((k:Int)+1) ∧
  wr.ownsRow wS.heap.size 3 1 v1 (k+1) ((upto (rdB m l) (k+1)).map (Value.int .i64))∧wr.ownsRow wS.heap.size 3 1 v2 (k+1) ((upto (rdA m l) (k+1)).map (Value.int .i64))∧(v1.ownBlock=none∨v1.ownBlock≠v2.ownBlock)∧Below wS.heap.size wS wr) (fun _ _ i _=>m.ways.length-(intOf i).toNat)
 case atStart =>
  refine⟨0,by omega,rfl,?_,?_,.inr ?_,B3.out⟩
  ·exact R1.out
  ·have:=R2.out
   rw [World.size_alloc] at this;exact this
  ·simp [Value.ownBlock]
 case round =>
  obtain⟨k,hk,rfl,r1,r2,hne,hB⟩:=hrel;have hbase:wS.heap.size≤wr.heap.size:=hB.size;obtain⟨ga,ca,rfl⟩:=ownsRow_succ r1;obtain⟨gb,cb,rfl⟩:=ownsRow_succ r2;obtain⟨hV,V⟩:=HV.out;have hBw:=B2.out.trans (hB.mono hz2);have H:=HN2.out.below hB hn2;by_cases hlt:k+1<m.ways.length
  ·obtain ⟨m1, m2, m3, m4, m5, m6⟩ := V.leg
   obtain⟨y1,y2,y3,y4⟩:=ZG V.ways (j:=k) (by omega)
   obtain⟨x1,x2,x3,x4⟩:=ZG V.ways hlt;have hl1:=fun w1=>Z0K (wy m.ways k).x (wy m.ways k).y (wy m.ways (k+1)).x (wy m.ways (k+1)).y w1 y1 y2 y3 y4 x1 x2 x3 x4
   have e1:=Z0V V.ways (i:=k) (j:=k+1) (by omega) hlt
   have hh1:=fun w1=>Z0P m (.slice (some ⟨b,o,none⟩) m.ways.length (m.ways.length+cap)) (.slice a2 m.home.length (m.home.length+cap2)) (.slice a3 m.rocks.length (m.rocks.length+cap3)) (dLeg m k (k+1)) w1 e1.1 e1.2 m1 m2 m3 m4 m5 m6
   change ∀ w1,Calls _ _ _ _ fun e w'=>e=.returned (.int .i64 (dLeg m k (k+1)))∧_ at hl1
   change ∀ w1,Calls _ _ _ _ fun e w'=>e=.returned (.int .i64 (gLeg m k (k+1)))∧_ at hh1
   have gb1:=Z03 V.leg V.ways (i:=k) (j:=k+1) (by omega) hlt
   have rb:=rd_le V l (k:=k) (by omega)
   have hBs:rdB m l (k+1)=rdA m l k+gLeg m k (k+1):=rfl;have hAs:=Z1S m l k;have lr:=Low.fact ((r2.cellAt k (by omega)).trans (Z8c (rdA m l) k))
   obtain⟨u0,u1,_,_,_⟩:=HCW.out k (by omega)
   obtain⟨p0,p1,p2,_,_⟩:=HCW.out (k+1) hlt;obtain⟨c0,c1,c2,c3,c4,c5,c6,c7,c8,c9,c10⟩:=Z0T H;have lu0:=Low.fact ((hBw.cell (p:=⟨b,o+k*5,none⟩) hb).trans u0);have lu1:=Low.fact ((hBw.cell (p:=⟨b,o+k*5+1,none⟩) hb).trans u1);have lp0:=Low.fact ((hBw.cell (p:=⟨b,o+(k+1)*5,none⟩) hb).trans p0);have lp1:=Low.fact ((hBw.cell (p:=⟨b,o+(k+1)*5+1,none⟩) hb).trans p1);have LP2:=Lib.hid (fun X (B:Below wS.heap.size wS X)=>((B2.out.trans (B.mono hz2)).cell (p:=⟨b,o+(k+1)*5+2,none⟩) hb).trans p2)
   have BWf:=Lib.hid (fun X u1 u2 n1 n2 l1 l2 (h:Two wS.heap.size 3 wr X _ _ u1 u2 n1 n2 l1 l2)=>hB.trans (h.low r1 r2 hbase))
   have HC0:=Lib.hid (fun X (B:Below wS.heap.size wS X)=>(HN2.out.below B hn2).cell (i:=0) rfl)
   have hT:=Lib.hid (Two.refl r1 r2 hne);have hh:=fun X (B:Below wS.heap.size wS X)=>hhas.out ((k:Int)+1) X ((HL.out.below (B2.out.trans (B.mono hz2))).mono (B2.out.trans (B.mono hz2)).size)
   have hin2:(((k+1:Nat):Int) ∈ l)=((k:Int)+1 ∈ l):=rfl;generalize dLeg m k (k+1)=dl at *;generalize hge:gLeg m k (k+1)=g at *;obtain⟨A,hAe⟩:∃ A,rdA m l k=A:=⟨_,rfl⟩;rw [hAe] at rb hBs lr;rw [hBs] at hAs;have n1:IntKind.i64.wrap (A+g)=A+g:=zW2;have n3:IntKind.i64.wrap (k:Int)=k:=zW2;have hl1':=Lib.hid hl1;have hh1':=Lib.hid hh1;have kl:k<m.ways.length:=by omega
   have kl':(k:Int)<(m.ways.length:Int):=by omega
   have hltI:(k:Int)+1<(m.ways.length:Int):=by omega
   have k0:(0:Int)≤(k:Int):=by omega
   have k1:(0:Int)≤(k:Int)+1:=by omega
   have k2:((k:Int)+1).toNat=k+1:=by omega
   have k3:(k:Int)<(k:Int)+1:=by omega
   have d1:decide ((k:Int)+1<(m.ways.length:Int))=true:=by rw [decide_eq_true_eq];omega
   have cc0:=c0 wr (Below.refl _ _);have HBS:=Lib.hid hBs;clear u0 u1 p0 p1 p2 H hl1 hh1 hV V r1 r2 hne hB hBw m1 m2 m3 m4 m5 m6 x1 x2 x3 x4 y1 y2 y3 y4 e1 gb1 rb hBs hge hAe;unfold Zc at *;go_wp2;clear cc0
   (refine Ze (by kernel_rfl) (by kernel_rfl) ?_;(iterate 23 (apply Zd;(case hw=>rfl);(case hval=>(intro w1 hw1;have hcx:=Low.cells hw1;simp only [Oper.quietAt];go_simp;first | done | (first | (go_at_call 70;with_reducible exact (Low.calls hw1 (hl1'.out _))) | (go_at_call 69;with_reducible exact (Low.calls hw1 (hh1'.out _)))) | rfl | exact⟨rfl,rfl⟩));simp only [Act.put,zq4,zr4,zs4]));refine wpQuiet_nil ?_;intro w2 hw2)
   replace hT:=Lib.hid (hT.out.grow ⟨hw2.out.os,hw2.out.tape,hw2.out.output,hw2.out.size,fun k hk _=>hw2.out.block k hk⟩)
   clear hw2 lr lu0 lu1 lp0 lp1 c0 c1 c2 c3 c4 c5 c6 c7 c8 c9 c10;obtain⟨wa,rfl⟩:∃ wa,wa=w2:=⟨_,rfl⟩;by_cases hin:(k:Int)+1 ∈ l
   ·have dl2:decide ((k:Int)+1 ∈ l)=true:=by simpa using hin
    rw [if_pos (show ((k+1:Nat):Int) ∈ l from hin)] at hAs
    rw [dl2] at hh;have hh:=Lib.hid hh;obtain⟨f,hfe⟩:∃ f,(wy m.ways (k+1)).fix=f:=⟨_,rfl⟩;rw [hfe] at LP2 hAs;by_cases hmn:f<A+g
    ·have HAS:Hid (rdA m l (k+1)=f):=hAs.trans (if_pos hmn)
     clear hAs hin dl2 hin2 hfe;go_wp2_with (at_builtin;refine wpList_append_own_at _ rfl _ _ 27 rfl wS.heap.size 3 i0 (.int .i64 0) 1 8 Tryz.underlying27 hi hz0' hz1' hz2' rfl (by decide) _ _ _ rfl (hT.out.alloc (.cells #[.int .i64 (A+g)] 3)).r1 ⟨wa.heap.size,0,none⟩ 1 1 [.int .i64 (A+g)] rfl rfl (cell_one_new _ _ _) (by simp [Value.oneCell']) (by unfold maxLen;omega) (by omega) (Nat.le_trans hbase ((hT.out.alloc (.cells #[.int .i64 (A+g)] 3)).size)) ?_;intro u1 x1 hr1 hg1 _ ho1;replace hT:=Lib.hid ((hT.out.alloc (.cells #[.int .i64 (A+g)] 3)).app1 hg1 hr1 ho1);obtain⟨g1,cp1,rfl⟩:=ownsRow_succ hr1;clear hg1 hr1 ho1)
     refine (hh.out _ (BWf.out _ _ _ _ _ _ _ hT.out)).mono ?_;rintro e1 wb ⟨rfl,hb2⟩;replace hT:=Lib.hid (hT.out.grow ⟨hb2.os,hb2.tape,hb2.output,hb2.size,fun k hk _=>hb2.block k hk⟩)
     clear hb2;have q0:=HC0.out _ (BWf.out _ _ _ _ _ _ _ hT.out);have q2:=LP2.out _ (BWf.out _ _ _ _ _ _ _ hT.out);go_wp2_with (at_builtin;refine wpList_append_own_at _ rfl _ _ 27 rfl wS.heap.size 3 i0 (.int .i64 0) 1 8 Tryz.underlying27 hi hz0' hz1' hz2' rfl (by decide) _ _ _ rfl (hT.out.alloc (.cells #[.int .i64 f] 3)).r2 ⟨wb.heap.size,0,none⟩ 1 1 [.int .i64 f] rfl rfl (cell_one_new _ _ _) (by simp [Value.oneCell']) (by unfold maxLen;omega) (by omega) (Nat.le_trans hbase ((hT.out.alloc (.cells #[.int .i64 f] 3)).size)) ?_;intro u2 x2 hr2 hg2 _ ho2;replace hT:=Lib.hid ((hT.out.alloc (.cells #[.int .i64 f] 3)).app2 hg2 hr2 ho2);obtain⟨g2,cp2,rfl⟩:=ownsRow_succ hr2;clear hg2 hr2 ho2)
     go_roundw
     case rel =>
      refine⟨k+1,by omega,by go_num,?_,?_,hT.out.ne,BWf.out _ _ _ _ _ _ _ hT.out⟩
      ·rw [Zo,List.map_append,HBS.out]
       exact hT.out.r1
      ·rw [Zo,List.map_append,HAS.out]
       exact hT.out.r2
     case measure=>simp [intOf];omega
    ·have HAS:Hid (rdA m l (k+1)=(A+g)):=hAs.trans (if_neg hmn)
     clear hAs hin dl2 hin2 hfe;go_wp2_with (at_builtin;refine wpList_append_own_at _ rfl _ _ 27 rfl wS.heap.size 3 i0 (.int .i64 0) 1 8 Tryz.underlying27 hi hz0' hz1' hz2' rfl (by decide) _ _ _ rfl (hT.out.alloc (.cells #[.int .i64 (A+g)] 3)).r1 ⟨wa.heap.size,0,none⟩ 1 1 [.int .i64 (A+g)] rfl rfl (cell_one_new _ _ _) (by simp [Value.oneCell']) (by unfold maxLen;omega) (by omega) (Nat.le_trans hbase ((hT.out.alloc (.cells #[.int .i64 (A+g)] 3)).size)) ?_;intro u1 x1 hr1 hg1 _ ho1;replace hT:=Lib.hid ((hT.out.alloc (.cells #[.int .i64 (A+g)] 3)).app1 hg1 hr1 ho1);obtain⟨g1,cp1,rfl⟩:=ownsRow_succ hr1;clear hg1 hr1 ho1)
     refine (hh.out _ (BWf.out _ _ _ _ _ _ _ hT.out)).mono ?_;rintro e1 wb ⟨rfl,hb2⟩;replace hT:=Lib.hid (hT.out.grow ⟨hb2.os,hb2.tape,hb2.output,hb2.size,fun k hk _=>hb2.block k hk⟩)
     clear hb2;have q0:=HC0.out _ (BWf.out _ _ _ _ _ _ _ hT.out);have q2:=LP2.out _ (BWf.out _ _ _ _ _ _ _ hT.out);go_wp2_with (at_builtin;refine wpList_append_own_at _ rfl _ _ 27 rfl wS.heap.size 3 i0 (.int .i64 0) 1 8 Tryz.underlying27 hi hz0' hz1' hz2' rfl (by decide) _ _ _ rfl (hT.out.alloc (.cells #[.int .i64 (A+g)] 3)).r2 ⟨wb.heap.size,0,none⟩ 1 1 [.int .i64 (A+g)] rfl rfl (cell_one_new _ _ _) (by simp [Value.oneCell']) (by unfold maxLen;omega) (by omega) (Nat.le_trans hbase ((hT.out.alloc (.cells #[.int .i64 (A+g)] 3)).size)) ?_;intro u2 x2 hr2 hg2 _ ho2;replace hT:=Lib.hid ((hT.out.alloc (.cells #[.int .i64 (A+g)] 3)).app2 hg2 hr2 ho2);obtain⟨g2,cp2,rfl⟩:=ownsRow_succ hr2;clear hg2 hr2 ho2)
     go_roundw
     case rel =>
      refine⟨k+1,by omega,by go_num,?_,?_,hT.out.ne,BWf.out _ _ _ _ _ _ _ hT.out⟩
      ·rw [Zo,List.map_append,HBS.out]
       exact hT.out.r1
      ·rw [Zo,List.map_append,HAS.out]
       exact hT.out.r2
     case measure=>simp [intOf];omega
   ·have dl2:decide ((k:Int)+1 ∈ l)=false:=by simpa using hin
    rw [if_neg (show ¬ ((k+1:Nat):Int) ∈ l from hin)] at hAs
    rw [dl2] at hh;have hh:=Lib.hid hh;have HAS:=Lib.hid hAs;clear hAs hin dl2 hin2;go_wp2_with (at_builtin;refine wpList_append_own_at _ rfl _ _ 27 rfl wS.heap.size 3 i0 (.int .i64 0) 1 8 Tryz.underlying27 hi hz0' hz1' hz2' rfl (by decide) _ _ _ rfl (hT.out.alloc (.cells #[.int .i64 (A+g)] 3)).r1 ⟨wa.heap.size,0,none⟩ 1 1 [.int .i64 (A+g)] rfl rfl (cell_one_new _ _ _) (by simp [Value.oneCell']) (by unfold maxLen;omega) (by omega) (Nat.le_trans hbase ((hT.out.alloc (.cells #[.int .i64 (A+g)] 3)).size)) ?_;intro u1 x1 hr1 hg1 _ ho1;replace hT:=Lib.hid ((hT.out.alloc (.cells #[.int .i64 (A+g)] 3)).app1 hg1 hr1 ho1);obtain⟨g1,cp1,rfl⟩:=ownsRow_succ hr1;clear hg1 hr1 ho1)
    refine (hh.out _ (BWf.out _ _ _ _ _ _ _ hT.out)).mono ?_;rintro e1 wb ⟨rfl,hb2⟩;replace hT:=Lib.hid (hT.out.grow ⟨hb2.os,hb2.tape,hb2.output,hb2.size,fun k hk _=>hb2.block k hk⟩)
    clear hb2;go_wp2_with (at_builtin;refine wpList_append_own_at _ rfl _ _ 27 rfl wS.heap.size 3 i0 (.int .i64 0) 1 8 Tryz.underlying27 hi hz0' hz1' hz2' rfl (by decide) _ _ _ rfl (hT.out.alloc (.cells #[.int .i64 (A+g)] 3)).r2 ⟨wb.heap.size,0,none⟩ 1 1 [.int .i64 (A+g)] rfl rfl (cell_one_new _ _ _) (by simp [Value.oneCell']) (by unfold maxLen;omega) (by omega) (Nat.le_trans hbase ((hT.out.alloc (.cells #[.int .i64 (A+g)] 3)).size)) ?_;intro u2 x2 hr2 hg2 _ ho2;replace hT:=Lib.hid ((hT.out.alloc (.cells #[.int .i64 (A+g)] 3)).app2 hg2 hr2 ho2);obtain⟨g2,cp2,rfl⟩:=ownsRow_succ hr2;clear hg2 hr2 ho2)
    go_roundw
    case rel =>
     refine⟨k+1,by omega,by go_num,?_,?_,hT.out.ne,BWf.out _ _ _ _ _ _ _ hT.out⟩
     ·rw [Zo,List.map_append,HBS.out]
      exact hT.out.r1
     ·rw [Zo,List.map_append,HAS.out]
      exact hT.out.r2
    case measure=>simp [intOf];omega
  ·obtain hke:k+1=m.ways.length:=by omega
   have d1:decide ((k:Int)+1<(m.ways.length:Int))=false:=by rw [decide_eq_false_iff_not];omega
   have g1:(upto (rdB m l) m.ways.length).length≤70368744177663:=by simp [upto];omega
   have g2:(upto (rdA m l) m.ways.length).length≤70368744177663:=by simp [upto];omega
   have I1:Z9 wr.heap.size wr _ (upto (rdB m l) m.ways.length):=Z9.own (by rw [← hke];exact r1) g1
   have I2:Z9 wr.heap.size wr _ (upto (rdA m l) m.ways.length):=Z9.own (by rw [← hke];exact r2) g2
   have HI:=Lib.hid (And.intro I1 (And.intro I2 hBw));have cc0:=H.cell (i:=0) rfl;clear I1 I2 hB H r1 r2 hne hV V g1 g2 hBw hke;go_wp2;go_ret3;exact⟨_,_,rfl,HI.out.1,HI.out.2.1,HI.out.2.2⟩
theorem Z7l (m:Msn) (vw vh vr vl:Value) (l:List Int) (w:World) (hm:MsnAt w.heap.size w m vw vh vr) (hl:Z9 w.heap.size w vl l) :
  Calls Tryz.prog 71 #[.agg (Zc m vw vh vr),vl] w (UsedQ (rdBL m l) (rdAL m l) (rdE m l) w):=by
 cases h:radOkB m l
 ·simp only [rdBL,rdAL,rdE,h,Bool.false_eq_true,if_false]
  exact Z8p m vw vh vr vl l w hm hl h
 ·simp only [rdBL,rdAL,rdE,h,if_true]
  have h2:validB m=true∧stopsB m l=true:=by simpa [radOkB] using h
  exact Z7k m vw vh vr vl l w hm hl h2.1 h2.2
end
end Go.Proofs.YtcfkhkgldboddaaGreat
