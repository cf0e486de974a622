/- landfallref04's Crossings. (Printed by tools/mkrcross.py.) | landfallref04's Corners and Lies. | landfallref03's Bounds, Octagon, Fewer; landfallre .. -/
import Derived.Test.YtpimbaaahcemhaaGreatBin17
import Derived.Test.YtpimbaaahcemhaaGreatBin11
import Derived.Test.YtpimbaaahcemhaaGreatBin15
import Derived.Test.YtpimbaaahcemhaaGreatBin13
import Derived.Test.YtpimbaaahcemhaaGreatBin12
import Derived.Test.YtpimbaaahcemhaaGreatBin05
namespace Go.Proofs.YtpimbaaahcemhaaGreat
open Go.RowKit
attribute [local irreducible] wpQuiet
def crossR (S T:Pt × Pt):List Pt:=if (crossB (turnP S.1 S.2 T.1) (turnP S.1 S.2 T.2) && crossB (turnP T.1 T.2 S.1) (turnP T.1 T.2 S.2))=true then frameR T.1 T.2 (turnP S.1 S.2 T.1) (turnP S.1 S.2 T.2) else []
theorem mem_crossR {S T:Pt × Pt} {x:Pt}:x ∈ crossR S T↔x ∈ crossST S T:=by
 unfold crossR crossST
 split
 ·exact mem_frameR
 ·exact Iff.rfl
theorem crossR_len (S T:Pt × Pt):(crossR S T).length≤4:=by unfold crossR;split <;> simp [frameR]
def rowTo (S:Pt × Pt) (m:List Pt) (j:Nat):List Pt:=(upto (sideP m) j).flatMap (crossR S)
def outTo (l m:List Pt) (i:Nat):List Pt:=(upto (sideP l) i).flatMap fun S=>rowTo S m m.length
def crossPR (l m:List Pt):List Pt:=outTo l m l.length
theorem rowTo_succ (S:Pt × Pt) (m:List Pt) (j:Nat):rowTo S m (j+1)=rowTo S m j++crossR S (sideP m j):=by simp [rowTo,upto_succ]
theorem outTo_succ (l m:List Pt) (i:Nat):outTo l m (i+1)=outTo l m i++rowTo (sideP l i) m m.length:=by simp [outTo,upto_succ]
theorem rowTo_len (S:Pt × Pt) (m:List Pt):∀ j,(rowTo S m j).length≤4*j
 | 0=>by simp [rowTo,upto]
 | j + 1 => by
  rw [rowTo_succ,List.length_append]
  have:=rowTo_len S m j
  have:=crossR_len S (sideP m j)
  omega
theorem outTo_len (l m:List Pt):∀ i,(outTo l m i).length≤4*m.length*i
 | 0=>by simp [outTo,upto]
 | i + 1 => by
  rw [outTo_succ,List.length_append,Nat.mul_succ]
  have:=outTo_len l m i
  have:=rowTo_len (sideP l i) m m.length
  omega
theorem mem_crossPR {l m:List Pt} {x:Pt}:x ∈ crossPR l m↔x ∈ crossP l m:=by
 unfold crossPR outTo crossP crossL rowS sidesL rowTo
 simp only [List.mem_flatMap,mem_crossR]
structure CS (A B:Nat) (ax ay bx by':Int) (xs:List Pt) (out:Value) (w W:World):Prop where
 hA:w.heap.size≤A∧A<W.heap.size
 hB:w.heap.size≤B∧B<W.heap.size
 nA:out.ownBlock≠some A
 nB:out.ownBlock≠some B
 gA:Has W A #[.int .i64 ax,.int .i64 ay] 58
 gB:Has W B #[.int .i64 bx,.int .i64 by'] 58
 row:W.ownsRow w.heap.size 58 2 out xs.length (ptCells xs)
 bel:Below w.heap.size w W
theorem CS.below {A B:Nat} {ax ay bx by':Int} {xs:List Pt} {out:Value} {w W W':World} (h:CS A B ax ay bx by' xs out w W) (hb:Below W.heap.size W W'):CS A B ax ay bx by' xs out w W' :=
 ⟨⟨h.hA.1,Nat.lt_of_lt_of_le h.hA.2 hb.size⟩,⟨h.hB.1,Nat.lt_of_lt_of_le h.hB.2 hb.size⟩,h.nA,h.nB,h.gA.below hb h.hA.2,h.gB.below hb h.hB.2,prow_below h.row hb,h.bel.trans (hb.mono h.bel.size)⟩
theorem CS.app {A B:Nat} {ax ay bx by':Int} {xs ys:List Pt} {out out':Value} {w W W':World} (h:CS A B ax ay bx by' xs out w W) (hr:W'.ownsRow w.heap.size 58 2 out' (xs.length+ys.length) (ptCells xs++ptCells ys)) (hg:W.grownBy W' out.ownBlock) (ho:out'.ownBlock=out.ownBlock∨out'.ownBlock=some W.heap.size):CS A B ax ay bx by' (xs++ys) out' w W':=by
 have hz:=hg.size
 refine⟨⟨h.hA.1,by have:=h.hA.2;omega⟩,⟨h.hB.1,by have:=h.hB.2;omega⟩,?_,?_,h.gA.kept hg h.nA,h.gB.kept hg h.nB,by rw [List.length_append,ptCells_append];exact hr,h.bel.trans ((Below.refl w.heap.size W).grown hg h.bel.size fun j ej=>(h.row.lt j ej).1)⟩
 ·rcases ho with e | e
  ·rw [e];exact h.nA
  ·rw [e];intro e';cases e';exact absurd h.hA.2 (Nat.lt_irrefl _)
 ·rcases ho with e | e
  ·rw [e];exact h.nB
  ·rw [e];intro e';cases e';exact absurd h.hB.2 (Nat.lt_irrefl _)
structure DS (C D:Nat) (cx cy dx dy:Int) (W:World):Prop where
 gC:Has W C #[.int .i64 cx,.int .i64 cy] 58
 gD:Has W D #[.int .i64 dx,.int .i64 dy] 58
theorem DS.below {C D:Nat} {cx cy dx dy:Int} {W W':World} (h:DS C D cx cy dx dy W) (hb:Below W.heap.size W W'):DS C D cx cy dx dy W':=⟨h.gC.below hb h.gC.lt,h.gD.below hb h.gD.lt⟩
theorem two_has (W:World) (ax ay bx by':Int):Has ((W.alloc (.cells #[.int .i64 ax,.int .i64 ay] 58)).alloc (.cells #[.int .i64 bx,.int .i64 by'] 58)) W.heap.size #[.int .i64 ax,.int .i64 ay] 58∧Has ((W.alloc (.cells #[.int .i64 ax,.int .i64 ay] 58)).alloc (.cells #[.int .i64 bx,.int .i64 by'] 58)) (W.heap.size+1) #[.int .i64 bx,.int .i64 by'] 58∧Below W.heap.size W ((W.alloc (.cells #[.int .i64 ax,.int .i64 ay] 58)).alloc (.cells #[.int .i64 bx,.int .i64 by'] 58))∧((W.alloc (.cells #[.int .i64 ax,.int .i64 ay] 58)).alloc (.cells #[.int .i64 bx,.int .i64 by'] 58)).heap.size=W.heap.size+2:=by
 refine⟨(Has.new W #[.int .i64 ax,.int .i64 ay] 58).below ((Below.refl (W.heap.size+1) _).alloc (by simp) (.cells #[.int .i64 bx,.int .i64 by'] 58)) (by omega),?_,((Below.refl W.heap.size W).alloc (Nat.le_refl _) _).alloc (by simp) _,by simp⟩
 have:=Has.new (W.alloc (.cells #[.int .i64 ax,.int .i64 ay] 58)) #[.int .i64 bx,.int .i64 by'] 58
 rwa [World.size_alloc] at this
theorem mod_next {k n:Nat} (hk:k<n) (hn:n≤70368744177663):∃ m:Nat,m<n∧(k+1) % n=m∧IntKind.i64.wrap ((k:Int)+1)=(k:Int)+1∧((k:Int)+1).tmod (n:Int)=(m:Int):=by
 refine⟨(k+1) % n,Nat.mod_lt _ (by omega),rfl,IntWalk.i64_in _ (by omega),?_⟩
 rw [Int.tmod_eq_emod_of_nonneg (by omega)];rfl
set_option linter.unusedSimpArgs false in
set_option linter.unusedVariables false in
set_option maxRecDepth 8000 in
set_option maxHeartbeats 6000000 in
theorem rcrossings_any (vp vq : Value) (l m : List Pt) (w : World) (hp : PtsAt w.heap.size w vp l) (hq : PtsAt w.heap.size w vq m) (hl : goValid l = true) (hm : goValid m = true) :
  Calls Tryz.prog 171 #[vp,vq] w (PtsQ (crossPR l m) w):=by
 have GL:=goValid_true hl
 have GM:=goValid_true hm
 have l1:=GL.1;have l64:=GL.2.1
 have m1:=GM.1;have m64:=GM.2.1
 have PL:=Lib.hid (fun k hk=>placeB_true (GL.2.2.1 k hk).1)
 have PM:=Lib.hid (fun k hk=>placeB_true (GM.2.2.1 k hk).1)
 obtain⟨hll,a,cap,rfl,hc⟩:=hp
 obtain⟨b,o,rfl,hb,hc⟩:=hc.resolve_left (by intro h;rw [h] at l1;simp at l1)
 obtain⟨hlm,a2,cap2,rfl,hc2⟩:=hq
 obtain⟨b2,o2,rfl,hb2,hc2⟩:=hc2.resolve_left (by intro h;rw [h] at m1;simp at m1)
 have HC:=Lib.hid hc
 have HC2:=Lib.hid hc2
 have nel:¬ l=[]:=by intro h;rw [h] at l1;simp at l1
 have nem:¬ m=[]:=by intro h;rw [h] at m1;simp at m1
 obtain⟨i0,hi,hz0',hz1',hz2'⟩:=info_parts ptInfo
 clear hc hc2 hl hm GL GM
 go_enter Tryz.func171,Tryz.ntmps171
 go_wp2
 go_loopw [5,6] (fun out i wr=>∃ k:Nat,k≤l.length∧i=.int .i64 (k:Int)∧wr.ownsRow w.heap.size 58 2 out (outTo l m k).length (ptCells (outTo l m k))∧Below w.heap.size w wr) (fun _ i _=>l.length - (intOf i).toNat)
 case atStart=>exact⟨0,by omega,rfl,World.ownsRow_nil _ _ _ _,Below.refl _ _⟩
 case round =>
  rename World=>wo
  obtain⟨i,hik,rfl,hrow,hB⟩:=hrel
  have hzB:=hB.size
  by_cases hlt:i<l.length
  ·obtain ⟨mi, hmi, hme, mw, mt⟩ := mod_next hlt hll
   have pa:=PL.out i hlt
   have pb:=PL.out mi hmi
   have hsd:sideP l i=(nth l i,nth l mi):=by unfold sideP;rw [hme]
   have hos:=outTo_succ l m i
   rw [hsd] at hos
   obtain⟨q0,q1⟩:=HC.out i hlt
   obtain⟨q2,q3⟩:=HC.out mi hmi
   have e0:=(hB.cell (p:=⟨b,o+i*2,none⟩) hb).trans q0
   have e1:=(hB.cell (p:=⟨b,o+i*2+1,none⟩) hb).trans q1
   obtain⟨⟨ax,ay⟩,hea⟩:∃ t,nth l i=t:=⟨_,rfl⟩
   obtain⟨⟨bx,by'⟩,heb⟩:∃ t,nth l mi=t:=⟨_,rfl⟩
   rw [hea] at e0 e1 pa hos
   rw [heb] at q2 q3 pb hos
   simp only at e0 e1 q2 q3 pa pb
   have hBa:=hB.alloc hzB (.cells #[.int .i64 ax,.int .i64 ay] 58)
   have e2:=(hBa.cell (p:=⟨b,o+mi*2,none⟩) hb).trans q2
   have e3:=(hBa.cell (p:=⟨b,o+mi*2+1,none⟩) hb).trans q3
   have h2:=two_has wo ax ay bx by'
   have hos':=Lib.hid hos
   obtain⟨xs,hxs⟩:∃ xs,outTo l m i=xs:=⟨_,rfl⟩
   have hxl:=outTo_len l m i
   rw [hxs] at hrow hos' hxl
   have hlt4:4*m.length*i≤4*64*64:=Nat.mul_le_mul (Nat.mul_le_mul (Nat.le_refl 4) m64) (by omega)
   have HS0:Hid (CS wo.heap.size (wo.heap.size+1) ax ay bx by' (xs++rowTo (⟨ax,ay⟩,⟨bx,by'⟩) m 0) u5 w ((wo.alloc (.cells #[.int .i64 ax,.int .i64 ay] 58)).alloc (.cells #[.int .i64 bx,.int .i64 by'] 58))):=by
    have e:rowTo (⟨ax,ay⟩,⟨bx,by'⟩) m 0=[]:=rfl
    rw [e,List.append_nil]
    exact⟨⟨hzB,by rw [h2.2.2.2];omega⟩,⟨by omega,by rw [h2.2.2.2];omega⟩,fun e=>by have:=(hrow.lt _ e).2;omega,fun e=>by have:=(hrow.lt _ e).2;omega,h2.1,h2.2.1,prow_below hrow h2.2.2.1,hB.trans (h2.2.2.1.mono hzB)⟩
   have ki:(i:Int)<l.length:=by omega
   have k0:(0:Int)≤i:=by omega
   have kmi:(mi:Int)<l.length:=by omega
   have kmi0:(0:Int)≤mi:=by omega
   have di:decide ((i:Int)<(l.length:Int))=true:=by simp;omega
   clear q0 q1 q2 q3 hea heb hsd hos hme hxs hrow hB hBa h2
   go_wp2
   go_loopw [5,9] (fun out j wr'=>∃ k:Nat,k≤m.length∧j=.int .i64 (k:Int)∧CS wo.heap.size (wo.heap.size+1) ax ay bx by' (xs++rowTo (⟨ax,ay⟩,⟨bx,by'⟩) m k) out w wr') (fun _ j _=>m.length - (intOf j).toNat)
   case atStart=>exact⟨0,by omega,rfl,HS0.out⟩
   case round =>
    clear HS0 mt mw e0 e1 e2 e3
    obtain⟨j,hjk,rfl,hS⟩:=hrel
    have hzB:=hS.bel.size
    by_cases hlj:j<m.length
    ·obtain⟨mj,hmj,hme,mw,mt⟩:=mod_next hlj hlm
     have pc:=PM.out j hlj
     have pd:=PM.out mj hmj
     have hsd:sideP m j=(nth m j,nth m mj):=by unfold sideP;rw [hme]
     have hos:=rowTo_succ (⟨ax,ay⟩,⟨bx,by'⟩) m j
     rw [hsd] at hos
     obtain⟨q0,q1⟩:=HC2.out j hlj
     obtain⟨q2,q3⟩:=HC2.out mj hmj
     have e0:=(hS.bel.cell (p:=⟨b2,o2+j*2,none⟩) hb2).trans q0
     have e1:=(hS.bel.cell (p:=⟨b2,o2+j*2+1,none⟩) hb2).trans q1
     obtain⟨⟨cx,cy⟩,hec⟩:∃ t,nth m j=t:=⟨_,rfl⟩
     obtain⟨⟨dx,dy⟩,hed⟩:∃ t,nth m mj=t:=⟨_,rfl⟩
     rw [hec] at e0 e1 pc hos
     rw [hed] at q2 q3 pd hos
     simp only at e0 e1 q2 q3 pc pd
     have hBa:=hS.bel.alloc hzB (.cells #[.int .i64 cx,.int .i64 cy] 58)
     have e2:=(hBa.cell (p:=⟨b2,o2+mj*2,none⟩) hb2).trans q2
     have e3:=(hBa.cell (p:=⟨b2,o2+mj*2+1,none⟩) hb2).trans q3
     have h2:=two_has wr cx cy dx dy
     have hrl:=rowTo_len (⟨ax,ay⟩,⟨bx,by'⟩) m j
     have hfl:∀ s t:Int,(frameR ⟨cx,cy⟩ ⟨dx,dy⟩ s t).length=4:=fun _ _=>rfl
     have ts:=turnV_bd (a:=⟨ax,ay⟩) (b:=⟨bx,by'⟩) (c:=⟨cx,cy⟩) pa pb pc
     have tt:=turnV_bd (a:=⟨ax,ay⟩) (b:=⟨bx,by'⟩) (c:=⟨dx,dy⟩) pa pb pd
     simp only at ts tt
     have f1:=Lib.hid (fun w1=>cross_any ax ay bx by' cx cy w1 (by omega) (by omega) (by omega) (by omega) (by omega) (by omega) (by omega) (by omega) (by omega) (by omega) (by omega) (by omega))
     have f2:=Lib.hid (fun w1=>cross_any ax ay bx by' dx dy w1 (by omega) (by omega) (by omega) (by omega) (by omega) (by omega) (by omega) (by omega) (by omega) (by omega) (by omega) (by omega))
     have f3:=Lib.hid (fun w1=>cross_any cx cy dx dy ax ay w1 (by omega) (by omega) (by omega) (by omega) (by omega) (by omega) (by omega) (by omega) (by omega) (by omega) (by omega) (by omega))
     have f4:=Lib.hid (fun w1=>cross_any cx cy dx dy bx by' w1 (by omega) (by omega) (by omega) (by omega) (by omega) (by omega) (by omega) (by omega) (by omega) (by omega) (by omega) (by omega))
     have hpc:placeP ⟨cx,cy⟩=true:=place_iff.2 pc
     have hpd:placeP ⟨dx,dy⟩=true:=place_iff.2 pd
     have hcr:crossR (⟨ax,ay⟩,⟨bx,by'⟩) (⟨cx,cy⟩,⟨dx,dy⟩)=if (crossB (turnV ax ay bx by' cx cy) (turnV ax ay bx by' dx dy) && crossB (turnV cx cy dx dy ax ay) (turnV cx cy dx dy bx by'))=true then frameR ⟨cx,cy⟩ ⟨dx,dy⟩ (turnV ax ay bx by' cx cy) (turnV ax ay bx by' dx dy) else []:=rfl
     rw [hcr] at hos
     obtain⟨s,hs⟩:∃ s,turnV ax ay bx by' cx cy=s:=⟨_,rfl⟩
     obtain⟨t,ht⟩:∃ s,turnV ax ay bx by' dx dy=s:=⟨_,rfl⟩
     obtain⟨u,hu⟩:∃ s,turnV cx cy dx dy ax ay=s:=⟨_,rfl⟩
     obtain⟨v,hv⟩:∃ s,turnV cx cy dx dy bx by'=s:=⟨_,rfl⟩
     rw [hs,ht,hu,hv] at hos
     rw [hs] at f1 ts
     rw [ht] at f2 tt
     rw [hu] at f3
     rw [hv] at f4
     have d1:=Lib.hid (fun w1=>differ_any s t w1)
     have d2:=Lib.hid (fun w1=>differ_any u v w1)
     have hf:=Lib.hid (fun (hne:¬ s - t=0) w1=>rframe_any ⟨cx,cy⟩ ⟨dx,dy⟩ s t w1 hpc hpd ts.1 ts.2 tt.1 tt.2 hne)
     have hne:crossB s t=true→¬ s - t=0:=fun h=>by unfold crossB at h;rw [decide_eq_true_eq] at h;omega
     obtain⟨c1,hc1⟩:∃ c,crossB s t=c:=⟨_,rfl⟩
     obtain⟨c2,hc2⟩:∃ c,crossB u v=c:=⟨_,rfl⟩
     rw [hc1] at d1 hos hne
     rw [hc2] at d2 hos
     have HOS:=Lib.hid hos
     have HNE:=Lib.hid hne
     have HS:=Lib.hid (hS.below h2.2.2.1)
     have HD:Hid (DS wr.heap.size (wr.heap.size+1) cx cy dx dy ((wr.alloc (.cells #[.int .i64 cx,.int .i64 cy] 58)).alloc (.cells #[.int .i64 dx,.int .i64 dy] 58))):=⟨h2.1,h2.2.1⟩
     have ki:(j:Int)<m.length:=by omega
     have k0':(0:Int)≤j:=by omega
     have kmj:(mj:Int)<m.length:=by omega
     have kmj0:(0:Int)≤mj:=by omega
     have dj:decide ((j:Int)<(m.length:Int))=true:=by simp;omega
     obtain⟨C0,hC0⟩:∃ C0,wr.heap.size=C0:=⟨_,rfl⟩
     have za0:=(HS.out.gA.cell (i:=0) rfl)
     have za1:=(HS.out.gA.cell (i:=1) rfl)
     have zb0:=(HS.out.gB.cell (i:=0) rfl)
     have zb1:=(HS.out.gB.cell (i:=1) rfl)
     have zc0:=(HD.out.gC.cell (i:=0) rfl)
     have zc1:=(HD.out.gC.cell (i:=1) rfl)
     have zd0:=(HD.out.gD.cell (i:=0) rfl)
     have zd1:=(HD.out.gD.cell (i:=1) rfl)
     clear q0 q1 q2 q3 hec hed hsd hos hme hS hBa h2 pa pb pc pd hpc hpd hcr hs ht hu hv ts tt hne hc1 hc2 hC0
     go_wp2_with fail
     refine (f1.out _).mono ?_
     rintro e w5 ⟨rfl,b5⟩
     have HS':=Lib.hid (HS.out.below b5)
     have HD':=Lib.hid (HD.out.below b5)
     clear za0 za1 zb0 zb1 zc0 zc1 zd0 zd1
     clear HS HD
     have HS:=HS'
     have HD:=HD'
     clear HS' HD'
     have za0:=(HS.out.gA.cell (i:=0) rfl)
     have za1:=(HS.out.gA.cell (i:=1) rfl)
     have zb0:=(HS.out.gB.cell (i:=0) rfl)
     have zb1:=(HS.out.gB.cell (i:=1) rfl)
     have zc0:=(HD.out.gC.cell (i:=0) rfl)
     have zc1:=(HD.out.gC.cell (i:=1) rfl)
     have zd0:=(HD.out.gD.cell (i:=0) rfl)
     have zd1:=(HD.out.gD.cell (i:=1) rfl)
     clear b5
     go_wp2_with fail
     refine (f2.out _).mono ?_
     rintro e w6 ⟨rfl,b6⟩
     have HS':=Lib.hid (HS.out.below b6)
     have HD':=Lib.hid (HD.out.below b6)
     clear za0 za1 zb0 zb1 zc0 zc1 zd0 zd1
     clear HS HD
     have HS:=HS'
     have HD:=HD'
     clear HS' HD'
     have za0:=Low.fact (HS.out.gA.cell (i:=0) rfl)
     have za1:=Low.fact (HS.out.gA.cell (i:=1) rfl)
     have zb0:=Low.fact (HS.out.gB.cell (i:=0) rfl)
     have zb1:=Low.fact (HS.out.gB.cell (i:=1) rfl)
     have zc0:=Low.fact (HD.out.gC.cell (i:=0) rfl)
     have zc1:=Low.fact (HD.out.gC.cell (i:=1) rfl)
     have zd0:=Low.fact (HD.out.gD.cell (i:=0) rfl)
     have zd1:=Low.fact (HD.out.gD.cell (i:=1) rfl)
     clear b6
     go_wp2_with (go_at_call 195;refine (d1.out _).mono ?_;rintro e w' ⟨rfl,rfl⟩)
     (refine wp_region_low (by kernel_rfl) (by kernel_rfl) ?_;(iterate 10 (apply quiet_want;(case hw=>rfl);(case hval=>(intro w1 hw1;have hcx:=Low.cells hw1;simp only [Oper.quietAt];go_simp;first | done | (first | (go_at_call 59;with_reducible exact Low.calls hw1 (f3.out _)) | (go_at_call 59;with_reducible exact Low.calls hw1 (f4.out _)) | (go_at_call 195;with_reducible exact Low.calls_same hw1 (d2.out _))) | rfl | exact⟨rfl,rfl⟩));simp only [Act.put,List.setIfInBounds_toArray,List.set_cons_zero,List.set_cons_succ]));refine wpQuiet_nil ?_;intro w2 hw2)
     have HS':=Lib.hid (HS.out.below hw2.out)
     have HD':=Lib.hid (HD.out.below hw2.out)
     clear za0 za1 zb0 zb1 zc0 zc1 zd0 zd1
     clear HS HD
     have HS:=HS'
     have HD:=HD'
     clear HS' HD'
     have za0:=(HS.out.gA.cell (i:=0) rfl)
     have za1:=(HS.out.gA.cell (i:=1) rfl)
     have zb0:=(HS.out.gB.cell (i:=0) rfl)
     have zb1:=(HS.out.gB.cell (i:=1) rfl)
     have zc0:=(HD.out.gC.cell (i:=0) rfl)
     have zc1:=(HD.out.gC.cell (i:=1) rfl)
     have zd0:=(HD.out.gD.cell (i:=0) rfl)
     have zd1:=(HD.out.gD.cell (i:=1) rfl)
     clear hw2 d1 d2 f1 f2 f3 f4 mt mw e0 e1 e2 e3
     cases c1
     ·have hz:=HS.out.bel.size
      go_wp2
      go_roundw
      case rel =>
       refine⟨j+1,by omega,by go_num,?_⟩
       rw [HOS.out]
       simpa using HS.out
      case measure=>simp [intOf];omega
     ·cases c2
      ·have hz:=HS.out.bel.size
       go_wp2
       go_roundw
       case rel =>
        refine⟨j+1,by omega,by go_num,?_⟩
        rw [HOS.out]
        simpa using HS.out
       case measure=>simp [intOf];omega
      ·go_wp2_with fail
       refine (hf.out (HNE.out trivial) _).mono ?_
       rintro e w8 ⟨vf,rfl,hpf,b8⟩
       have HS':=Lib.hid (HS.out.below b8)
       obtain⟨_,af,capf,rfl,hcf⟩:=hpf
       obtain⟨bf,of,rfl,hbf,hcf⟩:=hcf.resolve_left (fun h=>by have:=hfl s t;rw [h] at this;simp at this)
       have hz:=HS'.out.bel.size
       have hl1:=hfl s t
       rw [hl1]
       have hrw:=HS'.out.row
       have hlen:(xs++rowTo (⟨ax,ay⟩,⟨bx,by'⟩) m j).length≤100000:=by rw [List.length_append];omega
       clear za0 za1 zb0 zb1 zc0 zc1 zd0 zd1
       clear HS HD b8
       go_wp2_with (at_builtin;refine wpList_append_own_at _ rfl _ _ 23 rfl w.heap.size 58 i0 (.agg #[.int .i64 0,.int .i64 0]) 2 16 Tryz.underlying23 hi hz0' hz1' hz2' rfl (by decide) _ _ _ rfl hrw ⟨bf,of,none⟩ 4 _ (ptCells (frameR ⟨cx,cy⟩ ⟨dx,dy⟩ s t)) rfl (by rw [ptCells_len,hl1]) (pt_add hcf) (ptCells_one _) (by unfold maxLen;omega) (by omega) hz ?_;intro v' w9 hown' hgrow _ hob)
       have HZ:=Lib.hid (HS'.out.app (ys:=frameR ⟨cx,cy⟩ ⟨dx,dy⟩ s t) (by rw [hl1];exact hown') hgrow hob)
       clear hown' hgrow hob hrw hcf
       go_roundw
       case rel =>
        refine⟨j+1,by omega,by go_num,?_⟩
        rw [HOS.out]
        rw [← List.append_assoc]
        exact HZ.out
       case measure=>simp [intOf];omega
    ·obtain rfl:j=m.length:=by omega
     have dj:decide ((m.length:Int)<(m.length:Int))=false:=by simp
     have HZ:=Lib.hid hS
     clear hS
     go_wp2
     go_roundw
     case rel =>
      refine⟨i+1,by omega,by go_num,?_,HZ.out.bel⟩
      rw [hos'.out]
      exact HZ.out.row
     case measure=>simp [intOf];omega
  ·obtain rfl:i=l.length:=by omega
   have dk:decide ((l.length:Int)<(l.length:Int))=false:=by simp
   have hxl:=outTo_len l m l.length
   have hlt4:4*m.length*l.length≤4*64*64:=Nat.mul_le_mul (Nat.mul_le_mul (Nat.le_refl 4) m64) l64
   have HI:=Lib.hid (PtsAt.own hrow (by omega))
   have HB:=Lib.hid hB
   clear hrow hB
   go_wp2
   go_ret
   exact⟨_,rfl,HI.out,HB.out⟩
end Go.Proofs.YtpimbaaahcemhaaGreat
namespace Go.Proofs.YtpimbaaahcemhaaGreat
open Go.RowKit
attribute [local irreducible] wpQuiet
set_option linter.unusedSimpArgs false in
set_option maxRecDepth 4000 in
set_option maxHeartbeats 1600000 in
theorem rcorners_any (vp vq : Value) (l m : List Pt) (w : World) (hp : PtsAt w.heap.size w vp l) (hq : PtsAt w.heap.size w vq m) (hs : l.length ≤ 1000000) (hpl : ∀ k, k < l.length → placeP (nth l k) = true) (hm : goValid m = true) :
  Calls Tryz.prog 167 #[vp,vq] w (PtsQ (cornersP l m) w):=by
 have HQ:=Lib.hid hq
 have GM:=Lib.hid (goValid_true hm)
 have HPL:=Lib.hid hpl
 obtain⟨hll,a,cap,rfl,hc⟩:=hp
 obtain⟨aq,capq,rfl⟩:=hq.len
 have HC:=Lib.hid hc
 obtain⟨i0,hi,hz0',hz1',hz2'⟩:=info_parts ptInfo
 clear hc hq hpl hm
 go_enter Tryz.func167,Tryz.ntmps167
 go_wp2
 go_loopw [5,6] (fun v i wr=>∃ k:Nat,k≤l.length∧i=.int .i64 (k:Int)∧wr.ownsRow w.heap.size 58 2 v (cornersTo l m k).length (ptCells (cornersTo l m k))∧Below w.heap.size w wr) (fun _ i _=>l.length - (intOf i).toNat)
 case atStart=>exact⟨0,by omega,rfl,World.ownsRow_nil _ _ _ _,Below.refl _ _⟩
 case round =>
  obtain⟨k,hk,rfl,hrow,hB⟩:=hrel
  have hzB:=hB.size
  by_cases hlt:k<l.length
  ·obtain⟨b,o,rfl,hb,hcc⟩:∃ b o,a=some ⟨b,o,none⟩∧b<w.heap.size∧∀ j,j<l.length→w.cell? ⟨b,o+j*2,none⟩=some (.int .i64 (nth l j).x)∧w.cell? ⟨b,o+j*2+1,none⟩=some (.int .i64 (nth l j).y):=by
    rcases HC.out with h | h
    ·rw [h] at hlt;simp at hlt
    ·exact h
   obtain⟨q0,q1⟩:=hcc k hlt
   have e0:=(hB.cell (p:=⟨b,o+k*2,none⟩) hb).trans q0
   have e1:=(hB.cell (p:=⟨b,o+k*2+1,none⟩) hb).trans q1
   have E01:=Lib.hid (And.intro q0 q1)
   have hlen:=cornersTo_len l m k
   have hpx:=HPL.out k hlt
   have hst:Hid (cornersTo l m (k+1)=if inside m ⟨(nth l k).x,(nth l k).y⟩=true then cornersTo l m k++[⟨(nth l k).x,(nth l k).y⟩] else cornersTo l m k):=by
    show _=_
    have:=hasB_iff GM.out hpx
    simp only [cornersTo,show (hasB m (nth l k)=true)=(inside m (nth l k)=true) from propext this]
   obtain⟨cl,hcl⟩:∃ cl,cornersTo l m k=cl:=⟨_,rfl⟩
   rw [hcl] at hrow hst hlen
   have hh:=rinside_any (.slice aq m.length (m.length+capq)) m ⟨(nth l k).x,(nth l k).y⟩ wr ((HQ.out.below hB).mono hB.size) GM.out hpx
   have dk:decide ((k:Int)<(l.length:Int))=true:=by simp;omega
   have kl:(k:Int)<l.length:=by omega
   have k0:(0:Int)≤k:=by omega
   have HH:=Lib.hid hh
   have HR:=Lib.hid hrow
   have HB:=Lib.hid hB
   clear hcc q0 q1 hrow hh hB hcl hpx
   cases hin:inside m ⟨(nth l k).x,(nth l k).y⟩
   ·rw [hin] at HH hst
    clear hin
    generalize (nth l k).x=px at *
    generalize (nth l k).y=py at *
    go_wp2_with fail
    refine HH.out.mono ?_
    rintro e w2 ⟨rfl,hb2⟩
    have R2:=Lib.hid (prow_below HR.out hb2)
    have B2:=Lib.hid (HB.out.trans (hb2.mono hzB))
    clear hb2
    go_wp2
    go_roundw
    case rel=>exact⟨k+1,by omega,by go_num,by rw [hst.out];exact R2.out,B2.out⟩
    case measure=>simp [intOf];omega
   ·rw [hin] at HH hst
    clear hin
    generalize (nth l k).x=px at *
    generalize (nth l k).y=py at *
    go_wp2_with fail
    refine HH.out.mono ?_
    rintro e w2 ⟨rfl,hb2⟩
    have R2:=Lib.hid (prow_below HR.out hb2)
    have B2:=Lib.hid (HB.out.trans (hb2.mono hzB))
    have x0:=(B2.out.cell (p:=⟨b,o+k*2,none⟩) hb).trans E01.out.1
    have x1:=(B2.out.cell (p:=⟨b,o+k*2+1,none⟩) hb).trans E01.out.2
    have hz2:=B2.out.size
    clear hb2 e0 e1
    go_wp2_with (at_builtin;refine wpList_append_own _ rfl _ _ 23 rfl w.heap.size 58 i0 (.agg #[.int .i64 0,.int .i64 0]) 2 16 Tryz.underlying23 hi hz0' hz1' hz2' rfl (by decide) _ _ _ rfl (R2.out.alloc _) ⟨w2.heap.size,0,none⟩ 1 1 [.int .i64 px,.int .i64 py] rfl rfl (pt_new _ _ _) (by simp [Value.oneCell']) (by unfold maxLen;omega) (by omega) (by simp;omega) ?_;intro v' w4 hown' hgrow _)
    go_roundw
    case rel =>
     have hb0:Below w.heap.size w2 w4:=((Below.refl w.heap.size w2).alloc (by omega) _).grown hgrow (by simp;omega) (fun j ej=>(R2.out.lt j ej).1)
     refine⟨k+1,by omega,by go_num,?_,B2.out.trans hb0⟩
     rw [hst.out]
     simpa [ptCells] using hown'
    case measure=>simp [intOf];omega
  ·obtain rfl:k=l.length:=by omega
   have dk:decide ((l.length:Int)<(l.length:Int))=false:=by simp
   have HI:=Lib.hid (PtsAt.own hrow (by have:=cornersTo_len l m l.length;omega))
   have HB:=Lib.hid hB
   clear hrow hB
   go_wp2
   go_ret
   exact⟨_,rfl,HI.out,HB.out⟩
end Go.Proofs.YtpimbaaahcemhaaGreat
namespace Go.Proofs.YtpimbaaahcemhaaGreat
open Go.RowKit
attribute [local irreducible] wpQuiet
def linP (a b:Int) (p:Pt):Int:=a*p.x+b*p.y
theorem loTo_bd {f:Pt→Int} {l:List Pt} {m:Int} (h:∀ k,k<l.length→-m≤f (nth l k)∧f (nth l k)≤m) (h1:1≤l.length):∀ k,k≤l.length→(-m≤loTo f l k∧loTo f l k≤m)∧(-m≤hiTo f l k∧hiTo f l k≤m)
 | 0,_=>⟨h 0 (by omega),h 0 (by omega)⟩
 | k + 1, hk => by
  have ih:=loTo_bd h h1 k (by omega)
  have:=h k (by omega)
  simp only [loTo,hiTo]
  constructor <;> split <;> omega
theorem linP_bd {a b:Int} (ha:-1≤a∧a≤1) (hb:-1≤b∧b≤1) {p:Pt} (hp:placeP p=true):-1000000≤linP a b p∧linP a b p≤1000000:=by
 have:=place_iff.1 hp
 have x:=prod_bd (a:=a) (b:=p.x) (m:=1) (n:=500000) (by omega) (by omega) (by omega) (by omega)
 have y:=prod_bd (a:=b) (b:=p.y) (m:=1) (n:=500000) (by omega) (by omega) (by omega) (by omega)
 unfold linP;omega
theorem loTo_one (f:Pt→Int) (l:List Pt):loTo f l 1=f (nth l 0):=ite_self _
theorem hiTo_one (f:Pt→Int) (l:List Pt):hiTo f l 1=f (nth l 0):=ite_self _
set_option linter.unusedSimpArgs false in
set_option maxRecDepth 8000 in
set_option maxHeartbeats 2000000 in
theorem bounds_any (v : Value) (l : List Pt) (a b : Int) (w : World) (hp : PtsAt w.heap.size w v l) (h1 : 0 < l.length) (hl : ∀ k, k < l.length → placeP (nth l k) = true) (ha : -1 ≤ a ∧ a ≤ 1) (hb : -1 ≤ b ∧ b ≤ 1) :
  Calls Tryz.prog 211 #[v,.int .i64 a,.int .i64 b] w fun e w'=>e=.returned (.tuple #[.int .i64 (loTo (linP a b) l l.length),.int .i64 (hiTo (linP a b) l l.length)])∧Below w.heap.size w w':=by
 obtain⟨hll,ad,cap,rfl,hc⟩:=hp
 obtain⟨bk,o,rfl,hbk,hc⟩:=hc.resolve_left (by intro h;rw [h] at h1;simp at h1)
 have HC:=Lib.hid hc
 have HB:Hid (∀ k,k<l.length→(∀ x y:Int,nth l k=⟨x,y⟩→IntKind.i64.wrap (a*x)=a*x∧IntKind.i64.wrap (b*y)=b*y∧IntKind.i64.wrap (a*x+b*y)=a*x+b*y)):=fun k hk x y e=>by
  have:=place_iff.1 (hl k hk)
  rw [e] at this
  simp only at this
  have p1:=prod_bd (a:=a) (b:=x) (m:=1) (n:=500000) (by omega) (by omega) (by omega) (by omega)
  have p2:=prod_bd (a:=b) (b:=y) (m:=1) (n:=500000) (by omega) (by omega) (by omega) (by omega)
  exact⟨IntWalk.i64_in _ (by omega),IntWalk.i64_in _ (by omega),IntWalk.i64_in _ (by omega)⟩
 obtain⟨q0,q1⟩:=hc 0 h1
 rw [Nat.zero_mul,Nat.add_zero] at q0 q1
 have ho1:=loTo_one (linP a b) l
 have ho2:=hiTo_one (linP a b) l
 obtain⟨⟨x0,y0⟩,h0⟩:∃ p,nth l 0=p:=⟨_,rfl⟩
 obtain⟨w1,w2,w3⟩:=HB.out 0 h1 _ _ h0
 rw [h0] at q0 q1 ho1 ho2
 simp only at q0 q1
 have HO:Hid (loTo (linP a b) l 1=a*x0+b*y0∧hiTo (linP a b) l 1=a*x0+b*y0):=⟨ho1,ho2⟩
 have l0:=Low.fact q0
 have l1:=Low.fact q1
 have i0:(0:Int)<l.length:=by omega
 have ne:¬ l=[]:=by intro h;rw [h] at h1;simp at h1
 clear hc hl ha hb ho1 ho2 h0 q0 q1
 go_enter Tryz.func211,Tryz.ntmps211
 go_wp2
 (refine wp_region_low (by kernel_rfl) (by kernel_rfl) ?_;(iterate 14 (apply quiet_want;(case hw=>rfl);(case hval=>(intro w1 hw1;have hcx:=Low.cells hw1;simp only [Oper.quietAt];go_simp;first | done | (first | fail) | rfl | exact⟨rfl,rfl⟩));simp only [Act.put,List.setIfInBounds_toArray,List.set_cons_zero,List.set_cons_succ]));refine wpQuiet_nil ?_;intro w2 hw2)
 have B0:=Lib.hid hw2.out
 clear hw2 l0 l1
 go_wp2
 go_loopw [8,9,10] (fun x y i wr=>∃ k:Nat,k<l.length∧i=.int .i64 ((k:Int)+1)∧x=.int .i64 (loTo (linP a b) l (k+1))∧y=.int .i64 (hiTo (linP a b) l (k+1))∧Below w.heap.size w wr) (fun _ _ i _=>l.length+1 - (intOf i).toNat)
 case atStart=>exact⟨0,h1,rfl,by rw [HO.out.1],by rw [HO.out.2],B0.out⟩
 case round =>
  obtain⟨k,hk,rfl,hx,hy,hB⟩:=hrel
  have hzB:=hB.size
  by_cases hlt:k+1<l.length
  ·subst hx
   subst hy
   obtain⟨q0,q1⟩:=HC.out (k+1) hlt
   have e0:=(hB.cell (p:=⟨bk,o+(k+1)*2,none⟩) hbk).trans q0
   have e1:=(hB.cell (p:=⟨bk,o+(k+1)*2+1,none⟩) hbk).trans q1
   have hs:Hid (loTo (linP a b) l (k+1+1)=(if linP a b (nth l (k+1))<loTo (linP a b) l (k+1) then linP a b (nth l (k+1)) else loTo (linP a b) l (k+1))∧hiTo (linP a b) l (k+1+1)=(if hiTo (linP a b) l (k+1)<linP a b (nth l (k+1)) then linP a b (nth l (k+1)) else hiTo (linP a b) l (k+1))):=⟨rfl,rfl⟩
   obtain⟨⟨x,y⟩,h0⟩:∃ p,nth l (k+1)=p:=⟨_,rfl⟩
   obtain⟨m1,m2,m3⟩:=HB.out (k+1) hlt _ _ h0
   rw [h0] at e0 e1 hs
   simp only at e0 e1
   have hlin:Hid (linP a b ⟨x,y⟩=a*x+b*y):=rfl
   rw [hlin.out] at hs
   have dk:decide ((k:Int)+1<(l.length:Int))=true:=by simp;omega
   have kl:(k:Int)+1<l.length:=by omega
   have k0:(0:Int)≤(k:Int)+1:=by omega
   have kn:((k:Int)+1).toNat=k+1:=by omega
   generalize loTo (linP a b) l (k+1)=lo at *
   generalize hiTo (linP a b) l (k+1)=hi at *
   have l0:=Low.fact e0
   have l1:=Low.fact e1
   have HBB:=Lib.hid hB
   clear q0 q1 hB h0 hlin
   rcases Int.lt_or_le (a*x+b*y) lo with h1 | h1
   ·rcases Int.lt_or_le hi (a*x+b*y) with h2 | h2
    ·rw [if_pos h1,if_pos h2] at hs
     have e8:(if a*x+b*y<lo then a*x+b*y else lo)=a*x+b*y:=if_pos h1
     have e9:(if hi<a*x+b*y then a*x+b*y else hi)=a*x+b*y:=if_pos h2
     go_wp2
     (refine wp_region_low (by kernel_rfl) (by kernel_rfl) ?_;(iterate 18 (apply quiet_want;(case hw=>rfl);(case hval=>(intro w1 hw1;have hcx:=Low.cells hw1;simp only [Oper.quietAt];go_simp;first | done | (first | fail) | rfl | exact⟨rfl,rfl⟩));simp only [Act.put,List.setIfInBounds_toArray,List.set_cons_zero,List.set_cons_succ]));refine wpQuiet_nil ?_;intro w2 hw2)
     have c0:=hw2.cell e0
     have c1:=hw2.cell e1
     have l0:=Low.fact c0
     have l1:=Low.fact c1
     have HB2:=Lib.hid (HBB.out.trans (hw2.out.mono hzB))
     clear hw2 HBB e0 e1 hzB
     generalize w2=X2 at *
     go_wp2
     (refine wp_region_low (by kernel_rfl) (by kernel_rfl) ?_;(iterate 18 (apply quiet_want;(case hw=>rfl);(case hval=>(intro w1 hw1;have hcx:=Low.cells hw1;simp only [Oper.quietAt];go_simp;first | done | (first | fail) | rfl | exact⟨rfl,rfl⟩));simp only [Act.put,List.setIfInBounds_toArray,List.set_cons_zero,List.set_cons_succ]));refine wpQuiet_nil ?_;intro w2 hw2)
     have HB3:=Lib.hid (HB2.out.trans (hw2.out.mono HB2.out.size))
     clear hw2 l0 l1
     go_wp2
     go_roundw
     case rel=>exact⟨k+1,hlt,by go_num,by rw [hs.out.1],by rw [hs.out.2],HB3.out⟩
     case measure=>simp [intOf];omega
    ·rw [if_pos h1,if_neg (by omega)] at hs
     have e8:(if a*x+b*y<lo then a*x+b*y else lo)=a*x+b*y:=if_pos h1
     have e9:(if hi<a*x+b*y then a*x+b*y else hi)=hi:=if_neg (by omega)
     go_wp2
     (refine wp_region_low (by kernel_rfl) (by kernel_rfl) ?_;(iterate 18 (apply quiet_want;(case hw=>rfl);(case hval=>(intro w1 hw1;have hcx:=Low.cells hw1;simp only [Oper.quietAt];go_simp;first | done | (first | fail) | rfl | exact⟨rfl,rfl⟩));simp only [Act.put,List.setIfInBounds_toArray,List.set_cons_zero,List.set_cons_succ]));refine wpQuiet_nil ?_;intro w2 hw2)
     have c0:=hw2.cell e0
     have c1:=hw2.cell e1
     have l0:=Low.fact c0
     have l1:=Low.fact c1
     have HB2:=Lib.hid (HBB.out.trans (hw2.out.mono hzB))
     clear hw2 HBB e0 e1 hzB
     generalize w2=X2 at *
     go_wp2
     (refine wp_region_low (by kernel_rfl) (by kernel_rfl) ?_;(iterate 18 (apply quiet_want;(case hw=>rfl);(case hval=>(intro w1 hw1;have hcx:=Low.cells hw1;simp only [Oper.quietAt];go_simp;first | done | (first | fail) | rfl | exact⟨rfl,rfl⟩));simp only [Act.put,List.setIfInBounds_toArray,List.set_cons_zero,List.set_cons_succ]));refine wpQuiet_nil ?_;intro w2 hw2)
     have HB3:=Lib.hid (HB2.out.trans (hw2.out.mono HB2.out.size))
     clear hw2 l0 l1
     go_wp2
     go_roundw
     case rel=>exact⟨k+1,hlt,by go_num,by rw [hs.out.1],by rw [hs.out.2],HB3.out⟩
     case measure=>simp [intOf];omega
   ·rcases Int.lt_or_le hi (a*x+b*y) with h2 | h2
    ·rw [if_neg (by omega),if_pos h2] at hs
     have e8:(if a*x+b*y<lo then a*x+b*y else lo)=lo:=if_neg (by omega)
     have e9:(if hi<a*x+b*y then a*x+b*y else hi)=a*x+b*y:=if_pos h2
     go_wp2
     (refine wp_region_low (by kernel_rfl) (by kernel_rfl) ?_;(iterate 18 (apply quiet_want;(case hw=>rfl);(case hval=>(intro w1 hw1;have hcx:=Low.cells hw1;simp only [Oper.quietAt];go_simp;first | done | (first | fail) | rfl | exact⟨rfl,rfl⟩));simp only [Act.put,List.setIfInBounds_toArray,List.set_cons_zero,List.set_cons_succ]));refine wpQuiet_nil ?_;intro w2 hw2)
     have c0:=hw2.cell e0
     have c1:=hw2.cell e1
     have l0:=Low.fact c0
     have l1:=Low.fact c1
     have HB2:=Lib.hid (HBB.out.trans (hw2.out.mono hzB))
     clear hw2 HBB e0 e1 hzB
     generalize w2=X2 at *
     go_wp2
     (refine wp_region_low (by kernel_rfl) (by kernel_rfl) ?_;(iterate 18 (apply quiet_want;(case hw=>rfl);(case hval=>(intro w1 hw1;have hcx:=Low.cells hw1;simp only [Oper.quietAt];go_simp;first | done | (first | fail) | rfl | exact⟨rfl,rfl⟩));simp only [Act.put,List.setIfInBounds_toArray,List.set_cons_zero,List.set_cons_succ]));refine wpQuiet_nil ?_;intro w2 hw2)
     have HB3:=Lib.hid (HB2.out.trans (hw2.out.mono HB2.out.size))
     clear hw2 l0 l1
     go_wp2
     go_roundw
     case rel=>exact⟨k+1,hlt,by go_num,by rw [hs.out.1],by rw [hs.out.2],HB3.out⟩
     case measure=>simp [intOf];omega
    ·rw [if_neg (by omega),if_neg (by omega)] at hs
     have e8:(if a*x+b*y<lo then a*x+b*y else lo)=lo:=if_neg (by omega)
     have e9:(if hi<a*x+b*y then a*x+b*y else hi)=hi:=if_neg (by omega)
     go_wp2
     (refine wp_region_low (by kernel_rfl) (by kernel_rfl) ?_;(iterate 18 (apply quiet_want;(case hw=>rfl);(case hval=>(intro w1 hw1;have hcx:=Low.cells hw1;simp only [Oper.quietAt];go_simp;first | done | (first | fail) | rfl | exact⟨rfl,rfl⟩));simp only [Act.put,List.setIfInBounds_toArray,List.set_cons_zero,List.set_cons_succ]));refine wpQuiet_nil ?_;intro w2 hw2)
     have c0:=hw2.cell e0
     have c1:=hw2.cell e1
     have l0:=Low.fact c0
     have l1:=Low.fact c1
     have HB2:=Lib.hid (HBB.out.trans (hw2.out.mono hzB))
     clear hw2 HBB e0 e1 hzB
     generalize w2=X2 at *
     go_wp2
     (refine wp_region_low (by kernel_rfl) (by kernel_rfl) ?_;(iterate 18 (apply quiet_want;(case hw=>rfl);(case hval=>(intro w1 hw1;have hcx:=Low.cells hw1;simp only [Oper.quietAt];go_simp;first | done | (first | fail) | rfl | exact⟨rfl,rfl⟩));simp only [Act.put,List.setIfInBounds_toArray,List.set_cons_zero,List.set_cons_succ]));refine wpQuiet_nil ?_;intro w2 hw2)
     have HB3:=Lib.hid (HB2.out.trans (hw2.out.mono HB2.out.size))
     clear hw2 l0 l1
     go_wp2
     go_roundw
     case rel=>exact⟨k+1,hlt,by go_num,by rw [hs.out.1],by rw [hs.out.2],HB3.out⟩
     case measure=>simp [intOf];omega
  ·have hk1:k+1=l.length:=by omega
   rw [hk1] at hx hy
   subst hx
   subst hy
   have dk:decide ((k:Int)+1<(l.length:Int))=false:=by simp;omega
   have HBB:=Lib.hid hB
   clear hB hk1
   go_wp2
   go_ret2
   exact⟨rfl,HBB.out⟩
def octP (l:List Pt):List Pt :=
 let a:=loTo (linP 1 0) l l.length;let b:=hiTo (linP 1 0) l l.length;let c:=loTo (linP 0 1) l l.length;let d:=hiTo (linP 0 1) l l.length
 let s:=loTo (linP 1 1) l l.length;let t:=hiTo (linP 1 1) l l.length;let u:=loTo (linP 1 (-1)) l l.length;let v:=hiTo (linP 1 (-1)) l l.length
 [⟨b,b - v⟩,⟨b,t - b⟩,⟨t - d,d⟩,⟨d+u,d⟩,⟨a,a - u⟩,⟨a,s - a⟩,⟨s - c,c⟩,⟨c+v,c⟩]
set_option linter.unusedSimpArgs false in
set_option maxRecDepth 8000 in
set_option maxHeartbeats 2000000 in
theorem octagon_any (vl:Value) (l:List Pt) (w:World) (hp:PtsAt w.heap.size w vl l) (h1:0<l.length) (hl:∀ k,k<l.length→placeP (nth l k)=true) :
  Calls Tryz.prog 194 #[vl] w (PtsQ (hullP (octP l)) w):=by
 have f1:=Lib.hid (fun w1 (B:Below w.heap.size w w1)=>bounds_any vl l 1 0 w1 ((hp.below B).mono B.size) h1 hl (by omega) (by omega))
 have f2:=Lib.hid (fun w1 (B:Below w.heap.size w w1)=>bounds_any vl l 0 1 w1 ((hp.below B).mono B.size) h1 hl (by omega) (by omega))
 have f3:=Lib.hid (fun w1 (B:Below w.heap.size w w1)=>bounds_any vl l 1 1 w1 ((hp.below B).mono B.size) h1 hl (by omega) (by omega))
 have f4:=Lib.hid (fun w1 (B:Below w.heap.size w w1)=>bounds_any vl l 1 (-1) w1 ((hp.below B).mono B.size) h1 hl (by omega) (by omega))
 have bd:∀ a b:Int,-1≤a∧a≤1→-1≤b∧b≤1→_:=fun a b ha hb=>loTo_bd (f:=linP a b) (l:=l) (m:=1000000) (fun k hk=>linP_bd ha hb (hl k hk)) (by omega) l.length (Nat.le_refl _)
 have x1:=bd 1 0 (by omega) (by omega)
 have x2:=bd 0 1 (by omega) (by omega)
 have x3:=bd 1 1 (by omega) (by omega)
 have x4:=bd 1 (-1) (by omega) (by omega)
 have ho:octP l=[⟨hiTo (linP 1 0) l l.length,hiTo (linP 1 0) l l.length - hiTo (linP 1 (-1)) l l.length⟩,⟨hiTo (linP 1 0) l l.length,hiTo (linP 1 1) l l.length - hiTo (linP 1 0) l l.length⟩,⟨hiTo (linP 1 1) l l.length - hiTo (linP 0 1) l l.length,hiTo (linP 0 1) l l.length⟩,⟨hiTo (linP 0 1) l l.length+loTo (linP 1 (-1)) l l.length,hiTo (linP 0 1) l l.length⟩,⟨loTo (linP 1 0) l l.length,loTo (linP 1 0) l l.length - loTo (linP 1 (-1)) l l.length⟩,⟨loTo (linP 1 0) l l.length,loTo (linP 1 1) l l.length - loTo (linP 1 0) l l.length⟩,⟨loTo (linP 1 1) l l.length - loTo (linP 0 1) l l.length,loTo (linP 0 1) l l.length⟩,⟨loTo (linP 0 1) l l.length+hiTo (linP 1 (-1)) l l.length,loTo (linP 0 1) l l.length⟩]:=rfl
 obtain⟨ad,cap,rfl⟩:=hp.len
 clear bd hp hl
 rw [ho]
 clear ho
 generalize loTo (linP 1 0) l l.length=a at *
 generalize hiTo (linP 1 0) l l.length=b at *
 generalize loTo (linP 0 1) l l.length=c at *
 generalize hiTo (linP 0 1) l l.length=d at *
 generalize loTo (linP 1 1) l l.length=s at *
 generalize hiTo (linP 1 1) l l.length=t at *
 generalize loTo (linP 1 (-1)) l l.length=u at *
 generalize hiTo (linP 1 (-1)) l l.length=v at *
 have k1:IntKind.i64.wrap (b - v)=b - v:=IntWalk.i64_in _ (by omega)
 have k2:IntKind.i64.wrap (t - b)=t - b:=IntWalk.i64_in _ (by omega)
 have k3:IntKind.i64.wrap (t - d)=t - d:=IntWalk.i64_in _ (by omega)
 have k4:IntKind.i64.wrap (d+u)=d+u:=IntWalk.i64_in _ (by omega)
 have k5:IntKind.i64.wrap (a - u)=a - u:=IntWalk.i64_in _ (by omega)
 have k6:IntKind.i64.wrap (s - a)=s - a:=IntWalk.i64_in _ (by omega)
 have k7:IntKind.i64.wrap (s - c)=s - c:=IntWalk.i64_in _ (by omega)
 have k8:IntKind.i64.wrap (c+v)=c+v:=IntWalk.i64_in _ (by omega)
 have far:∀ k,k<8→far6 (nth [⟨b,b - v⟩,⟨b,t - b⟩,⟨t - d,d⟩,⟨d+u,d⟩,⟨a,a - u⟩,⟨a,s - a⟩,⟨s - c,c⟩,⟨c+v,c⟩] k):=fun k hk=>by
  rcases (show k=0∨k=1∨k=2∨k=3∨k=4∨k=5∨k=6∨k=7 by omega) with rfl | rfl | rfl | rfl | rfl | rfl | rfl | rfl
  all_goals (simp only [nth,List.getD_cons_zero,List.getD_cons_succ,far6];omega)
 have FAR:=Lib.hid far
 clear x1 x2 x3 x4 far
 go_enter Tryz.func194,Tryz.ntmps194
 go_wp2_with fail
 refine (f1.out w (Below.refl _ _)).mono ?_
 rintro e w1 ⟨rfl,b1⟩
 have B1:=Lib.hid b1
 clear b1
 go_wp2_with fail
 refine (f2.out _ B1.out).mono ?_
 rintro e w2 ⟨rfl,b2⟩
 have B2:=Lib.hid (B1.out.trans (b2.mono B1.out.size))
 clear b2
 go_wp2_with fail
 refine (f3.out _ B2.out).mono ?_
 rintro e w3 ⟨rfl,b3⟩
 have B3:=Lib.hid (B2.out.trans (b3.mono B2.out.size))
 clear b3
 go_wp2_with fail
 refine (f4.out _ B3.out).mono ?_
 rintro e w4 ⟨rfl,b4⟩
 have B4:=Lib.hid (B3.out.trans (b4.mono B3.out.size))
 clear b4
 go_wp2_with fail
 have hN:=Has.new w4 (ptCells [⟨b,b - v⟩,⟨b,t - b⟩,⟨t - d,d⟩,⟨d+u,d⟩,⟨a,a - u⟩,⟨a,s - a⟩,⟨s - c,c⟩,⟨c+v,c⟩]).toArray 58
 have hPP:=pts_lit hN (by simp)
 have hA:=B4.out.alloc B4.out.size (.cells (ptCells [⟨b,b - v⟩,⟨b,t - b⟩,⟨t - d,d⟩,⟨d+u,d⟩,⟨a,a - u⟩,⟨a,s - a⟩,⟨s - c,c⟩,⟨c+v,c⟩]).toArray 58)
 refine (around_any _ _ _ hPP FAR.out (by simp)).mono ?_
 rintro e w5 ⟨v5,rfl,h5,b5⟩
 have HZ:=Lib.hid (And.intro h5 (hA.trans (b5.mono hA.size)))
 clear hN hPP hA h5 b5
 go_wp2
 go_ret
 exact⟨_,rfl,HZ.out.1,HZ.out.2⟩
noncomputable def fewerP (l:List Pt):List Pt:=if 64<l.length then hullP (octP l) else l
theorem fewer_any (vl:Value) (l:List Pt) (w:World) (hp:PtsAt w.heap.size w vl l) (hl:∀ k,k<l.length→placeP (nth l k)=true) :
  Calls Tryz.prog 170 #[vl] w (PtsQ (fewerP l) w):=by
 have f:=Lib.hid (fun h1=>octagon_any vl l w hp h1 hl)
 have hp':=Lib.hid hp
 obtain⟨ad,cap,rfl⟩:=hp.len
 clear hp hl
 unfold fewerP
 by_cases h:64<l.length
 ·have d1:decide ((l.length:Int)>64)=true:=by simp;omega
  rw [if_pos h]
  have F:=Lib.hid (f.out (by omega))
  clear f
  go_enter Tryz.func170,Tryz.ntmps170
  go_wp2_with fail
  refine F.out.mono ?_
  rintro e w5 ⟨v5,rfl,h5,b5⟩
  have HZ:=Lib.hid (And.intro h5 b5)
  clear h5 b5
  go_wp2
  go_ret
  exact⟨_,rfl,HZ.out.1,HZ.out.2⟩
 ·have d1:decide ((l.length:Int)>64)=false:=by simp;omega
  rw [if_neg h]
  clear f
  go_enter Tryz.func170,Tryz.ntmps170
  go_wp2
  go_ret
  exact⟨_,rfl,hp'.out,Below.refl _ _⟩
noncomputable def polyP (l:List Pt):List Pt:=if l.length=0 then [] else fewerP (hullP l)
theorem polygon_any (vl:Value) (l:List Pt) (w:World) (hp:PtsAt w.heap.size w vl l) (hs:l.length≤1000000) (hl:∀ k,k<l.length→placeP (nth l k)=true) :
  Calls Tryz.prog 111 #[vl] w fun e w'=>∃ v,e=.returned (.tuple #[v,.bool (!decide (l.length=0))])∧PtsAt w'.heap.size w' v (polyP l)∧Below w.heap.size w w':=by
 have f:=Lib.hid (around_any vl l w hp (fun k hk=>far6_place (hl k hk)) hs)
 have g:=Lib.hid (fun u w1 (hu:PtsAt w1.heap.size w1 u (hullP l))=>fewer_any u (hullP l) w1 hu fun k hk=>by
  obtain⟨j,hj,e⟩:=mem_nth' (hullP_mem (nth_mem' hk))
  rw [← e];exact hl j hj)
 obtain⟨ad,cap,rfl⟩:=hp.len
 clear hp hl
 unfold polyP
 by_cases h:l.length=0
 ·have d1:((l.length:Int) == 0)=true:=by rw [beq_iff_eq];omega
  rw [if_pos h,decide_eq_true h]
  clear f g
  go_enter Tryz.func111,Tryz.ntmps111
  go_wp2
  go_ret2
  exact⟨_,rfl,PtsAt.nil _ _,Below.refl _ _⟩
 ·have d1:((l.length:Int) == 0)=false:=by rw [beq_eq_false_iff_ne];omega
  rw [if_neg h,decide_eq_false h]
  go_enter Tryz.func111,Tryz.ntmps111
  go_wp2_with fail
  refine f.out.mono ?_
  rintro e w5 ⟨v5,rfl,h5,b5⟩
  have F:=Lib.hid (g.out _ _ h5)
  have B5:=Lib.hid b5
  clear h5 b5 g
  go_wp2_with fail
  refine F.out.mono ?_
  rintro e w6 ⟨v6,rfl,h6,b6⟩
  have HZ:=Lib.hid (And.intro h6 (B5.out.trans (b6.mono B5.out.size)))
  clear h6 b6
  go_wp2
  go_ret2
  exact⟨_,rfl,HZ.out.1,HZ.out.2⟩
noncomputable def bothR (l m:List Pt):List Pt:=cornersP l m++cornersP m l++crossPR l m
theorem mem_bothR {l m:List Pt} {x:Pt}:x ∈ bothR l m↔x ∈ sharedP l m:=by
 unfold bothR sharedP
 simp only [List.mem_append,mem_crossPR]
theorem bothR_nil {l m:List Pt}:(bothR l m).length=0↔(sharedP l m).length=0:=by
 rw [List.length_eq_zero_iff,List.length_eq_zero_iff,List.eq_nil_iff_forall_not_mem,List.eq_nil_iff_forall_not_mem]
 exact⟨fun h x hx=>h x (mem_bothR.2 hx),fun h x hx=>h x (mem_bothR.1 hx)⟩
theorem crossPR_len {l m:List Pt} (hl:l.length≤64) (hm:m.length≤64):(crossPR l m).length≤16384:=by
 have:=outTo_len l m l.length
 have h4:4*m.length*l.length≤4*64*64:=Nat.mul_le_mul (Nat.mul_le_mul (Nat.le_refl 4) hm) hl
 unfold crossPR
 omega
set_option linter.unusedSimpArgs false in
set_option maxRecDepth 8000 in
set_option maxHeartbeats 2000000 in
theorem both_any (vp vq:Value) (l m:List Pt) (w:World) (hp:PtsAt w.heap.size w vp l) (hq:PtsAt w.heap.size w vq m) (hl:goValid l=true) (hm:goValid m=true) :
  Calls Tryz.prog 112 #[vp,vq] w (PtsQ (bothR l m) w):=by
 have GL:=goValid_true hl
 have GM:=goValid_true hm
 have l64:=GL.2.1
 have m64:=GM.2.1
 have f1:=Lib.hid (rcorners_any vp vq l m w hp hq (by omega) (fun k hk=>(GL.2.2.1 k hk).1) hm)
 have f2:=Lib.hid (fun w1 (B:Below w.heap.size w w1)=>rcorners_any vq vp m l w1 ((hq.below B).mono B.size) ((hp.below B).mono B.size) (by omega) (fun k hk=>(GM.2.2.1 k hk).1) hl)
 have f3:=Lib.hid (fun w1 (B:Below w.heap.size w w1)=>rcrossings_any vp vq l m w1 ((hp.below B).mono B.size) ((hq.below B).mono B.size) hl hm)
 have c1:=cornersP_len l m
 have c2:=cornersP_len m l
 have c3:=crossPR_len l64 m64
 obtain⟨ap,capp,rfl⟩:=hp.len
 obtain⟨aq,capq,rfl⟩:=hq.len
 unfold bothR
 generalize cornersP l m=L1 at *
 generalize cornersP m l=L2 at *
 generalize crossPR l m=L3 at *
 clear hp hq hl hm GL GM
 go_enter Tryz.func112,Tryz.ntmps112
 go_wp2_with fail
 refine f1.out.mono ?_
 rintro e w1 ⟨v1,rfl,h1,b1⟩
 have H1:=Lib.hid h1
 have B1:=Lib.hid b1
 clear h1 b1
 go_wp2_with (first | (at_builtin;refine wpList_append_pts rfl _ _ rfl w.heap.size _ 0 [] rfl (World.ownsRow_nil _ _ _ _) _ L1 rfl H1.out (by omega) B1.out.size ?_;intro x1 w2 r2 g2 _;have R2:=Lib.hid r2;have B2:=Lib.hid (B1.out.trans (app_below (World.ownsRow_nil w1 w.heap.size 58 2) g2 (Nat.le_refl _) B1.out.size));clear r2 g2) | fail)
 refine (f2.out _ B2.out).mono ?_
 rintro e w3 ⟨v3,rfl,h3,b3⟩
 have H3:=Lib.hid h3
 have B3:=Lib.hid (B2.out.trans (b3.mono B2.out.size))
 have R3:=Lib.hid (prow_below R2.out b3)
 clear h3 b3 R2
 go_wp2_with (first | (at_builtin;refine wpList_append_pts rfl _ _ rfl w.heap.size _ _ _ rfl R3.out _ L2 rfl H3.out (by omega) B3.out.size ?_;intro x2 w4 r4 g4 _;have R4:=Lib.hid r4;have B4:=Lib.hid (B3.out.trans (app_below R3.out g4 (Nat.le_refl _) B3.out.size));clear r4 g4) | fail)
 refine (f3.out _ B4.out).mono ?_
 rintro e w5 ⟨v5,rfl,h5,b5⟩
 have H5:=Lib.hid h5
 have B5:=Lib.hid (B4.out.trans (b5.mono B4.out.size))
 have R5:=Lib.hid (prow_below R4.out b5)
 clear h5 b5 R4
 go_wp2_with (first | (at_builtin;refine wpList_append_pts rfl _ _ rfl w.heap.size _ _ _ rfl R5.out _ L3 rfl H5.out (by omega) B5.out.size ?_;intro x3 w6 r6 g6 _;have R6:=Lib.hid r6;have B6:=Lib.hid (B5.out.trans (app_below R5.out g6 (Nat.le_refl _) B5.out.size));clear r6 g6) | fail)
 go_ret
 refine⟨_,rfl,PtsAt.own (base:=w.heap.size) (l:=L1++L2++L3) (n:=0+L1.length+L2.length+L3.length) ?_ (by simp only [List.length_append];omega),B6.out⟩
 have:=R6.out
 rw [List.nil_append] at this
 rw [ptCells_append,ptCells_append]
 exact this
theorem shared_place {l m:List Pt} (hl:goValid l=true) (hm:goValid m=true) {x:Pt} (hx:x ∈ sharedP l m):placeP x=true:=by
 unfold sharedP at hx
 simp only [List.mem_append] at hx
 have GL:=goValid_true hl
 have GM:=goValid_true hm
 rcases hx with (hx | hx) | hx
 ·obtain⟨j,hj,e,_⟩:=(mem_cornersTo _).1 hx
  rw [← e];exact (GL.2.2.1 j hj).1
 ·obtain⟨j,hj,e,_⟩:=(mem_cornersTo _).1 hx
  rw [← e];exact (GM.2.2.1 j hj).1
 ·exact crossP_place (fun k hk=>(GM.2.2.1 k hk).1) hx
set_option maxHeartbeats 800000 in
theorem met_any (vp vq:Value) (l m:List Pt) (w:World) (hp:PtsAt w.heap.size w vp l) (hq:PtsAt w.heap.size w vq m) (hl:goValid l=true) (hm:goValid m=true) :
  Calls Tryz.prog 63 #[vp,vq] w fun e w'=>∃ v,e=.returned (.tuple #[v,.bool (touchB l m)])∧PtsAt w'.heap.size w' v (polyP (bothR l m))∧Below w.heap.size w w':=by
 have f1:=Lib.hid (both_any vp vq l m w hp hq hl hm)
 have l64:=(goValid_true hl).2.1
 have m64:=(goValid_true hm).2.1
 have c1:=cornersP_len l m
 have c2:=cornersP_len m l
 have c3:=crossPR_len l64 m64
 have ht:(!decide ((bothR l m).length=0))=touchB l m:=by
  unfold touchB
  rw [hl,hm]
  simp only [Bool.and_true,Bool.true_and]
  congr 1
  rw [decide_eq_decide]
  exact bothR_nil
 have f2:=Lib.hid (fun u w1 (hu:PtsAt w1.heap.size w1 u (bothR l m))=>polygon_any u (bothR l m) w1 hu (by unfold bothR;simp only [List.length_append];omega) fun k hk=>shared_place hl hm (mem_bothR.1 (nth_mem' hk)))
 rw [ht] at f2
 obtain⟨ap,capp,rfl⟩:=hp.len
 obtain⟨aq,capq,rfl⟩:=hq.len
 clear hp hq hl hm ht
 go_enter Tryz.func63,Tryz.ntmps63
 go_wp2_with fail
 refine f1.out.mono ?_
 rintro e w1 ⟨v1,rfl,h1,b1⟩
 have F:=Lib.hid (f2.out _ _ h1)
 have B1:=Lib.hid b1
 clear h1 b1 f2
 go_wp2_with fail
 refine F.out.mono ?_
 rintro e w2 ⟨v2,rfl,h2,b2⟩
 have HZ:=Lib.hid (And.intro h2 (B1.out.trans (b2.mono B1.out.size)))
 clear h2 b2
 go_wp2
 go_ret2
 exact⟨_,rfl,HZ.out.1,HZ.out.2⟩
theorem touches_any (vp vq:Value) (l m:List Pt) (w:World) (hp:PtsAt w.heap.size w vp l) (hq:PtsAt w.heap.size w vq m) (hl:goValid l=true) (hm:goValid m=true) :
  Calls Tryz.prog 21 #[vp,vq] w fun e w'=>e=.returned (.bool (touchB l m))∧Below w.heap.size w w':=by
 have f1:=Lib.hid (met_any vp vq l m w hp hq hl hm)
 obtain⟨ap,capp,rfl⟩:=hp.len
 obtain⟨aq,capq,rfl⟩:=hq.len
 clear hp hq hl hm
 go_enter Tryz.func21,Tryz.ntmps21
 go_wp2_with fail
 refine f1.out.mono ?_
 rintro e w1 ⟨v1,rfl,h1,b1⟩
 have B1:=Lib.hid b1
 clear h1 b1
 go_wp2
 exact bodyPost_ret (results_tmp rfl _ _ _) rfl ⟨rfl,B1.out⟩
end Go.Proofs.YtpimbaaahcemhaaGreat
namespace Go.Proofs.YtpimbaaahcemhaaGreat
open Go.RowKit
attribute [local irreducible] wpQuiet
def RS (n:Nat) (w W:World):Prop:=Has W n #[.int .i64 0,.int .i64 0] 58∧Below n w W
theorem RS.below {n:Nat} {w W W':World} (h:RS n w W) (hb:Below W.heap.size W W'):RS n w W' :=
 ⟨h.1.below hb h.1.lt,h.2.trans (hb.mono (Nat.le_of_lt h.1.lt))⟩
end Go.Proofs.YtpimbaaahcemhaaGreat
namespace Go.Proofs.YtpimbaaahcemhaaGreat
open Go.RowKit
attribute [local irreducible] wpQuiet
theorem plus_any (p q:Pt) (w:World) (hp:placeP p=true) (hq:placeP q=true) :
  Calls Tryz.prog 125 #[.agg #[.int .i64 p.x,.int .i64 p.y],.agg #[.int .i64 q.x,.int .i64 q.y]] w fun e w'=>e=.returned (.agg #[.int .i64 (mvP q p).x,.int .i64 (mvP q p).y])∧Below w.heap.size w w':=by
 rw [place_iff] at hp hq
 obtain⟨px,py⟩:=p
 obtain⟨qx,qy⟩:=q
 simp only at hp hq
 show Calls _ _ _ _ fun e w'=>e=.returned (.agg #[.int .i64 (px+qx),.int .i64 (py+qy)])∧_
 have m1:IntKind.i64.wrap (px+qx)=px+qx:=IntWalk.i64_in _ (by omega)
 have m2:IntKind.i64.wrap (py+qy)=py+qy:=IntWalk.i64_in _ (by omega)
 clear hp hq
 go_enter Tryz.func125,Tryz.ntmps125
 go_wp2
 refine bodyPost_ret (v:=.agg #[.int .i64 (px+qx),.int .i64 (py+qy)]) (by simp [results,Tryz.f125,go_sem]) rfl ⟨rfl,?_⟩
 repeat (first | exact Below.refl _ _ | assumption | apply Below.drew | refine Below.setCell ?_ (by first | omega | (simp;done) | (simp;omega)) _ | refine Below.alloc ?_ (by first | omega | (simp;done) | (simp;omega)) _ | refine Below.call (by assumption) ?_ (by first | omega | (simp;done) | (simp;omega)))
theorem shift1_any (Bd:Nat) (x d:Pt) (w:World) (hx:placeP x=true) (hd:placeP d=true) (HD:Has w Bd #[.int .i64 d.x,.int .i64 d.y] 58) :
  Calls Tryz.prog 124 #[.agg #[.int .i64 x.x,.int .i64 x.y],.pointer (some ⟨Bd,0,none⟩)] w fun e w'=>e=.returned (.agg #[.int .i64 (mvP d x).x,.int .i64 (mvP d x).y])∧Below w.heap.size w w':=by
 have f:=Lib.hid (fun w1=>plus_any x d w1 hx hd)
 have hlt:=HD.lt
 have c0:=HD.cell (i:=0) rfl
 have c1:=HD.cell (i:=1) rfl
 have H:=Has.new (w.alloc (.cells #[.int .i64 x.x,.int .i64 x.y] 58)) #[.int .i64 0,.int .i64 0] 58
 rw [show (w.alloc (.cells #[.int .i64 x.x,.int .i64 x.y] 58)).heap.size=w.heap.size+1 by simp] at H
 have H:=Lib.hid H
 have B0:=Lib.hid (show Below w.heap.size w ((w.alloc (.cells #[.int .i64 x.x,.int .i64 x.y] 58)).alloc (.cells #[.int .i64 0,.int .i64 0] 58)) from ((Below.refl _ _).alloc (Nat.le_refl _) _).alloc (by first | omega | (simp;done) | (simp;omega)) _)
 generalize mvP d x=r at *
 clear HD hx hd
 go_enter Tryz.func124,Tryz.ntmps124
 go_wp2_with fail
 refine (f.out _).mono ?_
 rintro e w1 ⟨rfl,hb1⟩
 have H1:=H.out.below hb1 (by simp)
 have x0:=cells_cell H1 (i:=0) rfl
 have x1:=cells_cell H1 (i:=1) rfl
 have y0:=cells_free H1 0
 have y1:=cells_free H1 1
 have z0:=cells_cell (H1.set 0 (.int .i64 r.x)) (i:=0) rfl
 have z1:=cells_cell ((H1.set 0 (.int .i64 r.x)).set 1 (.int .i64 r.y)) (i:=1) rfl
 have B1:=Lib.hid (B0.out.trans (hb1.mono B0.out.size))
 clear hb1 H1 c0 c1
 go_wp2
 refine bodyPost_ret (v:=.agg #[.int .i64 r.x,.int .i64 r.y]) (by simp [results,Tryz.f124,go_sem,z0,z1]) rfl ⟨rfl,?_⟩
 exact (B1.out.setCell (p:=⟨w.heap.size+1,0,none⟩) (by simp) _).setCell (p:=⟨w.heap.size+1,1,none⟩) (by simp) _
theorem mvL_take2 (d:Pt) (l:List Pt) {k:Nat} (h:k<l.length):mvL d (l.take (k+1))=mvL d (l.take k)++[mvP d (nth l k)]:=by
 have e:nth l k=l[k]:=by simp [nth,List.getD_eq_getElem?_getD,List.getElem?_eq_getElem h]
 unfold mvL
 rw [List.take_add_one,List.getElem?_eq_getElem h,List.map_append,e]
 rfl
set_option maxRecDepth 8000 in
set_option maxHeartbeats 1600000 in
theorem each_any (v : Value) (l : List Pt) (Bd : Nat) (d : Pt) (w : World) (hp : PtsAt w.heap.size w v l) (HD : Has w Bd #[.int .i64 d.x, .int .i64 d.y] 58) (hs : l.length ≤ 64) (hpl : ∀ k, k < l.length → placeP (nth l k) = true) (hd : placeP d = true) :
  Calls Tryz.prog 123 #[v,.func (.func 124) #[] #[.pointer (some ⟨Bd,0,none⟩)]] w (PtsQ (mvL d l) w):=by
 obtain⟨hll,a,cap,rfl,hc⟩:=hp
 have HC:=Lib.hid hc
 have HPL:=Lib.hid hpl
 have HDD:=Lib.hid HD
 have HDP:=Lib.hid hd
 obtain⟨i0,hi,hz0',hz1',hz2'⟩:=info_parts ptInfo
 clear hc hpl hd HD
 go_enter Tryz.func123,Tryz.ntmps123
 go_wp2
 go_loopw [5,10] (fun v i wr=>∃ k:Nat,k≤l.length∧i=.int .i64 (k:Int)∧wr.ownsRow w.heap.size 58 2 v k (ptCells (mvL d (l.take k)))∧Below w.heap.size w wr) (fun _ i _=>l.length - (intOf i).toNat)
 case atStart=>exact⟨0,by omega,rfl,World.ownsRow_nil _ _ _ _,Below.refl _ _⟩
 case round =>
  obtain⟨k,hk,rfl,hrow,hB⟩:=hrel
  have hzB:=hB.size
  by_cases hlt:k<l.length
  ·obtain⟨b,o,rfl,hb,hcc⟩:∃ b o,a=some ⟨b,o,none⟩∧b<w.heap.size∧∀ j,j<l.length→w.cell? ⟨b,o+j*2,none⟩=some (.int .i64 (nth l j).x)∧w.cell? ⟨b,o+j*2+1,none⟩=some (.int .i64 (nth l j).y):=by
    rcases HC.out with h | h
    ·rw [h] at hlt;simp at hlt
    ·exact h
   obtain⟨q0,q1⟩:=hcc k hlt
   have c0:=(hB.cell (p:=⟨b,o+k*2,none⟩) hb).trans q0
   have c1:=(hB.cell (p:=⟨b,o+k*2+1,none⟩) hb).trans q1
   have hst:=Lib.hid (mvL_take2 d l hlt)
   have f:=Lib.hid (fun w1 (B:Below w.heap.size w w1)=>shift1_any Bd (nth l k) d w1 (HPL.out k hlt) HDP.out (HDD.out.below B HDD.out.lt))
   generalize mvP d (nth l k)=r at *
   generalize (nth l k).x=px at *
   generalize (nth l k).y=py at *
   have kl:(k:Int)<l.length:=by omega
   have k0:(0:Int)≤k:=by omega
   have dk:decide ((k:Int)<(l.length:Int))=true:=by simp;omega
   have HR:=Lib.hid hrow
   have HB:=Lib.hid hB
   have BA:=Lib.hid (show Below wr.heap.size wr (wr.alloc (.cells #[.int .i64 px,.int .i64 py] 58)) from (Below.refl _ _).alloc (Nat.le_refl _) _)
   clear hcc q0 q1 hrow hB
   go_wp2_with fail
   refine (f.out _ (HB.out.trans (BA.out.mono HB.out.size))).mono ?_
   rintro e w2 ⟨rfl,b2⟩
   have B2:=Lib.hid (BA.out.trans (b2.mono BA.out.size))
   have R2:=Lib.hid (prow_below HR.out B2.out)
   have z2:=B2.out.size
   clear b2
   go_wp2_with (at_builtin;refine wpList_append_own _ rfl _ _ 23 rfl w.heap.size 58 i0 (.agg #[.int .i64 0,.int .i64 0]) 2 16 Tryz.underlying23 hi hz0' hz1' hz2' rfl (by decide) _ _ _ rfl (R2.out.alloc _) ⟨w2.heap.size,0,none⟩ 1 1 [.int .i64 r.x,.int .i64 r.y] rfl rfl (pt_new _ _ _) (by simp [Value.oneCell']) (by unfold maxLen;omega) (by omega) (by simp;omega) ?_;intro v' w4 hown' hgrow _)
   go_roundw
   case rel =>
    have A2:=(Below.refl w2.heap.size w2).alloc (Nat.le_refl _) (.cells #[.int .i64 r.x,.int .i64 r.y] 58)
    have b4:Below w.heap.size w w4:=(HB.out.trans ((B2.out.trans (A2.mono z2)).mono hzB)).grown hgrow (by simp;omega) (fun j ej=>(R2.out.lt j ej).1)
    refine⟨k+1,by omega,by go_num,?_,b4⟩
    rw [hst.out,ptCells_append]
    exact hown'
   case measure=>simp [intOf];omega
  ·obtain rfl:k=l.length:=by omega
   have dk:decide ((l.length:Int)<(l.length:Int))=false:=by simp
   rw [List.take_length] at hrow
   have P:=Lib.hid (PtsAt.own hrow (by rw [mvL_len];omega))
   have HB:=Lib.hid hB
   clear hrow hB
   go_wp2
   go_ret
   exact⟨_,rfl,P.out,HB.out⟩
end Go.Proofs.YtpimbaaahcemhaaGreat
