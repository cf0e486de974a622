/- The walk of the law: If one number of the certificate that Make returns is less by 1, it is not right, or not well-formed. -/
import Derived.Test.YtpimbaaahcemhaaGreatBin34
import Derived.Test.YtpimbaaahcemhaaGreatBin30
import Derived.Test.YtpimbaaahcemhaaGreatBin35
import Derived.Test.YtpimbaaahcemhaaGreatBin33
import Derived.Test.YtpimbaaahcemhaaGreatBin32
import Derived.Test.YtpimbaaahcemhaaGreatBin36
namespace Go.Proofs.YtpimbaaahcemhaaGreat.certNothingLess
open Go.RowKit
attribute [local irreducible] wpQuiet
set_option linter.unusedSimpArgs false in
set_option linter.unusedVariables false in
set_option maxRecDepth 8000 in
set_option maxHeartbeats 6400000 in
theorem walk (w:World) (m:Msn) (vw vh vr:Value) (vl:Value) (l:List Int) (g k:Int) (hm:MsnAt w.heap.size w m vw vh vr) (hl:IntsAt w.heap.size w vl l) (hg0:(Lit.int .u8 g).wf=true) (hk0:(Lit.int .u8 k).wf=true) :
  Calls Tryz.prog 4 #[.agg (msnCells m vw vh vr),vl,.int .u8 g,.int .u8 k] w fun e w'=>e=.returned (.bool true)∧Below w.heap.size w w':=by
 obtain⟨g,rfl,hg⟩:=u8_bd hg0
 obtain⟨k,rfl,hk⟩:=u8_bd hk0
 have hd:=Lib.hid (fun w1=>head36_any w1)
 have fu:=fun w1 (B:Below w.heap.size w w1)=>usable36_any m vw vh vr vl l w1 ((hm.below B).mono B.size) ((hl.below B).mono B.size)
 have fm:=fun w1 (B:Below w.heap.size w w1) h=>make_any m vw vh vr vl l w1 ((hm.below B).mono B.size) ((hl.below B).mono B.size) h
 have fk:=fun c vs vp ve w1 (B:Below w.heap.size w w1) h=>check_any m vw vh vr c vs vp ve w1 ((hm.below B).mono B.size) h
 have HL:=fun h i q=>less_wrong (m:=m) (l:=l) (i:=i) (q:=q) h
 have HN:=fun h i=>mk_nums (m:=m) (l:=l) (i:=i) h
 have HQ:=fun h=>mkC_eq (m:=m) (l:=l) h
 obtain⟨⟨-,a1,cap1,rfl,-⟩,⟨-,a2,cap2,rfl,-⟩,⟨-,a3,cap3,rfl,-⟩⟩:=hm
 obtain⟨-,al,capl,rfl,-⟩:=hl
 unfold msnCells at *
 generalize mkE m l=me at *
 generalize mkC m l=c at *
 replace fu:=Lib.hid fu
 replace fm:=Lib.hid fm
 replace fk:=Lib.hid fk
 replace HL:=Lib.hid HL
 replace HN:=Lib.hid HN
 replace HQ:=Lib.hid HQ
 have BW:=Lib.hid (Below.refl w.heap.size w)
 clear hg0 hk0
 go_enter Tryz.func4,Tryz.ntmps4
 go_wp2_with fail
 generalize hXX0:World.alloc w _=X0
 obtain⟨q0,hA,hzX0⟩:=box1 hXX0
 clear hXX0
 have BW:=Lib.hid hA
 clear hA
 have MB:=Lib.hid q0
 clear q0
 clear hzX0
 obtain⟨c0,c1,c2,c3,c4,c5,c6,c7,c8,c9,c10⟩:=msn_cells (m:=m) MB.out
 have ltMB:=MB.out.lt
 refine (hd.out X0).mono ?_
 rintro e w1 ⟨rfl,b1⟩
 replace BW:=Lib.hid (BW.out.trans (b1.mono BW.out.size))
 have B_X0:=Lib.hid b1
 clear b1
 clear c0 c1 c2 c3 c4 c5 c6 c7 c8 c9 c10 ltMB
 obtain⟨c0,c1,c2,c3,c4,c5,c6,c7,c8,c9,c10⟩:=msn_cells (m:=m) (MB.out.below B_X0.out MB.out.lt)
 have ltMB:=(MB.out.below B_X0.out MB.out.lt).lt
 go_wp2_with fail
 refine (fu.out _ BW.out).mono ?_
 rintro e w2 ⟨rfl,b2⟩
 replace BW:=Lib.hid (BW.out.trans (b2.mono BW.out.size))
 replace B_X0:=Lib.hid (B_X0.out.trans (b2.mono B_X0.out.size))
 clear b2
 clear c0 c1 c2 c3 c4 c5 c6 c7 c8 c9 c10 ltMB
 obtain⟨c0,c1,c2,c3,c4,c5,c6,c7,c8,c9,c10⟩:=msn_cells (m:=m) (MB.out.below B_X0.out MB.out.lt)
 have ltMB:=(MB.out.below B_X0.out MB.out.lt).lt
 cases hU:usB m l
 ·skip
  go_wp2
  go_ret
  exact⟨rfl,BW.out⟩
 unfold usB at hU
 simp only [Bool.and_eq_true,decide_eq_true_eq] at hU
 obtain⟨-,h40,hV,hS⟩:=hU
 have V:=(validB_iff m).1 hV
 have n41:=V.n41
 have n2:=V.n2
 clear V hV hS
 go_wp2_with fail
 refine (fm.out _ BW.out (by omega)).mono ?_
 rintro e w3 ⟨vs,vp,ve,rfl,p9,b3⟩
 replace BW:=Lib.hid (BW.out.trans (b3.mono BW.out.size))
 replace B_X0:=Lib.hid (B_X0.out.trans (b3.mono B_X0.out.size))
 clear b3
 have PC:=Lib.hid p9
 clear p9
 clear c0 c1 c2 c3 c4 c5 c6 c7 c8 c9 c10 ltMB
 obtain⟨c0,c1,c2,c3,c4,c5,c6,c7,c8,c9,c10⟩:=msn_cells (m:=m) (MB.out.below B_X0.out MB.out.lt)
 have ltMB:=(MB.out.below B_X0.out MB.out.lt).lt
 by_cases hz:me=0
 rotate_left
 ·skip
  have d0:(me == 0)=false:=by rw [beq_eq_false_iff_ne];exact hz
  have d1:(me != 0)=true:=by simp [hz]
  clear hz
  obtain⟨⟨-,aS,cS,e1,-⟩,⟨-,ap,cp,e2,-⟩,⟨-,ar,cr,e3,-⟩⟩:=PC.out
  subst e1 e2 e3
  go_upto_region 5 with fail
  generalize hXX2:World.alloc w3 _=X2
  obtain⟨q0,hA,hzX2⟩:=box1 hXX2
  clear hXX2
  replace BW:=Lib.hid (BW.out.trans (hA.mono BW.out.size))
  replace B_X0:=Lib.hid (B_X0.out.trans (hA.mono B_X0.out.size))
  have B_w3:=Lib.hid hA
  clear hA
  have CB:=Lib.hid q0
  clear q0
  clear hzX2
  go_wp2
  go_ret
  exact⟨rfl,BW.out⟩
 subst hz
 obtain⟨n,hn⟩:∃ n,m.ways.length - 1=n:=⟨_,rfl⟩
 have hc:=HQ.out rfl
 have hl1:c.psg.length=n:=by rw [hc,← hn];exact upto_length _ _
 have hl2:c.ret.length=n:=by rw [hc,← hn];exact upto_length _ _
 clear hc
 have hn1:n+1=m.ways.length:=by omega
 have n0:0<n:=by omega
 have jw:IntKind.i64.wrap ((m.ways.length:Int) - 1)=(n:Int):=by rw [show (m.ways.length:Int) - 1=(n:Int) by omega];exact IntWalk.i64_in _ (by omega)
 have dl1:((c.psg.length:Int) != (n:Int))=false:=by rw [hl1];simp
 have dl2:((c.ret.length:Int) != (n:Int))=false:=by rw [hl2];simp
 have jg:IntKind.i64.wrap (g:Int)=(g:Int):=IntWalk.i64_in _ (by omega)
 obtain⟨i,hi,hin,-⟩:=mod_at (i:=g) (n:=n) n0
 obtain⟨q,hq,hq5,-⟩:=mod_at (i:=k) (n:=5) (by omega)
 have hq':(k:Int).tmod 5=(q:Int):=hq
 clear hq
 have dz:((n:Int) == 0)=false:=by rw [beq_eq_false_iff_ne];omega
 have nz:¬ ((n:Int)=0):=by omega
 have nz2:¬ (n=0):=by omega
 have ji:IntKind.i64.wrap (i:Int)=(i:Int):=IntWalk.i64_in _ (by omega)
 have L1:=HL.out rfl i q (by omega) hq5
 have L2:=HN.out rfl i (by omega)
 obtain⟨⟨-,aS,cS,e1,-⟩,⟨-,ap,cp,e2,-⟩,⟨-,ar,cr,e3,-⟩⟩:=PC.out
 subst e1 e2 e3
 have fl:=fun u1 u2 u3 w1 (h:CrtAt w1.heap.size w1 c u1 u2 u3)=>less36_any u1 u2 u3 c i k q w1 h (by omega) (by omega) (by omega) (by omega) hq' hq5 L2
 have fk2:=fun u1 u2 u3 w1 (B:Below w.heap.size w w1) (h:CrtAt w1.heap.size w1 (lessC c i q) u1 u2 u3)=>fk.out (lessC c i q) u1 u2 u3 w1 B h
 rw [L1] at fk2
 obtain⟨ke,hke,hke2⟩:∃ x,chkE m (lessC c i q)=x∧(x=0∨x=1):=⟨_,rfl,by unfold chkE;split <;> simp⟩
 simp only [hke] at fk2
 replace fl:=Lib.hid fl
 replace fk2:=Lib.hid fk2
 clear L1 L2 fk HL HN HQ hke hn hl1 hl2
 go_upto_region 5 with fail
 generalize hXX2:World.alloc w3 _=X2
 obtain⟨q0,hA,hzX2⟩:=box1 hXX2
 clear hXX2
 replace BW:=Lib.hid (BW.out.trans (hA.mono BW.out.size))
 replace B_X0:=Lib.hid (B_X0.out.trans (hA.mono B_X0.out.size))
 have B_w3:=Lib.hid hA
 clear hA
 have CB:=Lib.hid q0
 clear q0
 clear hzX2
 clear c0 c1 c2 c3 c4 c5 c6 c7 c8 c9 c10 ltMB
 obtain⟨c0,c1,c2,c3,c4,c5,c6,c7,c8,c9,c10⟩:=msn_cells (m:=m) (MB.out.below B_X0.out MB.out.lt)
 have ltMB:=(MB.out.below B_X0.out MB.out.lt).lt
 have hk:=CB.out
 have k0':=hk.cell (i:=0) rfl
 have k1':=hk.cell (i:=1) rfl
 have k2':=hk.cell (i:=2) rfl
 go_upto_region 10 with fail
 refine (wpIn_wide (n:=9)).1 ?_
 refine wpIn_region_sched (lets_wide _) 13 (fun X=>Below X2.heap.size X2 X) (by kernel_rfl) (by kernel_rfl) (by kernel_rfl) fun hH inv0=>?_
 have hD:=Below.drew (Below.refl X2.heap.size X2)
 generalize hXX9:X2.drew=X9 at *
 clear hXX9
 replace BW:=Lib.hid (BW.out.trans (hD.mono BW.out.size))
 replace B_X0:=Lib.hid (B_X0.out.trans (hD.mono B_X0.out.size))
 replace B_w3:=Lib.hid (B_w3.out.trans (hD.mono B_w3.out.size))
 have B_X2:=Lib.hid hD
 clear hD
 refine sched_take hH (i:=0) (v:=.agg #[.slice a1 m.ways.length (m.ways.length+cap1),.slice a2 m.home.length (m.home.length+cap2),.int .i64 m.start,.slice a3 m.rocks.length (m.rocks.length+cap3),.int .i64 m.speed,.int .i64 m.part,.int .i64 m.flow,.int .i64 m.idle,.int .i64 m.drive,.int .i64 m.battery,.int .i64 m.deadline]) (drop_get rfl) (by omega) inv0 (by kernel_rfl) (by kernel_rfl) rfl (fun X hX=>?_) fun inv1=>?_
 ·have r0:=(hX.cell (p:=⟨w.heap.size,0,none⟩) (World.block_lt_of_cell? _ _ c0)).trans c0;have r1:=(hX.cell (p:=⟨w.heap.size,1,none⟩) (World.block_lt_of_cell? _ _ c1)).trans c1;have r2:=(hX.cell (p:=⟨w.heap.size,2,none⟩) (World.block_lt_of_cell? _ _ c2)).trans c2;have r3:=(hX.cell (p:=⟨w.heap.size,3,none⟩) (World.block_lt_of_cell? _ _ c3)).trans c3;have r4:=(hX.cell (p:=⟨w.heap.size,4,none⟩) (World.block_lt_of_cell? _ _ c4)).trans c4;have r5:=(hX.cell (p:=⟨w.heap.size,5,none⟩) (World.block_lt_of_cell? _ _ c5)).trans c5;have r6:=(hX.cell (p:=⟨w.heap.size,6,none⟩) (World.block_lt_of_cell? _ _ c6)).trans c6;have r7:=(hX.cell (p:=⟨w.heap.size,7,none⟩) (World.block_lt_of_cell? _ _ c7)).trans c7;have r8:=(hX.cell (p:=⟨w.heap.size,8,none⟩) (World.block_lt_of_cell? _ _ c8)).trans c8;have r9:=(hX.cell (p:=⟨w.heap.size,9,none⟩) (World.block_lt_of_cell? _ _ c9)).trans c9;have r10:=(hX.cell (p:=⟨w.heap.size,10,none⟩) (World.block_lt_of_cell? _ _ c10)).trans c10;go_simp
 simp only [Act.put,List.setIfInBounds_toArray,List.set_cons_zero,List.set_cons_succ]
 clear inv0
 refine sched_take hH (i:=1) (v:=.agg #[.slice aS c.stops.length (c.stops.length+cS),.slice ap c.psg.length (c.psg.length+cp),.slice ar c.ret.length (c.ret.length+cr)]) (drop_get rfl) (by omega) inv1 (by kernel_rfl) (by kernel_rfl) rfl (fun X hX=>?_) fun inv2=>?_
 ·have r0:=(hX.cell (p:=⟨w3.heap.size,0,none⟩) (World.block_lt_of_cell? _ _ k0')).trans k0';have r1:=(hX.cell (p:=⟨w3.heap.size,1,none⟩) (World.block_lt_of_cell? _ _ k1')).trans k1';have r2:=(hX.cell (p:=⟨w3.heap.size,2,none⟩) (World.block_lt_of_cell? _ _ k2')).trans k2';go_simp
 simp only [Act.put,List.setIfInBounds_toArray,List.set_cons_zero,List.set_cons_succ]
 clear inv1
 refine sched_take hH (i:=2) (v:=.int .u8 (g:Int)) (drop_get rfl) (by omega) inv2 (by kernel_rfl) (by kernel_rfl) rfl (fun X hX=>?_) fun inv3=>?_
 ·go_simp
 simp only [Act.put,List.setIfInBounds_toArray,List.set_cons_zero,List.set_cons_succ]
 clear inv2
 refine sched_take hH (i:=3) (v:=.int .i64 (g:Int)) (drop_get rfl) (by omega) inv3 (by kernel_rfl) (by kernel_rfl) rfl (fun X hX=>?_) fun inv4=>?_
 ·go_simp
 simp only [Act.put,List.setIfInBounds_toArray,List.set_cons_zero,List.set_cons_succ]
 clear inv3
 refine sched_take hH (i:=4) (v:=.int .i64 (n:Int)) (drop_get rfl) (by omega) inv4 (by kernel_rfl) (by kernel_rfl) rfl (fun X hX=>?_) fun inv5=>?_
 ·go_simp
 simp only [Act.put,List.setIfInBounds_toArray,List.set_cons_zero,List.set_cons_succ]
 clear inv4
 refine sched_take hH (i:=5) (v:=.int .i64 (i:Int)) (drop_get rfl) (by omega) inv5 (by kernel_rfl) (by kernel_rfl) rfl (fun X hX=>?_) fun inv6=>?_
 ·go_simp
 simp only [Act.put,List.setIfInBounds_toArray,List.set_cons_zero,List.set_cons_succ]
 clear inv5
 refine sched_take hH (i:=6) (v:=.int .u8 (k:Int)) (drop_get rfl) (by omega) inv6 (by kernel_rfl) (by kernel_rfl) rfl (fun X hX=>?_) fun inv7=>?_
 ·go_simp
 simp only [Act.put,List.setIfInBounds_toArray,List.set_cons_zero,List.set_cons_succ]
 clear inv6
 clear c0 c1 c2 c3 c4 c5 c6 c7 c8 c9 c10 ltMB hk k0' k1' k2'
 have inv8:=HeadInv.put2 inv7 (j:=7) (by kernel_rfl) (by omega)
 clear inv7
 refine sched_all (rs:=[7]) (by kernel_rfl) (by simp) B_X2.out (by simp) (fun i hi'=>?_)
 simp only [List.mem_cons,List.not_mem_nil,or_false] at hi'
 subst hi'
 refine okOp_call (drop_get rfl) rfl (f:=18) (args:=#[.agg #[.slice aS c.stops.length (c.stops.length+cS),.slice ap c.psg.length (c.psg.length+cp),.slice ar c.ret.length (c.ret.length+cr)],.int .i64 (i:Int),.int .u8 (k:Int)]) (by go_simp) (fl.out _ _ _ _ ((PC.out.below B_w3.out).mono B_w3.out.size)) ?_
 rintro e w4 ⟨v1,v2,v3,rfl,p8,b4⟩
 refine⟨_,rfl,?_⟩
 simp only [Act.put,List.setIfInBounds_toArray,List.set_cons_zero,List.set_cons_succ]
 replace BW:=Lib.hid (BW.out.trans (b4.mono BW.out.size))
 replace B_X0:=Lib.hid (B_X0.out.trans (b4.mono B_X0.out.size))
 replace B_w3:=Lib.hid (B_w3.out.trans (b4.mono B_w3.out.size))
 replace B_X2:=Lib.hid (B_X2.out.trans (b4.mono B_X2.out.size))
 clear b4
 have P8:=Lib.hid p8
 clear p8
 have inv9:=HeadInv.put2 inv8 (j:=8) (by kernel_rfl) (by omega)
 clear inv8
 refine sched_all (rs:=[8]) (by kernel_rfl) (by simp) B_X2.out (by simp) (fun i hi'=>?_)
 simp only [List.mem_cons,List.not_mem_nil,or_false] at hi'
 subst hi'
 refine okOp_call (drop_get rfl) rfl (f:=13) (args:=#[.agg #[.slice a1 m.ways.length (m.ways.length+cap1),.slice a2 m.home.length (m.home.length+cap2),.int .i64 m.start,.slice a3 m.rocks.length (m.rocks.length+cap3),.int .i64 m.speed,.int .i64 m.part,.int .i64 m.flow,.int .i64 m.idle,.int .i64 m.drive,.int .i64 m.battery,.int .i64 m.deadline],.agg #[v1,v2,v3]]) (by go_simp) (fk2.out _ _ _ _ BW.out P8.out) ?_
 rintro e w5 ⟨rfl,b5⟩
 refine⟨_,rfl,?_⟩
 simp only [Act.put,List.setIfInBounds_toArray,List.set_cons_zero,List.set_cons_succ]
 replace BW:=Lib.hid (BW.out.trans (b5.mono BW.out.size))
 replace B_X0:=Lib.hid (B_X0.out.trans (b5.mono B_X0.out.size))
 replace B_w3:=Lib.hid (B_w3.out.trans (b5.mono B_w3.out.size))
 replace B_X2:=Lib.hid (B_X2.out.trans (b5.mono B_X2.out.size))
 have B_w4:=Lib.hid b5
 clear b5
 refine sched_take hH (i:=9) (v:=.tuple #[.bool false,.int .i64 ke]) (drop_get rfl) (by omega) inv9 (by kernel_rfl) (by kernel_rfl) rfl (fun X hX=>?_) fun inv10=>?_
 ·go_simp
 simp only [Act.put,List.setIfInBounds_toArray,List.set_cons_zero,List.set_cons_succ]
 clear inv9
 refine sched_take hH (i:=10) (v:=.bool false) (drop_get rfl) (by omega) inv10 (by kernel_rfl) (by kernel_rfl) rfl (fun X hX=>?_) fun inv11=>?_
 ·go_simp
 simp only [Act.put,List.setIfInBounds_toArray,List.set_cons_zero,List.set_cons_succ]
 clear inv10
 refine sched_take hH (i:=11) (v:=.int .i64 ke) (drop_get rfl) (by omega) inv11 (by kernel_rfl) (by kernel_rfl) rfl (fun X hX=>?_) fun inv12=>?_
 ·go_simp
 simp only [Act.put,List.setIfInBounds_toArray,List.set_cons_zero,List.set_cons_succ]
 clear inv11
 have inv13:=HeadInv.put2 inv12 (j:=12) (by kernel_rfl) (by omega)
 clear inv12
 refine sched_all (rs:=[12]) (by kernel_rfl) (by simp) B_X2.out (by simp) (fun i hi'=>?_)
 simp only [List.mem_cons,List.not_mem_nil,or_false] at hi'
 subst hi'
 refine okOp_run (drop_get rfl) rfl (v:=.bool false) (w':=w5) (by go_simp) ?_
 simp only [Act.put,List.setIfInBounds_toArray,List.set_cons_zero,List.set_cons_succ]
 clear inv13 hH
 refine sched_done (by kernel_rfl) B_X2.out ?_
 simp only [List.drop_succ_cons,List.drop_zero]
 gi_wp2
 rcases hke2 with rfl | rfl
 ·skip
  go_wp2
  go_ret
  exact⟨rfl,BW.out⟩
 ·skip
  go_wp2
  go_ret
  exact⟨rfl,BW.out⟩
end Go.Proofs.YtpimbaaahcemhaaGreat.certNothingLess
