/- package plan: trip.kind. | package plan: Keeps. | package plan: farthest: what its rounds keep. | Fewer rocks, more battery, a later deadline: plai .. -/
import Derived.Test.YtpimbaaahcemhaaGreatBin28
import Derived.Test.YtpimbaaahcemhaaGreatBin31
import Derived.Test.YtpimbaaahcemhaaGreatBin12
import Derived.Test.YtpimbaaahcemhaaGreatBin24
import Derived.Test.YtpimbaaahcemhaaGreatBin27
import Derived.Test.YtpimbaaahcemhaaGreatBin25
import Derived.Test.YtpimbaaahcemhaaGreatBin08
import Derived.Test.YtpimbaaahcemhaaGreatBin20
import Derived.Test.YtpimbaaahcemhaaGreatBin13
namespace Go.Proofs.YtpimbaaahcemhaaGreat
open Go.RowKit
attribute [local irreducible] wpQuiet
theorem kind_val (m:Msn) (l:List Int) (k:Nat):kindV m l k=if clrB m k (rdA m l k) (k+1) (rdB m l (k+1))=false then 1 else if bkC m (k+1) (rdB m l (k+1)) (dep m (k+1))=false then 5 else if lieB m (bkR m (k+1) (rdB m l (k+1)) (dep m (k+1)))=false then 2 else if decide (usE m l (k+1)+homeE m (k+1) (dep m (k+1))≤m.battery)=false then 3 else if decide (usT m l (k+1)+homeT m (k+1) (dep m (k+1))≤m.deadline)=false then 4 else 0:=by
 unfold kindV
 simp only [decide_eq_false_iff_not,Int.not_le,gt_iff_lt]
set_option linter.unusedSimpArgs false in
set_option linter.unusedVariables false in
set_option maxRecDepth 8000 in
set_option maxHeartbeats 6400000 in
theorem tkind_any (m:Msn) (l:List Int) (vw vh vr vb va vt ve:Value) (w:World) (T:TripAt w.heap.size w m l vw vh vr vb va vt ve) (V:VMsn m) (k:Nat) (hk:k+1<m.ways.length) :
  Calls Tryz.prog 65 #[.agg (tripCells m vw vh vr vb va vt ve),.int .i64 k] w fun e w'=>e=.returned (.int .i64 (kindV m l k))∧Below w.heap.size w w':=by
 have n41:=V.n41
 have hV:=(validB_iff m).2 V
 rw [kind_val]
 have fb:=fun w1 (B:Below w.heap.size w w1)=>tback_any m l vw vh vr vb va vt ve w1 (T.up B) V (k+1) hk
 have fh:=fun w1 (B:Below w.heap.size w w1)=>phome_yes m vw vh vr (k+1) w1 (T.up B).msn hV hk
 have f1:=fun w1 (B:Below w.heap.size w w1)=>kcl_any m l vw vh vr vb va vt ve w1 (T.up B) k hk n41
 have f2:=fun w1 c Bc=>kbk_any w1 c Bc
 have f3:=fun w1 (B:Below w.heap.size w w1) r hr=>kin_any m l vw vh vr vb va vt ve w1 (T.up B) V r hr
 have f4:=fun w1 (B:Below w.heap.size w w1) x hx=>kba_any m l vw vh vr vb va vt ve w1 (T.up B) V (k+1) hk x hx
 have f5:=fun w1 (B:Below w.heap.size w w1) x hx=>kti_any m l vw vh vr vb va vt ve w1 (T.up B) V (k+1) hk x hx
 have hrb:=bk_bd V l hk (Nat.le_refl _)
 have hte:=homeTE_bd V hk _ (Nat.le_refl _)
 have hdp:=dep_le V.ways hk
 obtain⟨K,hK⟩:∃ K,k+1=K:=⟨_,rfl⟩
 have jw:IntKind.i64.wrap ((k:Int)+1)=(K:Int):=by rw [← hK];exact IntWalk.i64_in _ (by omega)
 simp only [hK] at fb fh f1 f4 f5 hrb hte hdp ⊢
 replace hte:(0≤homeT m K (dep m K)∧homeT m K (dep m K)≤100000000000000)∧0≤homeE m K (dep m K)∧homeE m K (dep m K)≤100000000000000:=by
  have:((dep m K:Nat):Int)≤41:=by omega
  omega
 generalize homeT m K (dep m K)=hT' at *
 generalize homeE m K (dep m K)=hE' at *
 replace f4:=fun w1 B=>f4 w1 B hE' hte.2
 replace f5:=fun w1 B=>f5 w1 B hT' hte.1
 generalize bkR m K (rdB m l K) (dep m K)=rr at *
 generalize bkC m K (rdB m l K) (dep m K)=bb at *
 generalize clrB m k (rdA m l k) K (rdB m l K)=ba at *
 generalize decide (usE m l K+hE'≤m.battery)=bd at *
 generalize decide (usT m l K+hT'≤m.deadline)=be at *
 obtain⟨⟨-,a1,c1,rfl,hcw⟩,⟨-,a2,c2,rfl,-⟩,⟨-,a3,c3,rfl,-⟩⟩:=T.msn
 obtain⟨-,ab,cb,rfl,-⟩:=T.bef
 obtain⟨-,aa,ca,rfl,-⟩:=T.aft
 obtain⟨-,at',ct,rfl,-⟩:=T.tim
 obtain⟨-,ae,ce,rfl,-⟩:=T.ene
 unfold tripCells msnCells at *
 replace fb:=Lib.hid fb
 replace fh:=Lib.hid fh
 replace f1:=Lib.hid f1
 replace f2:=Lib.hid f2
 replace f3:=Lib.hid (fun w1 B=>f3 w1 B rr hrb)
 replace f4:=Lib.hid f4
 replace f5:=Lib.hid f5
 generalize lieB m rr=bc at *
 clear T hcw V hV hrb hte hdp hK
 have BW:=Lib.hid (Below.refl w.heap.size w)
 go_enter Tryz.func65,Tryz.ntmps65
 go_wp2_with fail
 generalize hXX0:World.alloc (World.alloc (World.alloc w _) _) _=X0
 obtain⟨q0,q1,q2,hA,hzX0⟩:=box3 hXX0
 clear hXX0
 have BW:=Lib.hid hA
 clear hA
 have TB:=Lib.hid q0
 clear q0
 have LB:=Lib.hid q1
 clear q1
 have EB:=Lib.hid q2
 clear q2
 have c0:=TB.out.cell (i:=0) rfl
 have c1:=TB.out.cell (i:=1) rfl
 have c2:=TB.out.cell (i:=2) rfl
 have c3:=TB.out.cell (i:=3) rfl
 have c4:=TB.out.cell (i:=4) rfl
 have c5:=TB.out.cell (i:=5) rfl
 have c6:=TB.out.cell (i:=6) rfl
 have c7:=TB.out.cell (i:=7) rfl
 have c8:=TB.out.cell (i:=8) rfl
 have c9:=TB.out.cell (i:=9) rfl
 have c10:=TB.out.cell (i:=10) rfl
 have c11:=TB.out.cell (i:=11) rfl
 have c12:=TB.out.cell (i:=12) rfl
 have c13:=TB.out.cell (i:=13) rfl
 have c14:=TB.out.cell (i:=14) rfl
 have ltTB:=TB.out.lt
 have d0:=EB.out.cell (i:=0) rfl
 have ltEB:=EB.out.lt
 refine (fb.out _ BW.out).mono ?_
 rintro e w1 ⟨rfl,b1⟩
 replace BW:=Lib.hid (BW.out.trans (b1.mono BW.out.size))
 have B_X0:=Lib.hid b1
 clear b1
 clear c0 c1 c2 c3 c4 c5 c6 c7 c8 c9 c10 c11 c12 c13 c14 ltTB d0 ltEB
 have c0:=(TB.out.below B_X0.out TB.out.lt).cell (i:=0) rfl
 have c1:=(TB.out.below B_X0.out TB.out.lt).cell (i:=1) rfl
 have c2:=(TB.out.below B_X0.out TB.out.lt).cell (i:=2) rfl
 have c3:=(TB.out.below B_X0.out TB.out.lt).cell (i:=3) rfl
 have c4:=(TB.out.below B_X0.out TB.out.lt).cell (i:=4) rfl
 have c5:=(TB.out.below B_X0.out TB.out.lt).cell (i:=5) rfl
 have c6:=(TB.out.below B_X0.out TB.out.lt).cell (i:=6) rfl
 have c7:=(TB.out.below B_X0.out TB.out.lt).cell (i:=7) rfl
 have c8:=(TB.out.below B_X0.out TB.out.lt).cell (i:=8) rfl
 have c9:=(TB.out.below B_X0.out TB.out.lt).cell (i:=9) rfl
 have c10:=(TB.out.below B_X0.out TB.out.lt).cell (i:=10) rfl
 have c11:=(TB.out.below B_X0.out TB.out.lt).cell (i:=11) rfl
 have c12:=(TB.out.below B_X0.out TB.out.lt).cell (i:=12) rfl
 have c13:=(TB.out.below B_X0.out TB.out.lt).cell (i:=13) rfl
 have c14:=(TB.out.below B_X0.out TB.out.lt).cell (i:=14) rfl
 have ltTB:=(TB.out.below B_X0.out TB.out.lt).lt
 have d0:=(EB.out.below B_X0.out EB.out.lt).cell (i:=0) rfl
 have ltEB:=(EB.out.below B_X0.out EB.out.lt).lt
 go_upto_region 3 with fail
 generalize hXX1:World.alloc (World.alloc w1 _) _=X1
 obtain⟨q0,q1,hA,hzX1⟩:=box2 hXX1
 clear hXX1
 replace BW:=Lib.hid (BW.out.trans (hA.mono BW.out.size))
 replace B_X0:=Lib.hid (B_X0.out.trans (hA.mono B_X0.out.size))
 clear hA
 have CB:=Lib.hid q0
 clear q0
 have RB:=Lib.hid q1
 clear q1
 clear c0 c1 c2 c3 c4 c5 c6 c7 c8 c9 c10 c11 c12 c13 c14 ltTB d0 ltEB
 have c0:=(TB.out.below B_X0.out TB.out.lt).cell (i:=0) rfl
 have c1:=(TB.out.below B_X0.out TB.out.lt).cell (i:=1) rfl
 have c2:=(TB.out.below B_X0.out TB.out.lt).cell (i:=2) rfl
 have c3:=(TB.out.below B_X0.out TB.out.lt).cell (i:=3) rfl
 have c4:=(TB.out.below B_X0.out TB.out.lt).cell (i:=4) rfl
 have c5:=(TB.out.below B_X0.out TB.out.lt).cell (i:=5) rfl
 have c6:=(TB.out.below B_X0.out TB.out.lt).cell (i:=6) rfl
 have c7:=(TB.out.below B_X0.out TB.out.lt).cell (i:=7) rfl
 have c8:=(TB.out.below B_X0.out TB.out.lt).cell (i:=8) rfl
 have c9:=(TB.out.below B_X0.out TB.out.lt).cell (i:=9) rfl
 have c10:=(TB.out.below B_X0.out TB.out.lt).cell (i:=10) rfl
 have c11:=(TB.out.below B_X0.out TB.out.lt).cell (i:=11) rfl
 have c12:=(TB.out.below B_X0.out TB.out.lt).cell (i:=12) rfl
 have c13:=(TB.out.below B_X0.out TB.out.lt).cell (i:=13) rfl
 have c14:=(TB.out.below B_X0.out TB.out.lt).cell (i:=14) rfl
 have ltTB:=(TB.out.below B_X0.out TB.out.lt).lt
 have d0:=(EB.out.below B_X0.out EB.out.lt).cell (i:=0) rfl
 have ltEB:=(EB.out.below B_X0.out EB.out.lt).lt
 go_wp2_with fail
 refine (fh.out _ BW.out).mono ?_
 rintro e w2 ⟨rfl,b2⟩
 replace BW:=Lib.hid (BW.out.trans (b2.mono BW.out.size))
 replace B_X0:=Lib.hid (B_X0.out.trans (b2.mono B_X0.out.size))
 have B_X1:=Lib.hid b2
 clear b2
 clear c0 c1 c2 c3 c4 c5 c6 c7 c8 c9 c10 c11 c12 c13 c14 ltTB d0 ltEB
 have c0:=(TB.out.below B_X0.out TB.out.lt).cell (i:=0) rfl
 have c1:=(TB.out.below B_X0.out TB.out.lt).cell (i:=1) rfl
 have c2:=(TB.out.below B_X0.out TB.out.lt).cell (i:=2) rfl
 have c3:=(TB.out.below B_X0.out TB.out.lt).cell (i:=3) rfl
 have c4:=(TB.out.below B_X0.out TB.out.lt).cell (i:=4) rfl
 have c5:=(TB.out.below B_X0.out TB.out.lt).cell (i:=5) rfl
 have c6:=(TB.out.below B_X0.out TB.out.lt).cell (i:=6) rfl
 have c7:=(TB.out.below B_X0.out TB.out.lt).cell (i:=7) rfl
 have c8:=(TB.out.below B_X0.out TB.out.lt).cell (i:=8) rfl
 have c9:=(TB.out.below B_X0.out TB.out.lt).cell (i:=9) rfl
 have c10:=(TB.out.below B_X0.out TB.out.lt).cell (i:=10) rfl
 have c11:=(TB.out.below B_X0.out TB.out.lt).cell (i:=11) rfl
 have c12:=(TB.out.below B_X0.out TB.out.lt).cell (i:=12) rfl
 have c13:=(TB.out.below B_X0.out TB.out.lt).cell (i:=13) rfl
 have c14:=(TB.out.below B_X0.out TB.out.lt).cell (i:=14) rfl
 have ltTB:=(TB.out.below B_X0.out TB.out.lt).lt
 have d0:=(EB.out.below B_X0.out EB.out.lt).cell (i:=0) rfl
 have ltEB:=(EB.out.below B_X0.out EB.out.lt).lt
 clear c0 c1 c2 c3 c4 c5 c6 c7 c8 c9 c10 c11 c12 c13 c14 ltTB d0 ltEB
 go_wp2
 generalize hXX2:World.alloc (World.alloc (World.alloc w2 _) _) _=X2
 obtain⟨q0,q1,q2,hA,hzX2⟩:=box3 hXX2
 clear hXX2
 replace BW:=Lib.hid (BW.out.trans (hA.mono BW.out.size))
 replace B_X0:=Lib.hid (B_X0.out.trans (hA.mono B_X0.out.size))
 replace B_X1:=Lib.hid (B_X1.out.trans (hA.mono B_X1.out.size))
 clear hA
 have LS:=Lib.hid q0
 clear q0
 have EN:=Lib.hid q1
 clear q1
 have SL:=Lib.hid q2
 clear q2
 clear hzX2
 refine wp_loop_rounds 6 ?_
 have s0:X2.cell? ⟨w2.heap.size+1+1,0,none⟩=some (.int .i64 1):=SL.out.cell (i:=0) rfl
 have s1:X2.cell? ⟨w2.heap.size+1+1,1,none⟩=some (.func (.func 115) #[] #[.pointer (some ⟨w.heap.size,0,none⟩),.pointer (some ⟨w.heap.size+1,0,none⟩),.pointer (some ⟨w.heap.size+1+1,0,none⟩)]):=SL.out.cell (i:=1) rfl
 have s2:X2.cell? ⟨w2.heap.size+1+1,2,none⟩=some (.int .i64 5):=SL.out.cell (i:=2) rfl
 have s3:X2.cell? ⟨w2.heap.size+1+1,3,none⟩=some (.func (.func 117) #[] #[.pointer (some ⟨w1.heap.size,0,none⟩)]):=SL.out.cell (i:=3) rfl
 have s4:X2.cell? ⟨w2.heap.size+1+1,4,none⟩=some (.int .i64 2):=SL.out.cell (i:=4) rfl
 have s5:X2.cell? ⟨w2.heap.size+1+1,5,none⟩=some (.func (.func 114) #[] #[.pointer (some ⟨w1.heap.size+1,0,none⟩),.pointer (some ⟨w.heap.size,0,none⟩)]):=SL.out.cell (i:=5) rfl
 have s6:X2.cell? ⟨w2.heap.size+1+1,6,none⟩=some (.int .i64 3):=SL.out.cell (i:=6) rfl
 have s7:X2.cell? ⟨w2.heap.size+1+1,7,none⟩=some (.func (.func 118) #[] #[.pointer (some ⟨w.heap.size,0,none⟩),.pointer (some ⟨w.heap.size+1+1,0,none⟩),.pointer (some ⟨w2.heap.size+1,0,none⟩)]):=SL.out.cell (i:=7) rfl
 have s8:X2.cell? ⟨w2.heap.size+1+1,8,none⟩=some (.int .i64 4):=SL.out.cell (i:=8) rfl
 have s9:X2.cell? ⟨w2.heap.size+1+1,9,none⟩=some (.func (.func 119) #[] #[.pointer (some ⟨w.heap.size,0,none⟩),.pointer (some ⟨w.heap.size+1+1,0,none⟩),.pointer (some ⟨w2.heap.size,0,none⟩)]):=SL.out.cell (i:=9) rfl
 have ltSL:=SL.out.lt
 rw [rounds_succ]
 go_wp2_with fail
 generalize hXY0:World.alloc X2 _=Y0
 obtain⟨q0,hA,hzY0⟩:=box1 hXY0
 clear hXY0
 replace BW:=Lib.hid (BW.out.trans (hA.mono BW.out.size))
 replace B_X0:=Lib.hid (B_X0.out.trans (hA.mono B_X0.out.size))
 replace B_X1:=Lib.hid (B_X1.out.trans (hA.mono B_X1.out.size))
 have B_X2:=Lib.hid hA
 clear hA
 have XB0:=Lib.hid q0
 clear q0
 clear hzY0
 clear s0 s1 s2 s3 s4 s5 s6 s7 s8 s9 ltSL
 have s0:Y0.cell? ⟨w2.heap.size+1+1,0,none⟩=some (.int .i64 1):=(SL.out.below B_X2.out SL.out.lt).cell (i:=0) rfl
 have s1:Y0.cell? ⟨w2.heap.size+1+1,1,none⟩=some (.func (.func 115) #[] #[.pointer (some ⟨w.heap.size,0,none⟩),.pointer (some ⟨w.heap.size+1,0,none⟩),.pointer (some ⟨w.heap.size+1+1,0,none⟩)]):=(SL.out.below B_X2.out SL.out.lt).cell (i:=1) rfl
 have s2:Y0.cell? ⟨w2.heap.size+1+1,2,none⟩=some (.int .i64 5):=(SL.out.below B_X2.out SL.out.lt).cell (i:=2) rfl
 have s3:Y0.cell? ⟨w2.heap.size+1+1,3,none⟩=some (.func (.func 117) #[] #[.pointer (some ⟨w1.heap.size,0,none⟩)]):=(SL.out.below B_X2.out SL.out.lt).cell (i:=3) rfl
 have s4:Y0.cell? ⟨w2.heap.size+1+1,4,none⟩=some (.int .i64 2):=(SL.out.below B_X2.out SL.out.lt).cell (i:=4) rfl
 have s5:Y0.cell? ⟨w2.heap.size+1+1,5,none⟩=some (.func (.func 114) #[] #[.pointer (some ⟨w1.heap.size+1,0,none⟩),.pointer (some ⟨w.heap.size,0,none⟩)]):=(SL.out.below B_X2.out SL.out.lt).cell (i:=5) rfl
 have s6:Y0.cell? ⟨w2.heap.size+1+1,6,none⟩=some (.int .i64 3):=(SL.out.below B_X2.out SL.out.lt).cell (i:=6) rfl
 have s7:Y0.cell? ⟨w2.heap.size+1+1,7,none⟩=some (.func (.func 118) #[] #[.pointer (some ⟨w.heap.size,0,none⟩),.pointer (some ⟨w.heap.size+1+1,0,none⟩),.pointer (some ⟨w2.heap.size+1,0,none⟩)]):=(SL.out.below B_X2.out SL.out.lt).cell (i:=7) rfl
 have s8:Y0.cell? ⟨w2.heap.size+1+1,8,none⟩=some (.int .i64 4):=(SL.out.below B_X2.out SL.out.lt).cell (i:=8) rfl
 have s9:Y0.cell? ⟨w2.heap.size+1+1,9,none⟩=some (.func (.func 119) #[] #[.pointer (some ⟨w.heap.size,0,none⟩),.pointer (some ⟨w.heap.size+1+1,0,none⟩),.pointer (some ⟨w2.heap.size,0,none⟩)]):=(SL.out.below B_X2.out SL.out.lt).cell (i:=9) rfl
 have ltSL:=(SL.out.below B_X2.out SL.out.lt).lt
 have x0:Y0.cell? ⟨X2.heap.size,0,none⟩=some (.int .i64 1):=XB0.out.cell (i:=0) rfl
 have x1:Y0.cell? ⟨X2.heap.size,1,none⟩=some (.func (.func 115) #[] #[.pointer (some ⟨w.heap.size,0,none⟩),.pointer (some ⟨w.heap.size+1,0,none⟩),.pointer (some ⟨w.heap.size+1+1,0,none⟩)]):=XB0.out.cell (i:=1) rfl
 have ltXB0:=XB0.out.lt
 go_wp2_with fail
 refine (f1.out _ BW.out _ _ _ (TB.out.below B_X0.out TB.out.lt) (LB.out.below B_X0.out LB.out.lt) (EB.out.below B_X0.out EB.out.lt)).mono ?_
 rintro e w3 ⟨rfl,b3⟩
 replace BW:=Lib.hid (BW.out.trans (b3.mono BW.out.size))
 replace B_X0:=Lib.hid (B_X0.out.trans (b3.mono B_X0.out.size))
 replace B_X1:=Lib.hid (B_X1.out.trans (b3.mono B_X1.out.size))
 replace B_X2:=Lib.hid (B_X2.out.trans (b3.mono B_X2.out.size))
 have B_Y0:=Lib.hid b3
 clear b3
 clear s0 s1 s2 s3 s4 s5 s6 s7 s8 s9 ltSL x0 x1 ltXB0
 have s0:w3.cell? ⟨w2.heap.size+1+1,0,none⟩=some (.int .i64 1):=(SL.out.below B_X2.out SL.out.lt).cell (i:=0) rfl
 have s1:w3.cell? ⟨w2.heap.size+1+1,1,none⟩=some (.func (.func 115) #[] #[.pointer (some ⟨w.heap.size,0,none⟩),.pointer (some ⟨w.heap.size+1,0,none⟩),.pointer (some ⟨w.heap.size+1+1,0,none⟩)]):=(SL.out.below B_X2.out SL.out.lt).cell (i:=1) rfl
 have s2:w3.cell? ⟨w2.heap.size+1+1,2,none⟩=some (.int .i64 5):=(SL.out.below B_X2.out SL.out.lt).cell (i:=2) rfl
 have s3:w3.cell? ⟨w2.heap.size+1+1,3,none⟩=some (.func (.func 117) #[] #[.pointer (some ⟨w1.heap.size,0,none⟩)]):=(SL.out.below B_X2.out SL.out.lt).cell (i:=3) rfl
 have s4:w3.cell? ⟨w2.heap.size+1+1,4,none⟩=some (.int .i64 2):=(SL.out.below B_X2.out SL.out.lt).cell (i:=4) rfl
 have s5:w3.cell? ⟨w2.heap.size+1+1,5,none⟩=some (.func (.func 114) #[] #[.pointer (some ⟨w1.heap.size+1,0,none⟩),.pointer (some ⟨w.heap.size,0,none⟩)]):=(SL.out.below B_X2.out SL.out.lt).cell (i:=5) rfl
 have s6:w3.cell? ⟨w2.heap.size+1+1,6,none⟩=some (.int .i64 3):=(SL.out.below B_X2.out SL.out.lt).cell (i:=6) rfl
 have s7:w3.cell? ⟨w2.heap.size+1+1,7,none⟩=some (.func (.func 118) #[] #[.pointer (some ⟨w.heap.size,0,none⟩),.pointer (some ⟨w.heap.size+1+1,0,none⟩),.pointer (some ⟨w2.heap.size+1,0,none⟩)]):=(SL.out.below B_X2.out SL.out.lt).cell (i:=7) rfl
 have s8:w3.cell? ⟨w2.heap.size+1+1,8,none⟩=some (.int .i64 4):=(SL.out.below B_X2.out SL.out.lt).cell (i:=8) rfl
 have s9:w3.cell? ⟨w2.heap.size+1+1,9,none⟩=some (.func (.func 119) #[] #[.pointer (some ⟨w.heap.size,0,none⟩),.pointer (some ⟨w.heap.size+1+1,0,none⟩),.pointer (some ⟨w2.heap.size,0,none⟩)]):=(SL.out.below B_X2.out SL.out.lt).cell (i:=9) rfl
 have ltSL:=(SL.out.below B_X2.out SL.out.lt).lt
 have x0:w3.cell? ⟨X2.heap.size,0,none⟩=some (.int .i64 1):=(XB0.out.below B_Y0.out XB0.out.lt).cell (i:=0) rfl
 have x1:w3.cell? ⟨X2.heap.size,1,none⟩=some (.func (.func 115) #[] #[.pointer (some ⟨w.heap.size,0,none⟩),.pointer (some ⟨w.heap.size+1,0,none⟩),.pointer (some ⟨w.heap.size+1+1,0,none⟩)]):=(XB0.out.below B_Y0.out XB0.out.lt).cell (i:=1) rfl
 have ltXB0:=(XB0.out.below B_Y0.out XB0.out.lt).lt
 cases ba
 ·go_wp2
  go_ret
  exact⟨by simp,BW.out⟩
 go_wp2
 clear s0 s1 s2 s3 s4 s5 s6 s7 s8 s9 ltSL x0 x1 ltXB0
 clear XB0
 have s0:w3.cell? ⟨w2.heap.size+1+1,0,none⟩=some (.int .i64 1):=(SL.out.below B_X2.out SL.out.lt).cell (i:=0) rfl
 have s1:w3.cell? ⟨w2.heap.size+1+1,1,none⟩=some (.func (.func 115) #[] #[.pointer (some ⟨w.heap.size,0,none⟩),.pointer (some ⟨w.heap.size+1,0,none⟩),.pointer (some ⟨w.heap.size+1+1,0,none⟩)]):=(SL.out.below B_X2.out SL.out.lt).cell (i:=1) rfl
 have s2:w3.cell? ⟨w2.heap.size+1+1,2,none⟩=some (.int .i64 5):=(SL.out.below B_X2.out SL.out.lt).cell (i:=2) rfl
 have s3:w3.cell? ⟨w2.heap.size+1+1,3,none⟩=some (.func (.func 117) #[] #[.pointer (some ⟨w1.heap.size,0,none⟩)]):=(SL.out.below B_X2.out SL.out.lt).cell (i:=3) rfl
 have s4:w3.cell? ⟨w2.heap.size+1+1,4,none⟩=some (.int .i64 2):=(SL.out.below B_X2.out SL.out.lt).cell (i:=4) rfl
 have s5:w3.cell? ⟨w2.heap.size+1+1,5,none⟩=some (.func (.func 114) #[] #[.pointer (some ⟨w1.heap.size+1,0,none⟩),.pointer (some ⟨w.heap.size,0,none⟩)]):=(SL.out.below B_X2.out SL.out.lt).cell (i:=5) rfl
 have s6:w3.cell? ⟨w2.heap.size+1+1,6,none⟩=some (.int .i64 3):=(SL.out.below B_X2.out SL.out.lt).cell (i:=6) rfl
 have s7:w3.cell? ⟨w2.heap.size+1+1,7,none⟩=some (.func (.func 118) #[] #[.pointer (some ⟨w.heap.size,0,none⟩),.pointer (some ⟨w.heap.size+1+1,0,none⟩),.pointer (some ⟨w2.heap.size+1,0,none⟩)]):=(SL.out.below B_X2.out SL.out.lt).cell (i:=7) rfl
 have s8:w3.cell? ⟨w2.heap.size+1+1,8,none⟩=some (.int .i64 4):=(SL.out.below B_X2.out SL.out.lt).cell (i:=8) rfl
 have s9:w3.cell? ⟨w2.heap.size+1+1,9,none⟩=some (.func (.func 119) #[] #[.pointer (some ⟨w.heap.size,0,none⟩),.pointer (some ⟨w.heap.size+1+1,0,none⟩),.pointer (some ⟨w2.heap.size,0,none⟩)]):=(SL.out.below B_X2.out SL.out.lt).cell (i:=9) rfl
 have ltSL:=(SL.out.below B_X2.out SL.out.lt).lt
 rw [rounds_succ]
 go_wp2_with fail
 generalize hXY1:World.alloc w3 _=Y1
 obtain⟨q0,hA,hzY1⟩:=box1 hXY1
 clear hXY1
 replace BW:=Lib.hid (BW.out.trans (hA.mono BW.out.size))
 replace B_X0:=Lib.hid (B_X0.out.trans (hA.mono B_X0.out.size))
 replace B_X1:=Lib.hid (B_X1.out.trans (hA.mono B_X1.out.size))
 replace B_X2:=Lib.hid (B_X2.out.trans (hA.mono B_X2.out.size))
 replace B_Y0:=Lib.hid (B_Y0.out.trans (hA.mono B_Y0.out.size))
 clear hA
 have XB1:=Lib.hid q0
 clear q0
 clear hzY1
 clear s0 s1 s2 s3 s4 s5 s6 s7 s8 s9 ltSL
 have s0:Y1.cell? ⟨w2.heap.size+1+1,0,none⟩=some (.int .i64 1):=(SL.out.below B_X2.out SL.out.lt).cell (i:=0) rfl
 have s1:Y1.cell? ⟨w2.heap.size+1+1,1,none⟩=some (.func (.func 115) #[] #[.pointer (some ⟨w.heap.size,0,none⟩),.pointer (some ⟨w.heap.size+1,0,none⟩),.pointer (some ⟨w.heap.size+1+1,0,none⟩)]):=(SL.out.below B_X2.out SL.out.lt).cell (i:=1) rfl
 have s2:Y1.cell? ⟨w2.heap.size+1+1,2,none⟩=some (.int .i64 5):=(SL.out.below B_X2.out SL.out.lt).cell (i:=2) rfl
 have s3:Y1.cell? ⟨w2.heap.size+1+1,3,none⟩=some (.func (.func 117) #[] #[.pointer (some ⟨w1.heap.size,0,none⟩)]):=(SL.out.below B_X2.out SL.out.lt).cell (i:=3) rfl
 have s4:Y1.cell? ⟨w2.heap.size+1+1,4,none⟩=some (.int .i64 2):=(SL.out.below B_X2.out SL.out.lt).cell (i:=4) rfl
 have s5:Y1.cell? ⟨w2.heap.size+1+1,5,none⟩=some (.func (.func 114) #[] #[.pointer (some ⟨w1.heap.size+1,0,none⟩),.pointer (some ⟨w.heap.size,0,none⟩)]):=(SL.out.below B_X2.out SL.out.lt).cell (i:=5) rfl
 have s6:Y1.cell? ⟨w2.heap.size+1+1,6,none⟩=some (.int .i64 3):=(SL.out.below B_X2.out SL.out.lt).cell (i:=6) rfl
 have s7:Y1.cell? ⟨w2.heap.size+1+1,7,none⟩=some (.func (.func 118) #[] #[.pointer (some ⟨w.heap.size,0,none⟩),.pointer (some ⟨w.heap.size+1+1,0,none⟩),.pointer (some ⟨w2.heap.size+1,0,none⟩)]):=(SL.out.below B_X2.out SL.out.lt).cell (i:=7) rfl
 have s8:Y1.cell? ⟨w2.heap.size+1+1,8,none⟩=some (.int .i64 4):=(SL.out.below B_X2.out SL.out.lt).cell (i:=8) rfl
 have s9:Y1.cell? ⟨w2.heap.size+1+1,9,none⟩=some (.func (.func 119) #[] #[.pointer (some ⟨w.heap.size,0,none⟩),.pointer (some ⟨w.heap.size+1+1,0,none⟩),.pointer (some ⟨w2.heap.size,0,none⟩)]):=(SL.out.below B_X2.out SL.out.lt).cell (i:=9) rfl
 have ltSL:=(SL.out.below B_X2.out SL.out.lt).lt
 have x0:Y1.cell? ⟨w3.heap.size,0,none⟩=some (.int .i64 5):=XB1.out.cell (i:=0) rfl
 have x1:Y1.cell? ⟨w3.heap.size,1,none⟩=some (.func (.func 117) #[] #[.pointer (some ⟨w1.heap.size,0,none⟩)]):=XB1.out.cell (i:=1) rfl
 have ltXB1:=XB1.out.lt
 go_wp2_with fail
 refine (f2.out _ bb _ (CB.out.below B_X1.out CB.out.lt)).mono ?_
 rintro e w4 ⟨rfl,b4⟩
 replace BW:=Lib.hid (BW.out.trans (b4.mono BW.out.size))
 replace B_X0:=Lib.hid (B_X0.out.trans (b4.mono B_X0.out.size))
 replace B_X1:=Lib.hid (B_X1.out.trans (b4.mono B_X1.out.size))
 replace B_X2:=Lib.hid (B_X2.out.trans (b4.mono B_X2.out.size))
 replace B_Y0:=Lib.hid (B_Y0.out.trans (b4.mono B_Y0.out.size))
 have B_Y1:=Lib.hid b4
 clear b4
 clear s0 s1 s2 s3 s4 s5 s6 s7 s8 s9 ltSL x0 x1 ltXB1
 have s0:w4.cell? ⟨w2.heap.size+1+1,0,none⟩=some (.int .i64 1):=(SL.out.below B_X2.out SL.out.lt).cell (i:=0) rfl
 have s1:w4.cell? ⟨w2.heap.size+1+1,1,none⟩=some (.func (.func 115) #[] #[.pointer (some ⟨w.heap.size,0,none⟩),.pointer (some ⟨w.heap.size+1,0,none⟩),.pointer (some ⟨w.heap.size+1+1,0,none⟩)]):=(SL.out.below B_X2.out SL.out.lt).cell (i:=1) rfl
 have s2:w4.cell? ⟨w2.heap.size+1+1,2,none⟩=some (.int .i64 5):=(SL.out.below B_X2.out SL.out.lt).cell (i:=2) rfl
 have s3:w4.cell? ⟨w2.heap.size+1+1,3,none⟩=some (.func (.func 117) #[] #[.pointer (some ⟨w1.heap.size,0,none⟩)]):=(SL.out.below B_X2.out SL.out.lt).cell (i:=3) rfl
 have s4:w4.cell? ⟨w2.heap.size+1+1,4,none⟩=some (.int .i64 2):=(SL.out.below B_X2.out SL.out.lt).cell (i:=4) rfl
 have s5:w4.cell? ⟨w2.heap.size+1+1,5,none⟩=some (.func (.func 114) #[] #[.pointer (some ⟨w1.heap.size+1,0,none⟩),.pointer (some ⟨w.heap.size,0,none⟩)]):=(SL.out.below B_X2.out SL.out.lt).cell (i:=5) rfl
 have s6:w4.cell? ⟨w2.heap.size+1+1,6,none⟩=some (.int .i64 3):=(SL.out.below B_X2.out SL.out.lt).cell (i:=6) rfl
 have s7:w4.cell? ⟨w2.heap.size+1+1,7,none⟩=some (.func (.func 118) #[] #[.pointer (some ⟨w.heap.size,0,none⟩),.pointer (some ⟨w.heap.size+1+1,0,none⟩),.pointer (some ⟨w2.heap.size+1,0,none⟩)]):=(SL.out.below B_X2.out SL.out.lt).cell (i:=7) rfl
 have s8:w4.cell? ⟨w2.heap.size+1+1,8,none⟩=some (.int .i64 4):=(SL.out.below B_X2.out SL.out.lt).cell (i:=8) rfl
 have s9:w4.cell? ⟨w2.heap.size+1+1,9,none⟩=some (.func (.func 119) #[] #[.pointer (some ⟨w.heap.size,0,none⟩),.pointer (some ⟨w.heap.size+1+1,0,none⟩),.pointer (some ⟨w2.heap.size,0,none⟩)]):=(SL.out.below B_X2.out SL.out.lt).cell (i:=9) rfl
 have ltSL:=(SL.out.below B_X2.out SL.out.lt).lt
 have x0:w4.cell? ⟨w3.heap.size,0,none⟩=some (.int .i64 5):=(XB1.out.below B_Y1.out XB1.out.lt).cell (i:=0) rfl
 have x1:w4.cell? ⟨w3.heap.size,1,none⟩=some (.func (.func 117) #[] #[.pointer (some ⟨w1.heap.size,0,none⟩)]):=(XB1.out.below B_Y1.out XB1.out.lt).cell (i:=1) rfl
 have ltXB1:=(XB1.out.below B_Y1.out XB1.out.lt).lt
 cases bb
 ·go_wp2
  go_ret
  exact⟨by simp,BW.out⟩
 go_wp2
 clear s0 s1 s2 s3 s4 s5 s6 s7 s8 s9 ltSL x0 x1 ltXB1
 clear XB1
 have s0:w4.cell? ⟨w2.heap.size+1+1,0,none⟩=some (.int .i64 1):=(SL.out.below B_X2.out SL.out.lt).cell (i:=0) rfl
 have s1:w4.cell? ⟨w2.heap.size+1+1,1,none⟩=some (.func (.func 115) #[] #[.pointer (some ⟨w.heap.size,0,none⟩),.pointer (some ⟨w.heap.size+1,0,none⟩),.pointer (some ⟨w.heap.size+1+1,0,none⟩)]):=(SL.out.below B_X2.out SL.out.lt).cell (i:=1) rfl
 have s2:w4.cell? ⟨w2.heap.size+1+1,2,none⟩=some (.int .i64 5):=(SL.out.below B_X2.out SL.out.lt).cell (i:=2) rfl
 have s3:w4.cell? ⟨w2.heap.size+1+1,3,none⟩=some (.func (.func 117) #[] #[.pointer (some ⟨w1.heap.size,0,none⟩)]):=(SL.out.below B_X2.out SL.out.lt).cell (i:=3) rfl
 have s4:w4.cell? ⟨w2.heap.size+1+1,4,none⟩=some (.int .i64 2):=(SL.out.below B_X2.out SL.out.lt).cell (i:=4) rfl
 have s5:w4.cell? ⟨w2.heap.size+1+1,5,none⟩=some (.func (.func 114) #[] #[.pointer (some ⟨w1.heap.size+1,0,none⟩),.pointer (some ⟨w.heap.size,0,none⟩)]):=(SL.out.below B_X2.out SL.out.lt).cell (i:=5) rfl
 have s6:w4.cell? ⟨w2.heap.size+1+1,6,none⟩=some (.int .i64 3):=(SL.out.below B_X2.out SL.out.lt).cell (i:=6) rfl
 have s7:w4.cell? ⟨w2.heap.size+1+1,7,none⟩=some (.func (.func 118) #[] #[.pointer (some ⟨w.heap.size,0,none⟩),.pointer (some ⟨w.heap.size+1+1,0,none⟩),.pointer (some ⟨w2.heap.size+1,0,none⟩)]):=(SL.out.below B_X2.out SL.out.lt).cell (i:=7) rfl
 have s8:w4.cell? ⟨w2.heap.size+1+1,8,none⟩=some (.int .i64 4):=(SL.out.below B_X2.out SL.out.lt).cell (i:=8) rfl
 have s9:w4.cell? ⟨w2.heap.size+1+1,9,none⟩=some (.func (.func 119) #[] #[.pointer (some ⟨w.heap.size,0,none⟩),.pointer (some ⟨w.heap.size+1+1,0,none⟩),.pointer (some ⟨w2.heap.size,0,none⟩)]):=(SL.out.below B_X2.out SL.out.lt).cell (i:=9) rfl
 have ltSL:=(SL.out.below B_X2.out SL.out.lt).lt
 rw [rounds_succ]
 go_wp2_with fail
 generalize hXY2:World.alloc w4 _=Y2
 obtain⟨q0,hA,hzY2⟩:=box1 hXY2
 clear hXY2
 replace BW:=Lib.hid (BW.out.trans (hA.mono BW.out.size))
 replace B_X0:=Lib.hid (B_X0.out.trans (hA.mono B_X0.out.size))
 replace B_X1:=Lib.hid (B_X1.out.trans (hA.mono B_X1.out.size))
 replace B_X2:=Lib.hid (B_X2.out.trans (hA.mono B_X2.out.size))
 replace B_Y0:=Lib.hid (B_Y0.out.trans (hA.mono B_Y0.out.size))
 replace B_Y1:=Lib.hid (B_Y1.out.trans (hA.mono B_Y1.out.size))
 clear hA
 have XB2:=Lib.hid q0
 clear q0
 clear hzY2
 clear s0 s1 s2 s3 s4 s5 s6 s7 s8 s9 ltSL
 have s0:Y2.cell? ⟨w2.heap.size+1+1,0,none⟩=some (.int .i64 1):=(SL.out.below B_X2.out SL.out.lt).cell (i:=0) rfl
 have s1:Y2.cell? ⟨w2.heap.size+1+1,1,none⟩=some (.func (.func 115) #[] #[.pointer (some ⟨w.heap.size,0,none⟩),.pointer (some ⟨w.heap.size+1,0,none⟩),.pointer (some ⟨w.heap.size+1+1,0,none⟩)]):=(SL.out.below B_X2.out SL.out.lt).cell (i:=1) rfl
 have s2:Y2.cell? ⟨w2.heap.size+1+1,2,none⟩=some (.int .i64 5):=(SL.out.below B_X2.out SL.out.lt).cell (i:=2) rfl
 have s3:Y2.cell? ⟨w2.heap.size+1+1,3,none⟩=some (.func (.func 117) #[] #[.pointer (some ⟨w1.heap.size,0,none⟩)]):=(SL.out.below B_X2.out SL.out.lt).cell (i:=3) rfl
 have s4:Y2.cell? ⟨w2.heap.size+1+1,4,none⟩=some (.int .i64 2):=(SL.out.below B_X2.out SL.out.lt).cell (i:=4) rfl
 have s5:Y2.cell? ⟨w2.heap.size+1+1,5,none⟩=some (.func (.func 114) #[] #[.pointer (some ⟨w1.heap.size+1,0,none⟩),.pointer (some ⟨w.heap.size,0,none⟩)]):=(SL.out.below B_X2.out SL.out.lt).cell (i:=5) rfl
 have s6:Y2.cell? ⟨w2.heap.size+1+1,6,none⟩=some (.int .i64 3):=(SL.out.below B_X2.out SL.out.lt).cell (i:=6) rfl
 have s7:Y2.cell? ⟨w2.heap.size+1+1,7,none⟩=some (.func (.func 118) #[] #[.pointer (some ⟨w.heap.size,0,none⟩),.pointer (some ⟨w.heap.size+1+1,0,none⟩),.pointer (some ⟨w2.heap.size+1,0,none⟩)]):=(SL.out.below B_X2.out SL.out.lt).cell (i:=7) rfl
 have s8:Y2.cell? ⟨w2.heap.size+1+1,8,none⟩=some (.int .i64 4):=(SL.out.below B_X2.out SL.out.lt).cell (i:=8) rfl
 have s9:Y2.cell? ⟨w2.heap.size+1+1,9,none⟩=some (.func (.func 119) #[] #[.pointer (some ⟨w.heap.size,0,none⟩),.pointer (some ⟨w.heap.size+1+1,0,none⟩),.pointer (some ⟨w2.heap.size,0,none⟩)]):=(SL.out.below B_X2.out SL.out.lt).cell (i:=9) rfl
 have ltSL:=(SL.out.below B_X2.out SL.out.lt).lt
 have x0:Y2.cell? ⟨w4.heap.size,0,none⟩=some (.int .i64 2):=XB2.out.cell (i:=0) rfl
 have x1:Y2.cell? ⟨w4.heap.size,1,none⟩=some (.func (.func 114) #[] #[.pointer (some ⟨w1.heap.size+1,0,none⟩),.pointer (some ⟨w.heap.size,0,none⟩)]):=XB2.out.cell (i:=1) rfl
 have ltXB2:=XB2.out.lt
 go_wp2_with fail
 refine (f3.out _ BW.out _ _ (RB.out.below B_X1.out RB.out.lt) (TB.out.below B_X0.out TB.out.lt)).mono ?_
 rintro e w5 ⟨rfl,b5⟩
 replace BW:=Lib.hid (BW.out.trans (b5.mono BW.out.size))
 replace B_X0:=Lib.hid (B_X0.out.trans (b5.mono B_X0.out.size))
 replace B_X1:=Lib.hid (B_X1.out.trans (b5.mono B_X1.out.size))
 replace B_X2:=Lib.hid (B_X2.out.trans (b5.mono B_X2.out.size))
 replace B_Y0:=Lib.hid (B_Y0.out.trans (b5.mono B_Y0.out.size))
 replace B_Y1:=Lib.hid (B_Y1.out.trans (b5.mono B_Y1.out.size))
 have B_Y2:=Lib.hid b5
 clear b5
 clear s0 s1 s2 s3 s4 s5 s6 s7 s8 s9 ltSL x0 x1 ltXB2
 have s0:w5.cell? ⟨w2.heap.size+1+1,0,none⟩=some (.int .i64 1):=(SL.out.below B_X2.out SL.out.lt).cell (i:=0) rfl
 have s1:w5.cell? ⟨w2.heap.size+1+1,1,none⟩=some (.func (.func 115) #[] #[.pointer (some ⟨w.heap.size,0,none⟩),.pointer (some ⟨w.heap.size+1,0,none⟩),.pointer (some ⟨w.heap.size+1+1,0,none⟩)]):=(SL.out.below B_X2.out SL.out.lt).cell (i:=1) rfl
 have s2:w5.cell? ⟨w2.heap.size+1+1,2,none⟩=some (.int .i64 5):=(SL.out.below B_X2.out SL.out.lt).cell (i:=2) rfl
 have s3:w5.cell? ⟨w2.heap.size+1+1,3,none⟩=some (.func (.func 117) #[] #[.pointer (some ⟨w1.heap.size,0,none⟩)]):=(SL.out.below B_X2.out SL.out.lt).cell (i:=3) rfl
 have s4:w5.cell? ⟨w2.heap.size+1+1,4,none⟩=some (.int .i64 2):=(SL.out.below B_X2.out SL.out.lt).cell (i:=4) rfl
 have s5:w5.cell? ⟨w2.heap.size+1+1,5,none⟩=some (.func (.func 114) #[] #[.pointer (some ⟨w1.heap.size+1,0,none⟩),.pointer (some ⟨w.heap.size,0,none⟩)]):=(SL.out.below B_X2.out SL.out.lt).cell (i:=5) rfl
 have s6:w5.cell? ⟨w2.heap.size+1+1,6,none⟩=some (.int .i64 3):=(SL.out.below B_X2.out SL.out.lt).cell (i:=6) rfl
 have s7:w5.cell? ⟨w2.heap.size+1+1,7,none⟩=some (.func (.func 118) #[] #[.pointer (some ⟨w.heap.size,0,none⟩),.pointer (some ⟨w.heap.size+1+1,0,none⟩),.pointer (some ⟨w2.heap.size+1,0,none⟩)]):=(SL.out.below B_X2.out SL.out.lt).cell (i:=7) rfl
 have s8:w5.cell? ⟨w2.heap.size+1+1,8,none⟩=some (.int .i64 4):=(SL.out.below B_X2.out SL.out.lt).cell (i:=8) rfl
 have s9:w5.cell? ⟨w2.heap.size+1+1,9,none⟩=some (.func (.func 119) #[] #[.pointer (some ⟨w.heap.size,0,none⟩),.pointer (some ⟨w.heap.size+1+1,0,none⟩),.pointer (some ⟨w2.heap.size,0,none⟩)]):=(SL.out.below B_X2.out SL.out.lt).cell (i:=9) rfl
 have ltSL:=(SL.out.below B_X2.out SL.out.lt).lt
 have x0:w5.cell? ⟨w4.heap.size,0,none⟩=some (.int .i64 2):=(XB2.out.below B_Y2.out XB2.out.lt).cell (i:=0) rfl
 have x1:w5.cell? ⟨w4.heap.size,1,none⟩=some (.func (.func 114) #[] #[.pointer (some ⟨w1.heap.size+1,0,none⟩),.pointer (some ⟨w.heap.size,0,none⟩)]):=(XB2.out.below B_Y2.out XB2.out.lt).cell (i:=1) rfl
 have ltXB2:=(XB2.out.below B_Y2.out XB2.out.lt).lt
 cases bc
 ·go_wp2
  go_ret
  exact⟨by simp,BW.out⟩
 go_wp2
 clear s0 s1 s2 s3 s4 s5 s6 s7 s8 s9 ltSL x0 x1 ltXB2
 clear XB2
 have s0:w5.cell? ⟨w2.heap.size+1+1,0,none⟩=some (.int .i64 1):=(SL.out.below B_X2.out SL.out.lt).cell (i:=0) rfl
 have s1:w5.cell? ⟨w2.heap.size+1+1,1,none⟩=some (.func (.func 115) #[] #[.pointer (some ⟨w.heap.size,0,none⟩),.pointer (some ⟨w.heap.size+1,0,none⟩),.pointer (some ⟨w.heap.size+1+1,0,none⟩)]):=(SL.out.below B_X2.out SL.out.lt).cell (i:=1) rfl
 have s2:w5.cell? ⟨w2.heap.size+1+1,2,none⟩=some (.int .i64 5):=(SL.out.below B_X2.out SL.out.lt).cell (i:=2) rfl
 have s3:w5.cell? ⟨w2.heap.size+1+1,3,none⟩=some (.func (.func 117) #[] #[.pointer (some ⟨w1.heap.size,0,none⟩)]):=(SL.out.below B_X2.out SL.out.lt).cell (i:=3) rfl
 have s4:w5.cell? ⟨w2.heap.size+1+1,4,none⟩=some (.int .i64 2):=(SL.out.below B_X2.out SL.out.lt).cell (i:=4) rfl
 have s5:w5.cell? ⟨w2.heap.size+1+1,5,none⟩=some (.func (.func 114) #[] #[.pointer (some ⟨w1.heap.size+1,0,none⟩),.pointer (some ⟨w.heap.size,0,none⟩)]):=(SL.out.below B_X2.out SL.out.lt).cell (i:=5) rfl
 have s6:w5.cell? ⟨w2.heap.size+1+1,6,none⟩=some (.int .i64 3):=(SL.out.below B_X2.out SL.out.lt).cell (i:=6) rfl
 have s7:w5.cell? ⟨w2.heap.size+1+1,7,none⟩=some (.func (.func 118) #[] #[.pointer (some ⟨w.heap.size,0,none⟩),.pointer (some ⟨w.heap.size+1+1,0,none⟩),.pointer (some ⟨w2.heap.size+1,0,none⟩)]):=(SL.out.below B_X2.out SL.out.lt).cell (i:=7) rfl
 have s8:w5.cell? ⟨w2.heap.size+1+1,8,none⟩=some (.int .i64 4):=(SL.out.below B_X2.out SL.out.lt).cell (i:=8) rfl
 have s9:w5.cell? ⟨w2.heap.size+1+1,9,none⟩=some (.func (.func 119) #[] #[.pointer (some ⟨w.heap.size,0,none⟩),.pointer (some ⟨w.heap.size+1+1,0,none⟩),.pointer (some ⟨w2.heap.size,0,none⟩)]):=(SL.out.below B_X2.out SL.out.lt).cell (i:=9) rfl
 have ltSL:=(SL.out.below B_X2.out SL.out.lt).lt
 rw [rounds_succ]
 go_wp2_with fail
 generalize hXY3:World.alloc w5 _=Y3
 obtain⟨q0,hA,hzY3⟩:=box1 hXY3
 clear hXY3
 replace BW:=Lib.hid (BW.out.trans (hA.mono BW.out.size))
 replace B_X0:=Lib.hid (B_X0.out.trans (hA.mono B_X0.out.size))
 replace B_X1:=Lib.hid (B_X1.out.trans (hA.mono B_X1.out.size))
 replace B_X2:=Lib.hid (B_X2.out.trans (hA.mono B_X2.out.size))
 replace B_Y0:=Lib.hid (B_Y0.out.trans (hA.mono B_Y0.out.size))
 replace B_Y1:=Lib.hid (B_Y1.out.trans (hA.mono B_Y1.out.size))
 replace B_Y2:=Lib.hid (B_Y2.out.trans (hA.mono B_Y2.out.size))
 clear hA
 have XB3:=Lib.hid q0
 clear q0
 clear hzY3
 clear s0 s1 s2 s3 s4 s5 s6 s7 s8 s9 ltSL
 have s0:Y3.cell? ⟨w2.heap.size+1+1,0,none⟩=some (.int .i64 1):=(SL.out.below B_X2.out SL.out.lt).cell (i:=0) rfl
 have s1:Y3.cell? ⟨w2.heap.size+1+1,1,none⟩=some (.func (.func 115) #[] #[.pointer (some ⟨w.heap.size,0,none⟩),.pointer (some ⟨w.heap.size+1,0,none⟩),.pointer (some ⟨w.heap.size+1+1,0,none⟩)]):=(SL.out.below B_X2.out SL.out.lt).cell (i:=1) rfl
 have s2:Y3.cell? ⟨w2.heap.size+1+1,2,none⟩=some (.int .i64 5):=(SL.out.below B_X2.out SL.out.lt).cell (i:=2) rfl
 have s3:Y3.cell? ⟨w2.heap.size+1+1,3,none⟩=some (.func (.func 117) #[] #[.pointer (some ⟨w1.heap.size,0,none⟩)]):=(SL.out.below B_X2.out SL.out.lt).cell (i:=3) rfl
 have s4:Y3.cell? ⟨w2.heap.size+1+1,4,none⟩=some (.int .i64 2):=(SL.out.below B_X2.out SL.out.lt).cell (i:=4) rfl
 have s5:Y3.cell? ⟨w2.heap.size+1+1,5,none⟩=some (.func (.func 114) #[] #[.pointer (some ⟨w1.heap.size+1,0,none⟩),.pointer (some ⟨w.heap.size,0,none⟩)]):=(SL.out.below B_X2.out SL.out.lt).cell (i:=5) rfl
 have s6:Y3.cell? ⟨w2.heap.size+1+1,6,none⟩=some (.int .i64 3):=(SL.out.below B_X2.out SL.out.lt).cell (i:=6) rfl
 have s7:Y3.cell? ⟨w2.heap.size+1+1,7,none⟩=some (.func (.func 118) #[] #[.pointer (some ⟨w.heap.size,0,none⟩),.pointer (some ⟨w.heap.size+1+1,0,none⟩),.pointer (some ⟨w2.heap.size+1,0,none⟩)]):=(SL.out.below B_X2.out SL.out.lt).cell (i:=7) rfl
 have s8:Y3.cell? ⟨w2.heap.size+1+1,8,none⟩=some (.int .i64 4):=(SL.out.below B_X2.out SL.out.lt).cell (i:=8) rfl
 have s9:Y3.cell? ⟨w2.heap.size+1+1,9,none⟩=some (.func (.func 119) #[] #[.pointer (some ⟨w.heap.size,0,none⟩),.pointer (some ⟨w.heap.size+1+1,0,none⟩),.pointer (some ⟨w2.heap.size,0,none⟩)]):=(SL.out.below B_X2.out SL.out.lt).cell (i:=9) rfl
 have ltSL:=(SL.out.below B_X2.out SL.out.lt).lt
 have x0:Y3.cell? ⟨w5.heap.size,0,none⟩=some (.int .i64 3):=XB3.out.cell (i:=0) rfl
 have x1:Y3.cell? ⟨w5.heap.size,1,none⟩=some (.func (.func 118) #[] #[.pointer (some ⟨w.heap.size,0,none⟩),.pointer (some ⟨w.heap.size+1+1,0,none⟩),.pointer (some ⟨w2.heap.size+1,0,none⟩)]):=XB3.out.cell (i:=1) rfl
 have ltXB3:=XB3.out.lt
 go_wp2_with fail
 refine (f4.out _ BW.out _ _ _ (TB.out.below B_X0.out TB.out.lt) (EB.out.below B_X0.out EB.out.lt) (EN.out.below B_X2.out EN.out.lt)).mono ?_
 rintro e w6 ⟨rfl,b6⟩
 replace BW:=Lib.hid (BW.out.trans (b6.mono BW.out.size))
 replace B_X0:=Lib.hid (B_X0.out.trans (b6.mono B_X0.out.size))
 replace B_X1:=Lib.hid (B_X1.out.trans (b6.mono B_X1.out.size))
 replace B_X2:=Lib.hid (B_X2.out.trans (b6.mono B_X2.out.size))
 replace B_Y0:=Lib.hid (B_Y0.out.trans (b6.mono B_Y0.out.size))
 replace B_Y1:=Lib.hid (B_Y1.out.trans (b6.mono B_Y1.out.size))
 replace B_Y2:=Lib.hid (B_Y2.out.trans (b6.mono B_Y2.out.size))
 have B_Y3:=Lib.hid b6
 clear b6
 clear s0 s1 s2 s3 s4 s5 s6 s7 s8 s9 ltSL x0 x1 ltXB3
 have s0:w6.cell? ⟨w2.heap.size+1+1,0,none⟩=some (.int .i64 1):=(SL.out.below B_X2.out SL.out.lt).cell (i:=0) rfl
 have s1:w6.cell? ⟨w2.heap.size+1+1,1,none⟩=some (.func (.func 115) #[] #[.pointer (some ⟨w.heap.size,0,none⟩),.pointer (some ⟨w.heap.size+1,0,none⟩),.pointer (some ⟨w.heap.size+1+1,0,none⟩)]):=(SL.out.below B_X2.out SL.out.lt).cell (i:=1) rfl
 have s2:w6.cell? ⟨w2.heap.size+1+1,2,none⟩=some (.int .i64 5):=(SL.out.below B_X2.out SL.out.lt).cell (i:=2) rfl
 have s3:w6.cell? ⟨w2.heap.size+1+1,3,none⟩=some (.func (.func 117) #[] #[.pointer (some ⟨w1.heap.size,0,none⟩)]):=(SL.out.below B_X2.out SL.out.lt).cell (i:=3) rfl
 have s4:w6.cell? ⟨w2.heap.size+1+1,4,none⟩=some (.int .i64 2):=(SL.out.below B_X2.out SL.out.lt).cell (i:=4) rfl
 have s5:w6.cell? ⟨w2.heap.size+1+1,5,none⟩=some (.func (.func 114) #[] #[.pointer (some ⟨w1.heap.size+1,0,none⟩),.pointer (some ⟨w.heap.size,0,none⟩)]):=(SL.out.below B_X2.out SL.out.lt).cell (i:=5) rfl
 have s6:w6.cell? ⟨w2.heap.size+1+1,6,none⟩=some (.int .i64 3):=(SL.out.below B_X2.out SL.out.lt).cell (i:=6) rfl
 have s7:w6.cell? ⟨w2.heap.size+1+1,7,none⟩=some (.func (.func 118) #[] #[.pointer (some ⟨w.heap.size,0,none⟩),.pointer (some ⟨w.heap.size+1+1,0,none⟩),.pointer (some ⟨w2.heap.size+1,0,none⟩)]):=(SL.out.below B_X2.out SL.out.lt).cell (i:=7) rfl
 have s8:w6.cell? ⟨w2.heap.size+1+1,8,none⟩=some (.int .i64 4):=(SL.out.below B_X2.out SL.out.lt).cell (i:=8) rfl
 have s9:w6.cell? ⟨w2.heap.size+1+1,9,none⟩=some (.func (.func 119) #[] #[.pointer (some ⟨w.heap.size,0,none⟩),.pointer (some ⟨w.heap.size+1+1,0,none⟩),.pointer (some ⟨w2.heap.size,0,none⟩)]):=(SL.out.below B_X2.out SL.out.lt).cell (i:=9) rfl
 have ltSL:=(SL.out.below B_X2.out SL.out.lt).lt
 have x0:w6.cell? ⟨w5.heap.size,0,none⟩=some (.int .i64 3):=(XB3.out.below B_Y3.out XB3.out.lt).cell (i:=0) rfl
 have x1:w6.cell? ⟨w5.heap.size,1,none⟩=some (.func (.func 118) #[] #[.pointer (some ⟨w.heap.size,0,none⟩),.pointer (some ⟨w.heap.size+1+1,0,none⟩),.pointer (some ⟨w2.heap.size+1,0,none⟩)]):=(XB3.out.below B_Y3.out XB3.out.lt).cell (i:=1) rfl
 have ltXB3:=(XB3.out.below B_Y3.out XB3.out.lt).lt
 cases bd
 ·go_wp2
  go_ret
  exact⟨by simp,BW.out⟩
 go_wp2
 clear s0 s1 s2 s3 s4 s5 s6 s7 s8 s9 ltSL x0 x1 ltXB3
 clear XB3
 have s0:w6.cell? ⟨w2.heap.size+1+1,0,none⟩=some (.int .i64 1):=(SL.out.below B_X2.out SL.out.lt).cell (i:=0) rfl
 have s1:w6.cell? ⟨w2.heap.size+1+1,1,none⟩=some (.func (.func 115) #[] #[.pointer (some ⟨w.heap.size,0,none⟩),.pointer (some ⟨w.heap.size+1,0,none⟩),.pointer (some ⟨w.heap.size+1+1,0,none⟩)]):=(SL.out.below B_X2.out SL.out.lt).cell (i:=1) rfl
 have s2:w6.cell? ⟨w2.heap.size+1+1,2,none⟩=some (.int .i64 5):=(SL.out.below B_X2.out SL.out.lt).cell (i:=2) rfl
 have s3:w6.cell? ⟨w2.heap.size+1+1,3,none⟩=some (.func (.func 117) #[] #[.pointer (some ⟨w1.heap.size,0,none⟩)]):=(SL.out.below B_X2.out SL.out.lt).cell (i:=3) rfl
 have s4:w6.cell? ⟨w2.heap.size+1+1,4,none⟩=some (.int .i64 2):=(SL.out.below B_X2.out SL.out.lt).cell (i:=4) rfl
 have s5:w6.cell? ⟨w2.heap.size+1+1,5,none⟩=some (.func (.func 114) #[] #[.pointer (some ⟨w1.heap.size+1,0,none⟩),.pointer (some ⟨w.heap.size,0,none⟩)]):=(SL.out.below B_X2.out SL.out.lt).cell (i:=5) rfl
 have s6:w6.cell? ⟨w2.heap.size+1+1,6,none⟩=some (.int .i64 3):=(SL.out.below B_X2.out SL.out.lt).cell (i:=6) rfl
 have s7:w6.cell? ⟨w2.heap.size+1+1,7,none⟩=some (.func (.func 118) #[] #[.pointer (some ⟨w.heap.size,0,none⟩),.pointer (some ⟨w.heap.size+1+1,0,none⟩),.pointer (some ⟨w2.heap.size+1,0,none⟩)]):=(SL.out.below B_X2.out SL.out.lt).cell (i:=7) rfl
 have s8:w6.cell? ⟨w2.heap.size+1+1,8,none⟩=some (.int .i64 4):=(SL.out.below B_X2.out SL.out.lt).cell (i:=8) rfl
 have s9:w6.cell? ⟨w2.heap.size+1+1,9,none⟩=some (.func (.func 119) #[] #[.pointer (some ⟨w.heap.size,0,none⟩),.pointer (some ⟨w.heap.size+1+1,0,none⟩),.pointer (some ⟨w2.heap.size,0,none⟩)]):=(SL.out.below B_X2.out SL.out.lt).cell (i:=9) rfl
 have ltSL:=(SL.out.below B_X2.out SL.out.lt).lt
 rw [rounds_succ]
 go_wp2_with fail
 generalize hXY4:World.alloc w6 _=Y4
 obtain⟨q0,hA,hzY4⟩:=box1 hXY4
 clear hXY4
 replace BW:=Lib.hid (BW.out.trans (hA.mono BW.out.size))
 replace B_X0:=Lib.hid (B_X0.out.trans (hA.mono B_X0.out.size))
 replace B_X1:=Lib.hid (B_X1.out.trans (hA.mono B_X1.out.size))
 replace B_X2:=Lib.hid (B_X2.out.trans (hA.mono B_X2.out.size))
 replace B_Y0:=Lib.hid (B_Y0.out.trans (hA.mono B_Y0.out.size))
 replace B_Y1:=Lib.hid (B_Y1.out.trans (hA.mono B_Y1.out.size))
 replace B_Y2:=Lib.hid (B_Y2.out.trans (hA.mono B_Y2.out.size))
 replace B_Y3:=Lib.hid (B_Y3.out.trans (hA.mono B_Y3.out.size))
 clear hA
 have XB4:=Lib.hid q0
 clear q0
 clear hzY4
 clear s0 s1 s2 s3 s4 s5 s6 s7 s8 s9 ltSL
 have s0:Y4.cell? ⟨w2.heap.size+1+1,0,none⟩=some (.int .i64 1):=(SL.out.below B_X2.out SL.out.lt).cell (i:=0) rfl
 have s1:Y4.cell? ⟨w2.heap.size+1+1,1,none⟩=some (.func (.func 115) #[] #[.pointer (some ⟨w.heap.size,0,none⟩),.pointer (some ⟨w.heap.size+1,0,none⟩),.pointer (some ⟨w.heap.size+1+1,0,none⟩)]):=(SL.out.below B_X2.out SL.out.lt).cell (i:=1) rfl
 have s2:Y4.cell? ⟨w2.heap.size+1+1,2,none⟩=some (.int .i64 5):=(SL.out.below B_X2.out SL.out.lt).cell (i:=2) rfl
 have s3:Y4.cell? ⟨w2.heap.size+1+1,3,none⟩=some (.func (.func 117) #[] #[.pointer (some ⟨w1.heap.size,0,none⟩)]):=(SL.out.below B_X2.out SL.out.lt).cell (i:=3) rfl
 have s4:Y4.cell? ⟨w2.heap.size+1+1,4,none⟩=some (.int .i64 2):=(SL.out.below B_X2.out SL.out.lt).cell (i:=4) rfl
 have s5:Y4.cell? ⟨w2.heap.size+1+1,5,none⟩=some (.func (.func 114) #[] #[.pointer (some ⟨w1.heap.size+1,0,none⟩),.pointer (some ⟨w.heap.size,0,none⟩)]):=(SL.out.below B_X2.out SL.out.lt).cell (i:=5) rfl
 have s6:Y4.cell? ⟨w2.heap.size+1+1,6,none⟩=some (.int .i64 3):=(SL.out.below B_X2.out SL.out.lt).cell (i:=6) rfl
 have s7:Y4.cell? ⟨w2.heap.size+1+1,7,none⟩=some (.func (.func 118) #[] #[.pointer (some ⟨w.heap.size,0,none⟩),.pointer (some ⟨w.heap.size+1+1,0,none⟩),.pointer (some ⟨w2.heap.size+1,0,none⟩)]):=(SL.out.below B_X2.out SL.out.lt).cell (i:=7) rfl
 have s8:Y4.cell? ⟨w2.heap.size+1+1,8,none⟩=some (.int .i64 4):=(SL.out.below B_X2.out SL.out.lt).cell (i:=8) rfl
 have s9:Y4.cell? ⟨w2.heap.size+1+1,9,none⟩=some (.func (.func 119) #[] #[.pointer (some ⟨w.heap.size,0,none⟩),.pointer (some ⟨w.heap.size+1+1,0,none⟩),.pointer (some ⟨w2.heap.size,0,none⟩)]):=(SL.out.below B_X2.out SL.out.lt).cell (i:=9) rfl
 have ltSL:=(SL.out.below B_X2.out SL.out.lt).lt
 have x0:Y4.cell? ⟨w6.heap.size,0,none⟩=some (.int .i64 4):=XB4.out.cell (i:=0) rfl
 have x1:Y4.cell? ⟨w6.heap.size,1,none⟩=some (.func (.func 119) #[] #[.pointer (some ⟨w.heap.size,0,none⟩),.pointer (some ⟨w.heap.size+1+1,0,none⟩),.pointer (some ⟨w2.heap.size,0,none⟩)]):=XB4.out.cell (i:=1) rfl
 have ltXB4:=XB4.out.lt
 go_wp2_with fail
 refine (f5.out _ BW.out _ _ _ (TB.out.below B_X0.out TB.out.lt) (EB.out.below B_X0.out EB.out.lt) (LS.out.below B_X2.out LS.out.lt)).mono ?_
 rintro e w7 ⟨rfl,b7⟩
 replace BW:=Lib.hid (BW.out.trans (b7.mono BW.out.size))
 replace B_X0:=Lib.hid (B_X0.out.trans (b7.mono B_X0.out.size))
 replace B_X1:=Lib.hid (B_X1.out.trans (b7.mono B_X1.out.size))
 replace B_X2:=Lib.hid (B_X2.out.trans (b7.mono B_X2.out.size))
 replace B_Y0:=Lib.hid (B_Y0.out.trans (b7.mono B_Y0.out.size))
 replace B_Y1:=Lib.hid (B_Y1.out.trans (b7.mono B_Y1.out.size))
 replace B_Y2:=Lib.hid (B_Y2.out.trans (b7.mono B_Y2.out.size))
 replace B_Y3:=Lib.hid (B_Y3.out.trans (b7.mono B_Y3.out.size))
 have B_Y4:=Lib.hid b7
 clear b7
 clear s0 s1 s2 s3 s4 s5 s6 s7 s8 s9 ltSL x0 x1 ltXB4
 have s0:w7.cell? ⟨w2.heap.size+1+1,0,none⟩=some (.int .i64 1):=(SL.out.below B_X2.out SL.out.lt).cell (i:=0) rfl
 have s1:w7.cell? ⟨w2.heap.size+1+1,1,none⟩=some (.func (.func 115) #[] #[.pointer (some ⟨w.heap.size,0,none⟩),.pointer (some ⟨w.heap.size+1,0,none⟩),.pointer (some ⟨w.heap.size+1+1,0,none⟩)]):=(SL.out.below B_X2.out SL.out.lt).cell (i:=1) rfl
 have s2:w7.cell? ⟨w2.heap.size+1+1,2,none⟩=some (.int .i64 5):=(SL.out.below B_X2.out SL.out.lt).cell (i:=2) rfl
 have s3:w7.cell? ⟨w2.heap.size+1+1,3,none⟩=some (.func (.func 117) #[] #[.pointer (some ⟨w1.heap.size,0,none⟩)]):=(SL.out.below B_X2.out SL.out.lt).cell (i:=3) rfl
 have s4:w7.cell? ⟨w2.heap.size+1+1,4,none⟩=some (.int .i64 2):=(SL.out.below B_X2.out SL.out.lt).cell (i:=4) rfl
 have s5:w7.cell? ⟨w2.heap.size+1+1,5,none⟩=some (.func (.func 114) #[] #[.pointer (some ⟨w1.heap.size+1,0,none⟩),.pointer (some ⟨w.heap.size,0,none⟩)]):=(SL.out.below B_X2.out SL.out.lt).cell (i:=5) rfl
 have s6:w7.cell? ⟨w2.heap.size+1+1,6,none⟩=some (.int .i64 3):=(SL.out.below B_X2.out SL.out.lt).cell (i:=6) rfl
 have s7:w7.cell? ⟨w2.heap.size+1+1,7,none⟩=some (.func (.func 118) #[] #[.pointer (some ⟨w.heap.size,0,none⟩),.pointer (some ⟨w.heap.size+1+1,0,none⟩),.pointer (some ⟨w2.heap.size+1,0,none⟩)]):=(SL.out.below B_X2.out SL.out.lt).cell (i:=7) rfl
 have s8:w7.cell? ⟨w2.heap.size+1+1,8,none⟩=some (.int .i64 4):=(SL.out.below B_X2.out SL.out.lt).cell (i:=8) rfl
 have s9:w7.cell? ⟨w2.heap.size+1+1,9,none⟩=some (.func (.func 119) #[] #[.pointer (some ⟨w.heap.size,0,none⟩),.pointer (some ⟨w.heap.size+1+1,0,none⟩),.pointer (some ⟨w2.heap.size,0,none⟩)]):=(SL.out.below B_X2.out SL.out.lt).cell (i:=9) rfl
 have ltSL:=(SL.out.below B_X2.out SL.out.lt).lt
 have x0:w7.cell? ⟨w6.heap.size,0,none⟩=some (.int .i64 4):=(XB4.out.below B_Y4.out XB4.out.lt).cell (i:=0) rfl
 have x1:w7.cell? ⟨w6.heap.size,1,none⟩=some (.func (.func 119) #[] #[.pointer (some ⟨w.heap.size,0,none⟩),.pointer (some ⟨w.heap.size+1+1,0,none⟩),.pointer (some ⟨w2.heap.size,0,none⟩)]):=(XB4.out.below B_Y4.out XB4.out.lt).cell (i:=1) rfl
 have ltXB4:=(XB4.out.below B_Y4.out XB4.out.lt).lt
 cases be
 ·go_wp2
  go_ret
  exact⟨by simp,BW.out⟩
 go_wp2
 clear s0 s1 s2 s3 s4 s5 s6 s7 s8 s9 ltSL x0 x1 ltXB4
 clear XB4
 have s0:w7.cell? ⟨w2.heap.size+1+1,0,none⟩=some (.int .i64 1):=(SL.out.below B_X2.out SL.out.lt).cell (i:=0) rfl
 have s1:w7.cell? ⟨w2.heap.size+1+1,1,none⟩=some (.func (.func 115) #[] #[.pointer (some ⟨w.heap.size,0,none⟩),.pointer (some ⟨w.heap.size+1,0,none⟩),.pointer (some ⟨w.heap.size+1+1,0,none⟩)]):=(SL.out.below B_X2.out SL.out.lt).cell (i:=1) rfl
 have s2:w7.cell? ⟨w2.heap.size+1+1,2,none⟩=some (.int .i64 5):=(SL.out.below B_X2.out SL.out.lt).cell (i:=2) rfl
 have s3:w7.cell? ⟨w2.heap.size+1+1,3,none⟩=some (.func (.func 117) #[] #[.pointer (some ⟨w1.heap.size,0,none⟩)]):=(SL.out.below B_X2.out SL.out.lt).cell (i:=3) rfl
 have s4:w7.cell? ⟨w2.heap.size+1+1,4,none⟩=some (.int .i64 2):=(SL.out.below B_X2.out SL.out.lt).cell (i:=4) rfl
 have s5:w7.cell? ⟨w2.heap.size+1+1,5,none⟩=some (.func (.func 114) #[] #[.pointer (some ⟨w1.heap.size+1,0,none⟩),.pointer (some ⟨w.heap.size,0,none⟩)]):=(SL.out.below B_X2.out SL.out.lt).cell (i:=5) rfl
 have s6:w7.cell? ⟨w2.heap.size+1+1,6,none⟩=some (.int .i64 3):=(SL.out.below B_X2.out SL.out.lt).cell (i:=6) rfl
 have s7:w7.cell? ⟨w2.heap.size+1+1,7,none⟩=some (.func (.func 118) #[] #[.pointer (some ⟨w.heap.size,0,none⟩),.pointer (some ⟨w.heap.size+1+1,0,none⟩),.pointer (some ⟨w2.heap.size+1,0,none⟩)]):=(SL.out.below B_X2.out SL.out.lt).cell (i:=7) rfl
 have s8:w7.cell? ⟨w2.heap.size+1+1,8,none⟩=some (.int .i64 4):=(SL.out.below B_X2.out SL.out.lt).cell (i:=8) rfl
 have s9:w7.cell? ⟨w2.heap.size+1+1,9,none⟩=some (.func (.func 119) #[] #[.pointer (some ⟨w.heap.size,0,none⟩),.pointer (some ⟨w.heap.size+1+1,0,none⟩),.pointer (some ⟨w2.heap.size,0,none⟩)]):=(SL.out.below B_X2.out SL.out.lt).cell (i:=9) rfl
 have ltSL:=(SL.out.below B_X2.out SL.out.lt).lt
 rw [rounds_succ]
 go_wp2
 go_ret
 exact⟨by simp,BW.out⟩
end Go.Proofs.YtpimbaaahcemhaaGreat
namespace Go.Proofs.YtpimbaaahcemhaaGreat
open Go.RowKit
attribute [local irreducible] wpQuiet
noncomputable def kpL (m:Msn) (l:List Int):Int:=if radOkB m l=true then leadV m l else 0
noncomputable def kpK (m:Msn) (l:List Int):Int:=if radOkB m l=true then leadK m l else 0
noncomputable def kpE (m:Msn) (l:List Int):Int:=if radOkB m l=true then 0 else 1
set_option linter.unusedSimpArgs false in
set_option linter.unusedVariables false in
set_option maxRecDepth 8000 in
set_option maxHeartbeats 3200000 in
theorem tkeeps_no (m:Msn) (vw vh vr vl:Value) (l:List Int) (w:World) (hm:MsnAt w.heap.size w m vw vh vr) (hl:IntsAt w.heap.size w vl l) (hok:radOkB m l=false) :
  Calls Tryz.prog 22 #[.agg (msnCells m vw vh vr),vl] w fun e w'=>e=.returned (.tuple #[.int .i64 0,.int .i64 0,.int .i64 1])∧Below w.heap.size w w':=by
 have f1:=fun w1 (B:Below w.heap.size w w1)=>tnew_no m vw vh vr vl l w1 ((hm.below B).mono B.size) ((hl.below B).mono B.size) hok
 obtain⟨⟨-,a1,c1,rfl,-⟩,⟨-,a2,c2,rfl,-⟩,⟨-,a3,c3,rfl,-⟩⟩:=hm
 obtain⟨-,al,cl,rfl,-⟩:=hl
 unfold msnCells trip0 at *
 replace f1:=Lib.hid f1
 have BW:=Lib.hid (Below.refl w.heap.size w)
 go_enter Tryz.func22,Tryz.ntmps22
 go_wp2_with fail
 generalize hXX0:World.alloc w _=X0
 obtain⟨q0,hA,hzX0⟩:=box1 hXX0
 clear hXX0
 have BW:=Lib.hid hA
 clear hA
 have MB:=Lib.hid q0
 clear q0
 refine (f1.out _ BW.out).mono ?_
 rintro e w1 ⟨rfl,b1⟩
 replace BW:=Lib.hid (BW.out.trans (b1.mono BW.out.size))
 have B_X0:=Lib.hid b1
 clear b1
 go_upto_region 2 with fail
 generalize hXX1:World.alloc w1 _=X1
 obtain⟨-,hA,hzX1⟩:=box1 hXX1
 clear hXX1
 replace BW:=Lib.hid (BW.out.trans (hA.mono BW.out.size))
 replace B_X0:=Lib.hid (B_X0.out.trans (hA.mono B_X0.out.size))
 clear hA
 go_wp2
 go_ret3
 exact⟨rfl,BW.out⟩
theorem trip_cells {W:World} {B:Nat} {m:Msn} {vw vh vr vb va vt ve:Value} {T:TypeId} (H:Has W B (tripCells m vw vh vr vb va vt ve) T):W.cell? ⟨B,0,none⟩=some (vw)∧W.cell? ⟨B,1,none⟩=some (vh)∧W.cell? ⟨B,2,none⟩=some (.int .i64 m.start)∧W.cell? ⟨B,3,none⟩=some (vr)∧W.cell? ⟨B,4,none⟩=some (.int .i64 m.speed)∧W.cell? ⟨B,5,none⟩=some (.int .i64 m.part)∧W.cell? ⟨B,6,none⟩=some (.int .i64 m.flow)∧W.cell? ⟨B,7,none⟩=some (.int .i64 m.idle)∧W.cell? ⟨B,8,none⟩=some (.int .i64 m.drive)∧W.cell? ⟨B,9,none⟩=some (.int .i64 m.battery)∧W.cell? ⟨B,10,none⟩=some (.int .i64 m.deadline)∧W.cell? ⟨B,11,none⟩=some (vb)∧W.cell? ⟨B,12,none⟩=some (va)∧W.cell? ⟨B,13,none⟩=some (vt)∧W.cell? ⟨B,14,none⟩=some (ve) :=
 ⟨H.cell (i:=0) rfl,H.cell (i:=1) rfl,H.cell (i:=2) rfl,H.cell (i:=3) rfl,H.cell (i:=4) rfl,H.cell (i:=5) rfl,H.cell (i:=6) rfl,H.cell (i:=7) rfl,H.cell (i:=8) rfl,H.cell (i:=9) rfl,H.cell (i:=10) rfl,H.cell (i:=11) rfl,H.cell (i:=12) rfl,H.cell (i:=13) rfl,H.cell (i:=14) rfl⟩
set_option linter.unusedSimpArgs false in
set_option linter.unusedVariables false in
set_option maxRecDepth 8000 in
set_option maxHeartbeats 3200000 in
theorem tkeeps_yes (m : Msn) (vw vh vr vl : Value) (l : List Int) (w : World) (hm : MsnAt w.heap.size w m vw vh vr) (hl : IntsAt w.heap.size w vl l) (hok : radOkB m l = true) :
  Calls Tryz.prog 22 #[.agg (msnCells m vw vh vr),vl] w fun e w'=>e=.returned (.tuple #[.int .i64 (leadV m l),.int .i64 (leadK m l),.int .i64 0])∧Below w.heap.size w w':=by
 have hvs:validB m=true∧stopsB m l=true:=by simpa [radOkB] using hok
 have V:=(validB_iff m).1 hvs.1
 have n41:=V.n41
 have n2:=V.n2
 have f1:=fun w1 (B:Below w.heap.size w w1)=>tnew_yes m vw vh vr vl l w1 ((hm.below B).mono B.size) ((hl.below B).mono B.size) hok
 have hmm:=fun w1 (B:Below w.heap.size w w1)=>(hm.below B).mono B.size
 have f2:=fun vb va vt ve w1 (T:TripAt w1.heap.size w1 m l vw vh vr vb va vt ve) k hk=>tkind_any m l vw vh vr vb va vt ve w1 T V k hk
 obtain⟨⟨-,a1,c1,rfl,-⟩,⟨-,a2,c2,rfl,-⟩,⟨-,a3,c3,rfl,-⟩⟩:=hm
 obtain⟨-,al,cl,rfl,-⟩:=hl
 have hfin:=fun n h1 h2 h3=>lead_iff (m:=m) (l:=l) (n:=n) h1 h2 h3
 have hkb:=fun k=>(kind_bd m l k).1
 unfold msnCells tripCells at *
 replace f1:=Lib.hid f1
 replace f2:=Lib.hid f2
 replace hmm:=Lib.hid hmm
 replace hfin:=Lib.hid hfin
 replace hkb:=Lib.hid hkb
 clear hok hvs V
 have BW:=Lib.hid (Below.refl w.heap.size w)
 go_enter Tryz.func22,Tryz.ntmps22
 go_wp2_with fail
 generalize hXX0:World.alloc w _=X0
 obtain⟨q0,hA,hzX0⟩:=box1 hXX0
 clear hXX0
 have BW:=Lib.hid hA
 clear hA
 have MB:=Lib.hid q0
 clear q0
 refine (f1.out _ BW.out).mono ?_
 rintro e w1 ⟨vb,va,vt,ve,rfl,⟨t1,t2,t3,t4⟩,b1⟩
 replace BW:=Lib.hid (BW.out.trans (b1.mono BW.out.size))
 have B_X0:=Lib.hid b1
 clear b1
 have TT:=Lib.hid (show TripAt w1.heap.size w1 m l _ _ _ vb va vt ve from⟨hmm.out _ BW.out,t1,t2,t3,t4⟩)
 obtain⟨-,ab,cb,rfl,-⟩:=t1
 obtain⟨-,aa,ca,rfl,-⟩:=t2
 obtain⟨-,at',ct,rfl,-⟩:=t3
 obtain⟨-,ae,ce,rfl,-⟩:=t4
 go_upto_region 2 with fail
 generalize hXX1:World.alloc w1 _=X1
 obtain⟨q0,hA,hzX1⟩:=box1 hXX1
 clear hXX1
 replace BW:=Lib.hid (BW.out.trans (hA.mono BW.out.size))
 replace B_X0:=Lib.hid (B_X0.out.trans (hA.mono B_X0.out.size))
 have B_w1:=Lib.hid hA
 clear hA
 have TB:=Lib.hid q0
 clear q0
 replace TT:=Lib.hid (TT.out.up B_w1.out)
 have x0:=TB.out.cell (i:=0) rfl
 have y0:=(MB.out.below B_X0.out MB.out.lt).cell (i:=0) rfl
 have jw:IntKind.i64.wrap ((m.ways.length:Int) - 1)=((m.ways.length - 1:Nat):Int):=by rw [show ((m.ways.length:Int) - 1)=((m.ways.length - 1:Nat):Int) by omega];exact IntWalk.i64_in _ (by omega)
 have MBX:=Lib.hid (MB.out.below B_X0.out MB.out.lt)
 obtain⟨N,hN⟩:∃ N,m.ways.length - 1=N:=⟨_,rfl⟩
 rw [hN] at jw
 go_wp2
 clear x0 y0
 go_loopw [23] (fun i wr=>∃ j:Nat,j≤N∧i=.int .i64 j∧(∀ j',j'<j→kindV m l j'=0)∧Below X1.heap.size X1 wr) (fun i _=>N - (intOf i).toNat)
 case atStart=>exact⟨0,Nat.zero_le _,rfl,fun j h=>by omega,Below.refl _ _⟩
 case round =>
  obtain⟨j,hj,rfl,hall,hB⟩:=hrel
  obtain⟨wo,hwo⟩:∃ x,x=wr:=⟨_,rfl⟩
  subst hwo
  have BO:=Lib.hid (And.intro hB (BW.out.trans (hB.mono BW.out.size)))
  have HA:=Lib.hid hall
  clear hall
  by_cases hjn:j<N
  ·have g2:=Lib.hid (f2.out _ _ _ _ wo (TT.out.up hB) j (by omega))
   have TBO:=TB.out.below hB TB.out.lt
   obtain⟨x0,x1,x2,x3,x4,x5,x6,x7,x8,x9,x10,x11,x12,x13,x14⟩:=trip_cells (m:=m) TBO
   have hjl:(j:Int)<(N:Int):=by omega
   have kb:=hkb.out j
   obtain⟨kv,hkv⟩:∃ x,kindV m l j=x:=⟨_,rfl⟩
   rw [hkv] at kb
   simp only [hkv] at g2
   have HK:=Lib.hid hkv
   clear hkv hB TBO
   go_wp2_with fail
   refine g2.out.mono ?_
   rintro e w4 ⟨rfl,b4⟩
   have B4:=Lib.hid (And.intro (BO.out.1.trans (b4.mono BO.out.1.size)) (BO.out.2.trans (b4.mono BO.out.2.size)))
   clear b4 x0 x1 x2 x3 x4 x5 x6 x7 x8 x9 x10 x11 x12 x13 x14
   by_cases hz:kv=0
   ·subst hz
    go_wp2
    go_roundw
    case rel=>exact⟨j+1,by omega,by go_num,fun j' hj'=>by
     rcases Nat.lt_succ_iff_lt_or_eq.1 hj' with h | h
     ·exact HA.out j' h
     ·rw [h];exact HK.out,B4.out.1⟩
    case measure=>simp [intOf];omega
   ·have d1:decide (kv>0)=true:=by rw [decide_eq_true_eq];omega
    have hle:=Lib.hid (hfin.out j (by omega) HA.out (fun _=>by rw [HK.out];exact hz))
    clear hz
    go_wp2
    go_ret3
    refine⟨?_,B4.out.2⟩
    have e1:=hle.out
    rw [show leadV m l=(j:Int) by rw [leadV,e1],show leadK m l=kv by rw [leadK,e1,if_pos (by omega),HK.out]]
    rfl
  ·obtain rfl:j=N:=by omega
   have y0:=(MBX.out.below hB MBX.out.lt).cell (i:=0) rfl
   have hle:=Lib.hid (hfin.out j (by omega) HA.out (fun h=>by omega))
   clear hB
   go_wp2
   go_ret3
   refine⟨?_,BO.out.2⟩
   have e1:=hle.out
   rw [show leadV m l=(j:Int) by rw [leadV,e1],show leadK m l=0 by rw [leadK,e1,if_neg (by omega)]]
   rfl
theorem tkeeps_any (m:Msn) (vw vh vr vl:Value) (l:List Int) (w:World) (hm:MsnAt w.heap.size w m vw vh vr) (hl:IntsAt w.heap.size w vl l) :
  Calls Tryz.prog 22 #[.agg (msnCells m vw vh vr),vl] w fun e w'=>e=.returned (.tuple #[.int .i64 (kpL m l),.int .i64 (kpK m l),.int .i64 (kpE m l)])∧Below w.heap.size w w':=by
 cases h:radOkB m l
 ·simp only [kpL,kpK,kpE,h,Bool.false_eq_true,if_false]
  exact tkeeps_no m vw vh vr vl l w hm hl h
 ·simp only [kpL,kpK,kpE,h,if_true]
  exact tkeeps_yes m vw vh vr vl l w hm hl h
end Go.Proofs.YtpimbaaahcemhaaGreat
namespace Go.Proofs.YtpimbaaahcemhaaGreat
open Go.RowKit
theorem Boxed.store {W:World} {B:Nat} {t:TypeId} {v:Value} (h:Boxed W B t v):W.setCell ⟨B,0,none⟩ v=W:=by
 have hlt:=h.lt
 have hv:W.heap[B]=.cells #[v] t (0,0):=(Array.getElem?_eq_some_iff.1 h).2
 unfold World.setCell
 cases W with
 | mk heap tape drawn os output =>
  congr 1
  apply Array.ext
  ·simp
  ·intro k h1 h2
   simp only [Array.getElem_modify]
   split
   ·rename_i hk;subst hk;simp at hv;simp [hv]
   ·rfl
structure FarI (BL BS BE:Nat) (w w2:World) (st:Int × List Int) (ds:List Nat) (v:Value) (W:World):Prop where
 leg:Boxed W BL 3 (.int .i64 st.1)
 sto:Boxed W BS 27 v
 err:Boxed W BE 34 (.int .i64 0)
 val:IntsAt W.heap.size W v st.2
 low:Below w.heap.size w W
 kee:KeepsP (fun b=>b<w2.heap.size∧b≠BL∧b≠BS∧b≠BE) w2 W
 mar:∀ D,D ∈ ds→w2.heap.size≤D∧W.heap[D]?=some (.deferred (some []))
 nod:ds.Nodup
 new:∀ r,v.ownBlock=some r→w2.heap.size≤r∧r<W.heap.size
structure FarB (BL BS BE:Nat) (w w2:World):Prop where
 l:BL<w2.heap.size∧w.heap.size≤BL
 s:BS<w2.heap.size∧w.heap.size≤BS
 e:BE<w2.heap.size∧w.heap.size≤BE
 ls:BL≠BS
 le:BL≠BE
 se:BS≠BE
 w:w.heap.size≤w2.heap.size
section
variable {BL BS BE:Nat} {w w2:World} {st:Int × List Int} {ds:List Nat} {v:Value} {W X:World}
theorem IntsAt.offG {l : List Int} {row : Option Nat} (h : IntsAt W.heap.size W v l) (hg : W.grownBy X row) (hne : ∀ r, row = some r → l = [] ∨ v.ownBlock ≠ some r) : IntsAt X.heap.size X v l := by
 obtain⟨hl,a,cap,e,hc⟩:=h
 refine⟨hl,a,cap,e,?_⟩
 rcases hc with hc | ⟨b,o,e1,hb,hc⟩
 ·exact .inl hc
 ·by_cases hl0:l=[]
  ·exact .inl hl0
  ·refine .inr ⟨b,o,e1,Nat.lt_of_lt_of_le hb hg.size,fun j hj=>?_⟩
   have hbn:some b≠row:=fun er=>by
    rcases hne b er.symm with h | h
    ·exact hl0 h
    ·exact h (by rw [e,e1];rfl)
   exact (World.cell?_of_block (hg.block b hb hbn)).trans (hc j hj)
theorem FarI.off (hB:FarB BL BS BE w w2) (h:FarI BL BS BE w w2 st ds v W) {row:Option Nat} (hg:W.grownBy X row) (hne:∀ r,row=some r→w2.heap.size≤r∧r ∉ ds∧(st.2=[]∨v.ownBlock≠some r)):FarI BL BS BE w w2 st ds v X:=by
 have hlt:∀ b,b<w2.heap.size→some b≠row:=fun b hb e=>by have:=(hne b e.symm).1;omega
 have hk:=h.kee.1
 refine⟨h.leg.kept hg (hlt _ hB.l.1),h.sto.kept hg (hlt _ hB.s.1),h.err.kept hg (hlt _ hB.e.1),h.val.offG hg (fun r e=>(hne r e).2.2),h.low.grown hg (by have:=hB.w;omega) (fun k e=>by have:=(hne k e).1;have:=hB.w;omega),⟨Nat.le_trans hk hg.size,fun b hb=>(hg.block b (by omega) (hlt b hb.1)).trans (h.kee.2 b hb)⟩,fun D hD=>⟨(h.mar D hD).1,?_⟩,h.nod,fun r e=>⟨(h.new r e).1,Nat.lt_of_lt_of_le (h.new r e).2 hg.size⟩⟩
 have m:=(h.mar D hD).2
 exact (hg.block D (Array.getElem?_eq_some_iff.1 m).1 (fun e=>(hne D e.symm).2.1 hD)).trans m
theorem FarI.below (hB:FarB BL BS BE w w2) (h:FarI BL BS BE w w2 st ds v W) (k:Below W.heap.size W X):FarI BL BS BE w w2 st ds v X :=
 h.off hB (row:=none) ⟨k.os,k.tape,k.output,k.size,fun b hb _=>k.block b hb⟩ (fun r e=>by cases e)
theorem FarI.keeps (hB:FarB BL BS BE w w2) (h:FarI BL BS BE w w2 st ds v W) (hz:W.heap.size≤X.heap.size) (hk:∀ b,b<W.heap.size→b≠BL→b≠BS→b≠BE→X.heap[b]?=W.heap[b]?) (B B2:Nat) (hB2:w2.heap.size≤B2) (q:Nat→Prop) (hq:∀ b,q b→b<W.heap.size∧b≠BL∧b≠BS∧b≠BE):KeepsFrom B W X∧chK q B2 W X:=by
 obtain⟨hl,hs,he,-⟩:=hB
 refine⟨⟨hz,fun k o _ hko ho=>?_⟩,hz,fun b hb=>?_⟩
 ·have hlt:=(Array.getElem?_eq_some_iff.1 hko).1
  have n1:k≠BL:=fun e=>by subst e;rw [show W.heap[k]?=_ from h.leg] at hko;cases hko;cases ho
  have n2:k≠BS:=fun e=>by subst e;rw [show W.heap[k]?=_ from h.sto] at hko;cases hko;cases ho
  have n3:k≠BE:=fun e=>by subst e;rw [show W.heap[k]?=_ from h.err] at hko;cases hko;cases ho
  exact (hk k hlt n1 n2 n3).trans hko
 ·rcases hb with hb | hb
  ·have:=hq b hb;exact hk b this.1 this.2.1 this.2.2.1 this.2.2.2
  ·exact hk b hb.2 (by omega) (by omega) (by omega)
theorem FarI.own (hB : FarB BL BS BE w w2) {B : Nat} (hBz : w2.heap.size ≤ B) (F : List (Value × List Int) → Int × List Int) (hds : ∀ D ∈ ds, D < B) (p : List (Value × List Int) → Prop) :
  OwnD chOwn B (fun s W=>p s∧∃ v,FarI BL BS BE w w2 (F s) ds v W∧∀ r,v.ownBlock=some r→r<B∨∃ x,x ∈ s∧x.1.ownBlock=some r):=by
 rintro s W X row ⟨hp,v,h,hv⟩ hg hr
 refine⟨hp,v,h.off hB hg fun r e=>?_,hv⟩
 obtain⟨o,ho,hc⟩:=hr r e
 have hge:B≤r:=by
  rcases hc with⟨_,hc⟩ | ⟨_,hc⟩
  ·have:=hc.1;omega
  ·exact hc
 refine⟨by omega,fun hD=>by have:=hds r hD;omega,?_⟩
 by_cases hl:(F s).2=[]
 ·exact .inl hl
 ·refine .inr fun ev=>?_
  rcases hv r ev with h1 | ⟨x,hx,h1⟩
  ·omega
  ·rcases hc with⟨_,hc⟩ | ⟨hc,_⟩
   ·exact hc.2 x hx h1
   ·obtain⟨_,a,cap,e1,hcells⟩:=h.val
    obtain⟨b,o',e2,hb,hcc⟩:=hcells.resolve_left hl
    have hbr:b=r:=by rw [e1,e2] at ev;simpa [Value.ownBlock] using ev
    have h0:0<(F s).2.length:=List.length_pos_iff.2 hl
    obtain⟨o2,ho2,hoc⟩:=cells_of_cell (hcc 0 h0)
    rw [show (⟨b,o'+0,none⟩:Addr).block=r from hbr,ho] at ho2
    cases ho2
    rw [hc] at hoc
    cases hoc
theorem FarI.leave {F:Fence} {n:Nat} {P:Program} {fn:Func} {tmps:Array Value} {R:Ending→World→Prop} (hB:FarB BL BS BE w w2):∀ (ds:List Nat) (W:World),FarI BL BS BE w w2 st ds v W→(∀ W',FarI BL BS BE w w2 st [] v W'→LeavesIn F n P fn tmps R [] .returning W') →
  LeavesInM F n P fn tmps R (ds.map fun D=>{ target:=.collected D,args:=#[] }) .returning W
 | [],W,h,hl=>hl W h
 | D :: ds, W, h, hl => by
  have m:=h.mar D (by simp)
  have nd:=List.nodup_cons.1 h.nod
  refine⟨by simp,.inl ⟨D,_,rfl,run_takeDeferred m.2,?_⟩⟩
  refine FarI.leave hB ds _ ?_ hl
  have h1:FarI BL BS BE w w2 st ds v W:=⟨h.leg,h.sto,h.err,h.val,h.low,h.kee,fun E hE=>h.mar E (by simp [hE]),nd.2,h.new⟩
  refine h1.off hB (grownBy_putObj' W D _) fun r e=>?_
  cases e
  refine⟨m.1,nd.1,?_⟩
  by_cases hl:st.2=[]
  ·exact .inl hl
  ·refine .inr fun ev=>?_
   obtain⟨_,a,cap,e1,hcells⟩:=h.val
   obtain⟨b,o',e2,hb,hcc⟩:=hcells.resolve_left hl
   have hbr:b=D:=by rw [e1,e2] at ev;simpa [Value.ownBlock] using ev
   have h0:0<st.2.length:=List.length_pos_iff.2 hl
   obtain⟨o2,ho2,hoc⟩:=cells_of_cell (hcc 0 h0)
   rw [show (⟨b,o'+0,none⟩:Addr).block=D from hbr,m.2] at ho2
   cases ho2
   cases hoc
end
end Go.Proofs.YtpimbaaahcemhaaGreat
namespace Go.Proofs.YtpimbaaahcemhaaGreat
section
variable (m:Msn) (R:List (List Pt)) (b d:Int)
end
section
variable {m:Msn} {R:List (List Pt)} {b d:Int}
def Fewer (R ls:List (List Pt)):Prop:=R.length≤ls.length∧∀ j,j<R.length→∃ i,i<ls.length∧rk R j=rk ls i
theorem Fewer.ok {ls:List (List Pt)} (h:Fewer R ls) (hv:rocksB ls=true):rocksB R=true:=by
 refine decide_eq_true fun j hj=>?_
 obtain⟨i,hi,e⟩:=h.2 j hj
 rw [e]
 exact of_decide_eq_true hv i hi
variable (hF:Fewer R m.rocks) (V:VMsn m)
include hF V
omit hF V in
end
end Go.Proofs.YtpimbaaahcemhaaGreat
namespace Go.Proofs.YtpimbaaahcemhaaGreat
open Go.RowKit
attribute [local irreducible] wpQuiet
instance (l:List Pt) (s t:Pt):Decidable (Nx l s t):=by unfold Nx;infer_instance
def hullB (l h:List Pt):Bool:=decide (l≠[]∧1≤h.length∧(nth h 0 ∈ l∧∀ x,x ∈ l→¬ LexLt x (nth h 0))∧(∀ i,i<h.length→Nx l (nth h i) (nth h ((i+1) % h.length)))∧(∀ i,i<h.length→0<i→nth h i≠nth h 0))
theorem hullB_of {l h:List Pt} (k:hullB l h=true):hullP l=h:=by
 simp only [hullB,decide_eq_true_eq] at k
 obtain⟨h1,h2,h3,h4,h5⟩:=k
 exact (hullP_eq ⟨fun e=>absurd e h1,fun _=>h2,fun _=>h3,h4,fun i h0 hi=>h5 i hi h0⟩).symm
theorem rdist_of {ax ay bx by' n : Int} (h0 : 0 ≤ n) (h : (ax - bx) * (ax - bx) + (ay - by') * (ay - by') ≤ n * n) (h2 : (n - 1) * (n - 1) < (ax - bx) * (ax - bx) + (ay - by') * (ay - by')) : distV ax ay bx by' = n := by
 unfold distV
 generalize (ax - bx)*(ax - bx)+(ay - by')*(ay - by')=s at *
 have hs:=rootUp_spec (s:=s) (by
  have:0≤(n - 1)*(n - 1):=by
   rcases Int.le_total 0 (n - 1) with h | h
   ·exact Int.mul_nonneg h h
   ·have:=Int.mul_nonneg (show 0≤-(n - 1) by omega) (show 0≤-(n - 1) by omega)
    rwa [Int.neg_mul_neg] at this
  omega)
 have h1:=hs.2.2 n h0 h
 rcases Int.lt_or_le (rootUp s) n with h3 | h3
 ·have h4:=Int.mul_le_mul (show rootUp s≤n - 1 by omega) (show rootUp s≤n - 1 by omega) hs.1 (by omega)
  have:=hs.2.1
  omega
 ·omega
end Go.Proofs.YtpimbaaahcemhaaGreat
namespace Go.Proofs.YtpimbaaahcemhaaGreat
set_option maxRecDepth 100000 in
theorem disk_10:diskP 10=[⟨-10,-5⟩,⟨-5,-10⟩,⟨5,-10⟩,⟨10,-5⟩,⟨10,5⟩,⟨5,10⟩,⟨-5,10⟩,⟨-10,5⟩]:=hullB_of (by decide +kernel)
end Go.Proofs.YtpimbaaahcemhaaGreat
namespace Go.Proofs.YtpimbaaahcemhaaGreat
open Go.RowKit
attribute [local irreducible] wpQuiet
theorem set11 {X Z:World} {B:Nat} {cs:Array Value} {T:TypeId} {v0 v1 v2 v3 v4 v5 v6 v7 v8 v9 v10:Value} (H:Has X B cs T) (hs:cs.size=11) (hz:(((((((((((X.setCell ⟨B,0,none⟩ v0).setCell ⟨B,1,none⟩ v1).setCell ⟨B,2,none⟩ v2).setCell ⟨B,3,none⟩ v3).setCell ⟨B,4,none⟩ v4).setCell ⟨B,5,none⟩ v5).setCell ⟨B,6,none⟩ v6).setCell ⟨B,7,none⟩ v7).setCell ⟨B,8,none⟩ v8).setCell ⟨B,9,none⟩ v9).setCell ⟨B,10,none⟩ v10)=Z) :
  Has Z B #[v0,v1,v2,v3,v4,v5,v6,v7,v8,v9,v10] T∧(∀ n,n≤B→Below n X Z)∧Z.heap.size=X.heap.size∧∀ b,b≠B→Z.heap[b]?=X.heap[b]?:=by
 subst hz
 obtain⟨l,rfl⟩:∃ l:List Value,cs=l.toArray:=⟨cs.toList,by simp⟩
 obtain⟨u0,u1,u2,u3,u4,u5,u6,u7,u8,u9,u10,rfl⟩:∃ u0 u1 u2 u3 u4 u5 u6 u7 u8 u9 u10,l=[u0,u1,u2,u3,u4,u5,u6,u7,u8,u9,u10]:=by
  match l,hs with
  | [u0,u1,u2,u3,u4,u5,u6,u7,u8,u9,u10],_=>exact⟨_,_,_,_,_,_,_,_,_,_,_,rfl⟩
 refine⟨?_,fun n hn=>?_,by simp,fun b hb=>?_⟩
 ·have:=(((((((((((H.set 0 v0).set 1 v1).set 2 v2).set 3 v3).set 4 v4).set 5 v5).set 6 v6).set 7 v7).set 8 v8).set 9 v9).set 10 v10)
  simpa only [List.setIfInBounds_toArray,List.set_cons_zero,List.set_cons_succ] using this
 ·exact ((((((((((((Below.refl n X).setCell (p:=⟨B,0,none⟩) hn v0).setCell (p:=⟨B,1,none⟩) hn v1).setCell (p:=⟨B,2,none⟩) hn v2).setCell (p:=⟨B,3,none⟩) hn v3).setCell (p:=⟨B,4,none⟩) hn v4).setCell (p:=⟨B,5,none⟩) hn v5).setCell (p:=⟨B,6,none⟩) hn v6).setCell (p:=⟨B,7,none⟩) hn v7).setCell (p:=⟨B,8,none⟩) hn v8).setCell (p:=⟨B,9,none⟩) hn v9).setCell (p:=⟨B,10,none⟩) hn v10)
 ·iterate 11 (rw [Below.heap_setCell _ _ _ _ (by exact hb)])
end Go.Proofs.YtpimbaaahcemhaaGreat
