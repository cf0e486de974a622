/- The walk of the law: There is a certificate exactly if all legs are kept, and it is right; otherwise the error is the one for the kind of the first .. -/
import Derived.Test.YtpimbaaahcemhaaGreatBin36
import Derived.Test.YtpimbaaahcemhaaGreatBin29
import Derived.Test.YtpimbaaahcemhaaGreatBin35
import Derived.Test.YtpimbaaahcemhaaGreatBin34
import Derived.Test.YtpimbaaahcemhaaGreatBin32
import Derived.Test.YtpimbaaahcemhaaGreatBin37
namespace Go.Proofs.YtpimbaaahcemhaaGreat.certPlans
open Go.RowKit
attribute [local irreducible] wpQuiet
set_option linter.unusedSimpArgs false in
set_option linter.unusedVariables false in
set_option maxRecDepth 8000 in
set_option maxHeartbeats 6400000 in
theorem walk (w:World) (m:Msn) (vw vh vr:Value) (vl:Value) (l:List Int) (hm:MsnAt w.heap.size w m vw vh vr) (hl:IntsAt w.heap.size w vl l) :
  Calls Tryz.prog 6 #[.agg (msnCells m vw vh vr),vl] w fun e w'=>e=.returned (.bool true)∧Below w.heap.size w w':=by
 have hd:=Lib.hid (fun w1=>head36_any w1)
 have fu:=fun w1 (B:Below w.heap.size w w1)=>usable36_any m vw vh vr vl l w1 ((hm.below B).mono B.size) ((hl.below B).mono B.size)
 have fm:=fun w1 (B:Below w.heap.size w w1) h=>make_any m vw vh vr vl l w1 ((hm.below B).mono B.size) ((hl.below B).mono B.size) h
 have fp:=fun w1 (B:Below w.heap.size w w1)=>tkeeps_any m vw vh vr vl l w1 ((hm.below B).mono B.size) ((hl.below B).mono B.size)
 have fk:=fun u1 u2 u3 w1 (B:Below w.heap.size w w1) (h:CrtAt w1.heap.size w1 (mkC m l) u1 u2 u3)=>check_any m vw vh vr (mkC m l) u1 u2 u3 w1 ((hm.below B).mono B.size) h
 have HR:=fun h=>mk_right (m:=m) (l:=l) h
 have HP:=fun h=>plans_law (m:=m) (l:=l) h
 have HC:mkC m l=if mkE m l=0 then ⟨l,upto (mkP m l) (m.ways.length - 1),upto (mkR m) (m.ways.length - 1)⟩ else ⟨[],[],[]⟩:=rfl
 have HI:=kpk_in m l
 have HE:∀ h:radOkB m l=true,kpE m l=0:=fun h=>if_pos h
 obtain⟨⟨-,a1,cap1,rfl,-⟩,⟨-,a2,cap2,rfl,-⟩,⟨-,a3,cap3,rfl,-⟩⟩:=hm
 obtain⟨-,al,capl,rfl,-⟩:=hl
 unfold msnCells at *
 generalize mkE m l=me at *
 generalize mkC m l=c at *
 generalize kpK m l=kk at *
 generalize kpL m l=kl at *
 generalize kpE m l=kp at *
 replace fu:=Lib.hid fu
 replace fm:=Lib.hid fm
 replace fp:=Lib.hid fp
 replace fk:=Lib.hid fk
 replace HR:=Lib.hid HR
 replace HP:=Lib.hid HP
 replace HC:=Lib.hid HC
 replace HI:=Lib.hid HI
 replace HE:=Lib.hid HE
 have BW:=Lib.hid (Below.refl w.heap.size w)
 go_enter Tryz.func6,Tryz.ntmps6
 go_wp2_with fail
 generalize hXX0:World.alloc w _=X0
 obtain⟨q0,hA,hzX0⟩:=box1 hXX0
 clear hXX0
 have BW:=Lib.hid hA
 clear hA
 have MB:=Lib.hid q0
 clear q0
 clear hzX0
 obtain⟨c0,c1,c2,c3,c4,c5,c6,c7,c8,c9,c10⟩:=msn_cells (m:=m) MB.out
 have ltMB:=MB.out.lt
 refine (hd.out X0).mono ?_
 rintro e w1 ⟨rfl,b1⟩
 replace BW:=Lib.hid (BW.out.trans (b1.mono BW.out.size))
 have B_X0:=Lib.hid b1
 clear b1
 clear c0 c1 c2 c3 c4 c5 c6 c7 c8 c9 c10 ltMB
 obtain⟨c0,c1,c2,c3,c4,c5,c6,c7,c8,c9,c10⟩:=msn_cells (m:=m) (MB.out.below B_X0.out MB.out.lt)
 have ltMB:=(MB.out.below B_X0.out MB.out.lt).lt
 go_wp2_with fail
 refine (fu.out _ BW.out).mono ?_
 rintro e w2 ⟨rfl,b2⟩
 replace BW:=Lib.hid (BW.out.trans (b2.mono BW.out.size))
 replace B_X0:=Lib.hid (B_X0.out.trans (b2.mono B_X0.out.size))
 clear b2
 clear c0 c1 c2 c3 c4 c5 c6 c7 c8 c9 c10 ltMB
 obtain⟨c0,c1,c2,c3,c4,c5,c6,c7,c8,c9,c10⟩:=msn_cells (m:=m) (MB.out.below B_X0.out MB.out.lt)
 have ltMB:=(MB.out.below B_X0.out MB.out.lt).lt
 cases hU:usB m l
 ·skip
  go_wp2
  go_ret
  exact⟨rfl,BW.out⟩
 unfold usB at hU
 simp only [Bool.and_eq_true,decide_eq_true_eq] at hU
 obtain⟨-,h40,hV,hS⟩:=hU
 have hr:radOkB m l=true:=by unfold radOkB;rw [hV,hS];rfl
 obtain rfl:=HE.out hr
 have hme:=HP.out hr
 clear hV hS hr HE HP
 go_wp2_with fail
 refine (fm.out _ BW.out (by omega)).mono ?_
 rintro e w3 ⟨vs,vp,ve,rfl,p9,b3⟩
 replace BW:=Lib.hid (BW.out.trans (b3.mono BW.out.size))
 replace B_X0:=Lib.hid (B_X0.out.trans (b3.mono B_X0.out.size))
 clear b3
 have PC:=Lib.hid p9
 clear p9
 clear c0 c1 c2 c3 c4 c5 c6 c7 c8 c9 c10 ltMB
 obtain⟨c0,c1,c2,c3,c4,c5,c6,c7,c8,c9,c10⟩:=msn_cells (m:=m) (MB.out.below B_X0.out MB.out.lt)
 have ltMB:=(MB.out.below B_X0.out MB.out.lt).lt
 by_cases hz:me=0
 ·skip
  subst hz
  obtain⟨r1,r2⟩:=HR.out rfl
  have hk0:kk=0:=by
   rcases HI.out with h | h | h | h | h | h
   ·exact h
   all_goals (rw [h] at hme;exact absurd hme (by decide))
  subst hk0
  have fk2:=fk.out
  rw [r1,r2] at fk2
  replace fk2:=Lib.hid fk2
  obtain⟨⟨-,aS,cS,e1,-⟩,⟨-,ap,cp,e2,-⟩,⟨-,ar,cr,e3,-⟩⟩:=PC.out
  subst e1 e2 e3
  clear fk HR HC HI hme r1 r2 h40
  go_upto_region 5 with fail
  generalize hXX2:World.alloc w3 _=X2
  obtain⟨q0,hA,hzX2⟩:=box1 hXX2
  clear hXX2
  replace BW:=Lib.hid (BW.out.trans (hA.mono BW.out.size))
  replace B_X0:=Lib.hid (B_X0.out.trans (hA.mono B_X0.out.size))
  have B_w3:=Lib.hid hA
  clear hA
  have CB:=Lib.hid q0
  clear q0
  clear hzX2
  clear c0 c1 c2 c3 c4 c5 c6 c7 c8 c9 c10 ltMB
  obtain⟨c0,c1,c2,c3,c4,c5,c6,c7,c8,c9,c10⟩:=msn_cells (m:=m) (MB.out.below B_X0.out MB.out.lt)
  have ltMB:=(MB.out.below B_X0.out MB.out.lt).lt
  have hk:=CB.out
  have k0':=hk.cell (i:=0) rfl
  have k1':=hk.cell (i:=1) rfl
  have k2':=hk.cell (i:=2) rfl
  go_wp2_with fail
  refine (fp.out _ BW.out).mono ?_
  rintro e w4 ⟨rfl,b4⟩
  replace BW:=Lib.hid (BW.out.trans (b4.mono BW.out.size))
  replace B_X0:=Lib.hid (B_X0.out.trans (b4.mono B_X0.out.size))
  replace B_w3:=Lib.hid (B_w3.out.trans (b4.mono B_w3.out.size))
  have B_X2:=Lib.hid b4
  clear b4
  clear c0 c1 c2 c3 c4 c5 c6 c7 c8 c9 c10 ltMB hk k0' k1' k2'
  obtain⟨c0,c1,c2,c3,c4,c5,c6,c7,c8,c9,c10⟩:=msn_cells (m:=m) (MB.out.below B_X0.out MB.out.lt)
  have ltMB:=(MB.out.below B_X0.out MB.out.lt).lt
  have hk:=(CB.out.below B_X2.out CB.out.lt)
  have k0':=hk.cell (i:=0) rfl
  have k1':=hk.cell (i:=1) rfl
  have k2':=hk.cell (i:=2) rfl
  go_wp2_with fail
  refine (fk2.out _ _ _ _ BW.out ((PC.out.below B_w3.out).mono B_w3.out.size)).mono ?_
  rintro e w5 ⟨rfl,b5⟩
  replace BW:=Lib.hid (BW.out.trans (b5.mono BW.out.size))
  replace B_X0:=Lib.hid (B_X0.out.trans (b5.mono B_X0.out.size))
  replace B_w3:=Lib.hid (B_w3.out.trans (b5.mono B_w3.out.size))
  replace B_X2:=Lib.hid (B_X2.out.trans (b5.mono B_X2.out.size))
  clear b5
  clear c0 c1 c2 c3 c4 c5 c6 c7 c8 c9 c10 ltMB hk k0' k1' k2'
  obtain⟨c0,c1,c2,c3,c4,c5,c6,c7,c8,c9,c10⟩:=msn_cells (m:=m) (MB.out.below B_X0.out MB.out.lt)
  have ltMB:=(MB.out.below B_X0.out MB.out.lt).lt
  have hk:=(CB.out.below B_X2.out CB.out.lt)
  have k0':=hk.cell (i:=0) rfl
  have k1':=hk.cell (i:=1) rfl
  have k2':=hk.cell (i:=2) rfl
  go_wp2
  go_ret
  exact⟨rfl,BW.out⟩
 have hk5:kk=1∨kk=2∨kk=3∨kk=4∨kk=5:=by
  rcases HI.out with h | h
  ·rw [h] at hme;exact absurd hme hz
  ·exact h
 have hc:c=⟨[],[],[]⟩:=HC.out.trans (if_neg hz)
 have PC':=PC.out
 rw [hc] at PC'
 clear PC
 obtain⟨⟨-,aS,cS,e1,-⟩,⟨-,ap,cp,e2,-⟩,⟨-,ar,cr,e3,-⟩⟩:=id PC'
 simp only [List.length_nil,Nat.zero_add] at e1 e2 e3
 subst e1 e2 e3
 have PC:=Lib.hid PC'
 have fr:=fun w1=>refusal_any kk w1 hk5
 rw [← hme] at fr
 have d0:(me == 0)=false:=by rw [beq_eq_false_iff_ne];exact hz
 have d1:(me != 0)=true:=by simp [hz]
 have d2:(me == me)=true:=by simp
 have d3:(kk != 0)=true:=by rcases hk5 with rfl | rfl | rfl | rfl | rfl <;> rfl
 have d4:(kk == 0)=false:=by rcases hk5 with rfl | rfl | rfl | rfl | rfl <;> rfl
 have fs:=fun u1 u2 u3 w1 (h:CrtAt w1.heap.size w1 ⟨[],[],[]⟩ u1 u2 u3)=>csame_any ⟨[],[],[]⟩ u1 u2 u3 (.slice none 0 0) (.slice none 0 0) (.slice none 0 0) w1 h ⟨IntsAt.nil _ _,⟨by simp,none,0,rfl,.inl rfl⟩,IntsAt.nil _ _⟩
 replace fr:=Lib.hid fr
 replace fs:=Lib.hid fs
 clear PC' hk5 hz hme hc HC HI HR fk h40
 go_upto_region 5 with fail
 generalize hXX2:World.alloc w3 _=X2
 obtain⟨q0,hA,hzX2⟩:=box1 hXX2
 clear hXX2
 replace BW:=Lib.hid (BW.out.trans (hA.mono BW.out.size))
 replace B_X0:=Lib.hid (B_X0.out.trans (hA.mono B_X0.out.size))
 have B_w3:=Lib.hid hA
 clear hA
 have CB:=Lib.hid q0
 clear q0
 clear hzX2
 clear c0 c1 c2 c3 c4 c5 c6 c7 c8 c9 c10 ltMB
 obtain⟨c0,c1,c2,c3,c4,c5,c6,c7,c8,c9,c10⟩:=msn_cells (m:=m) (MB.out.below B_X0.out MB.out.lt)
 have ltMB:=(MB.out.below B_X0.out MB.out.lt).lt
 have hk:=CB.out
 have k0':=hk.cell (i:=0) rfl
 have k1':=hk.cell (i:=1) rfl
 have k2':=hk.cell (i:=2) rfl
 go_wp2_with fail
 refine (fp.out _ BW.out).mono ?_
 rintro e w6 ⟨rfl,b6⟩
 replace BW:=Lib.hid (BW.out.trans (b6.mono BW.out.size))
 replace B_X0:=Lib.hid (B_X0.out.trans (b6.mono B_X0.out.size))
 replace B_w3:=Lib.hid (B_w3.out.trans (b6.mono B_w3.out.size))
 have B_X2:=Lib.hid b6
 clear b6
 clear c0 c1 c2 c3 c4 c5 c6 c7 c8 c9 c10 ltMB hk k0' k1' k2'
 obtain⟨c0,c1,c2,c3,c4,c5,c6,c7,c8,c9,c10⟩:=msn_cells (m:=m) (MB.out.below B_X0.out MB.out.lt)
 have ltMB:=(MB.out.below B_X0.out MB.out.lt).lt
 have hk:=(CB.out.below B_X2.out CB.out.lt)
 have k0':=hk.cell (i:=0) rfl
 have k1':=hk.cell (i:=1) rfl
 have k2':=hk.cell (i:=2) rfl
 go_wp2_with fail
 refine (fr.out _).mono ?_
 rintro e w7 ⟨rfl,b7⟩
 replace BW:=Lib.hid (BW.out.trans (b7.mono BW.out.size))
 replace B_X0:=Lib.hid (B_X0.out.trans (b7.mono B_X0.out.size))
 replace B_w3:=Lib.hid (B_w3.out.trans (b7.mono B_w3.out.size))
 replace B_X2:=Lib.hid (B_X2.out.trans (b7.mono B_X2.out.size))
 clear b7
 clear c0 c1 c2 c3 c4 c5 c6 c7 c8 c9 c10 ltMB hk k0' k1' k2'
 obtain⟨c0,c1,c2,c3,c4,c5,c6,c7,c8,c9,c10⟩:=msn_cells (m:=m) (MB.out.below B_X0.out MB.out.lt)
 have ltMB:=(MB.out.below B_X0.out MB.out.lt).lt
 have hk:=(CB.out.below B_X2.out CB.out.lt)
 have k0':=hk.cell (i:=0) rfl
 have k1':=hk.cell (i:=1) rfl
 have k2':=hk.cell (i:=2) rfl
 go_wp2_with fail
 refine (fs.out _ _ _ _ ((PC.out.below B_w3.out).mono B_w3.out.size)).mono ?_
 rintro e w8 ⟨rfl,b8⟩
 replace BW:=Lib.hid (BW.out.trans (b8.mono BW.out.size))
 replace B_X0:=Lib.hid (B_X0.out.trans (b8.mono B_X0.out.size))
 replace B_w3:=Lib.hid (B_w3.out.trans (b8.mono B_w3.out.size))
 replace B_X2:=Lib.hid (B_X2.out.trans (b8.mono B_X2.out.size))
 clear b8
 clear c0 c1 c2 c3 c4 c5 c6 c7 c8 c9 c10 ltMB hk k0' k1' k2'
 obtain⟨c0,c1,c2,c3,c4,c5,c6,c7,c8,c9,c10⟩:=msn_cells (m:=m) (MB.out.below B_X0.out MB.out.lt)
 have ltMB:=(MB.out.below B_X0.out MB.out.lt).lt
 have hk:=(CB.out.below B_X2.out CB.out.lt)
 have k0':=hk.cell (i:=0) rfl
 have k1':=hk.cell (i:=1) rfl
 have k2':=hk.cell (i:=2) rfl
 go_wp2
 go_ret
 exact⟨rfl,BW.out⟩
end Go.Proofs.YtpimbaaahcemhaaGreat.certPlans
