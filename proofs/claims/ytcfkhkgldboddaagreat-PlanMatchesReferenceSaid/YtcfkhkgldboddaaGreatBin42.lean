/- The walk of the law: All functions return what the reference implementation returns. -/
import Derived.Test.YtcfkhkgldboddaaGreatBin38
import Derived.Test.YtcfkhkgldboddaaGreatBin41
namespace Go.Proofs.YtcfkhkgldboddaaGreat.planMatches
open Go.RowKit
attribute [local irreducible] wpQuiet
set_option linter.unusedSimpArgs false in
set_option linter.unusedVariables false in
set_option maxRecDepth 8000 in
set_option maxHeartbeats 6400000 in
theorem walk (w:World) (m:Msn) (vw vh vr vl:Value) (l:List Int) (hm:MsnAt w.heap.size w m vw vh vr) (hl:Z9 w.heap.size w vl l) :
  Calls Tryz.prog 3 #[.agg (Zc m vw vh vr),vl] w fun e w'=>e=.returned (.bool true)∧Below w.heap.size w w':=by
 have hd:=Lib.hid (fun w1=>Z7N w1)
 have ff:=fun w1 (B:Below w.heap.size w w1)=>Z9u m vw vh vr w1 ((hm.below B).mono B.size)
 have fk:=fun w1 (B:Below w.heap.size w w1)=>Z0r m vw vh vr vl l w1 ((hm.below B).mono B.size) ((hl.below B).mono B.size)
 have gk:=fun w1 (B:Below w.heap.size w w1)=>Z4W m vw vh vr vl l w1 ((hm.below B).mono B.size) ((hl.below B).mono B.size)
 have fb:=fun w1 (B:Below w.heap.size w w1) h=>Z2X m vw vh vr w1 ((hm.below B).mono B.size) h
 have gb:=fun w1 (B:Below w.heap.size w w1) h=>Z5V m vw vh vr w1 ((hm.below B).mono B.size) h
 have fr:=fun w1 (B:Below w.heap.size w w1) h=>Z16 m vw vh vr w1 ((hm.below B).mono B.size) h
 have gr:=fun w1 (B:Below w.heap.size w w1) h=>Z3y m vw vh vr w1 ((hm.below B).mono B.size) h
 obtain⟨⟨-,a1,cap1,rfl,-⟩,⟨-,a2,cap2,rfl,-⟩,⟨-,a3,cap3,rfl,-⟩⟩:=hm;obtain⟨-,al,capl,rfl,-⟩:=hl;unfold Zc at *;generalize kpL m l=x1 at *;generalize kpK m l=x2 at *;generalize kpE m l=x3 at *;generalize plE m=x4 at *;generalize bsB m=y1 at *;generalize bsL m=l1 at *;generalize rfG m=x5 at *;generalize rfB m=y2 at *;generalize rfL m=l2 at *;replace ff:=Lib.hid ff;replace fk:=Lib.hid fk;replace gk:=Lib.hid gk;replace fb:=Lib.hid fb;replace gb:=Lib.hid gb;replace fr:=Lib.hid fr;replace gr:=Lib.hid gr;have BW:=Lib.hid (Below.refl w.heap.size w);go_enter Tryz.func3,Tryz.ntmps3;go_wp2_with fail;generalize hXX0:World.alloc w _=X0;obtain⟨q0,hA,hzX0⟩:=box1 hXX0;clear hXX0;have BW:=Lib.hid hA;clear hA;have MB:=Lib.hid q0;clear q0 hzX0;obtain⟨c0,c1,c2,c3,c4,c5,c6,c7,c8,c9,c10⟩:=Zh (m:=m) MB.out;have ltMB:=MB.out.lt;refine (hd.out X0).mono ?_;rintro e w1 ⟨rfl,b1⟩;replace BW:=zAi BW b1;have B_X0:=Lib.hid b1;clear b1 c0 c1 c2 c3 c4 c5 c6 c7 c8 c9 c10 ltMB;obtain⟨c0,c1,c2,c3,c4,c5,c6,c7,c8,c9,c10⟩:=Zh (m:=m) (zCq MB B_X0);have ltMB:=(zCq MB B_X0).lt;go_wp2_with fail;refine (ff.out _ BW.out).mono ?_;rintro e w2 ⟨rfl,b2⟩;replace BW:=zAi BW b2;replace B_X0:=zAi B_X0 b2;clear b2 c0 c1 c2 c3 c4 c5 c6 c7 c8 c9 c10 ltMB;obtain⟨c0,c1,c2,c3,c4,c5,c6,c7,c8,c9,c10⟩:=Zh (m:=m) (zCq MB B_X0);have ltMB:=(zCq MB B_X0).lt;cases hfew:fewB m
 ·skip
  go_wp2;go_ret;exact⟨rfl,BW.out⟩
 have h8:=ZaB hfew;clear hfew;by_cases h60:60<l.length
 ·skip
  have d60:decide ((l.length:Int)>60)=true:=by rw [decide_eq_true_eq];omega
  go_wp2;go_ret;exact⟨rfl,BW.out⟩
 have d60:decide ((l.length:Int)>60)=false:=by rw [decide_eq_false_iff_not];omega
 have n60:¬ ((l.length:Int)>60):=by omega
 go_wp2_with fail;refine (fk.out _ BW.out).mono ?_;rintro e w3 ⟨rfl,b3⟩;replace BW:=zAi BW b3;replace B_X0:=zAi B_X0 b3;clear b3 c0 c1 c2 c3 c4 c5 c6 c7 c8 c9 c10 ltMB;obtain⟨c0,c1,c2,c3,c4,c5,c6,c7,c8,c9,c10⟩:=Zh (m:=m) (zCq MB B_X0);have ltMB:=(zCq MB B_X0).lt;go_wp2_with fail;refine (gk.out _ BW.out).mono ?_;rintro e w4 ⟨rfl,b4⟩;replace BW:=zAi BW b4;replace B_X0:=zAi B_X0 b4;clear b4 c0 c1 c2 c3 c4 c5 c6 c7 c8 c9 c10 ltMB;obtain⟨c0,c1,c2,c3,c4,c5,c6,c7,c8,c9,c10⟩:=Zh (m:=m) (zCq MB B_X0);have ltMB:=(zCq MB B_X0).lt;go_wp2_with fail;refine (fb.out _ BW.out (by omega)).mono ?_
 rintro e w5 ⟨v1,rfl,p1,b5,-⟩;replace BW:=zAi BW b5;replace B_X0:=zAi B_X0 b5;clear b5;have P1:=Lib.hid p1;clear p1;obtain⟨-,g1,e1,hv1,-⟩:=P1.out;subst hv1;clear c0 c1 c2 c3 c4 c5 c6 c7 c8 c9 c10 ltMB;obtain⟨c0,c1,c2,c3,c4,c5,c6,c7,c8,c9,c10⟩:=Zh (m:=m) (zCq MB B_X0);have ltMB:=(zCq MB B_X0).lt;go_wp2_with fail;refine (gb.out _ BW.out (by omega)).mono ?_
 rintro e w6 ⟨v2,rfl,p2,b6⟩;replace BW:=zAi BW b6;replace B_X0:=zAi B_X0 b6;have B_w5:=Lib.hid b6;clear b6;have P2:=Lib.hid p2;clear p2;obtain⟨-,g2,e2,hv2,-⟩:=P2.out;subst hv2;clear c0 c1 c2 c3 c4 c5 c6 c7 c8 c9 c10 ltMB;obtain⟨c0,c1,c2,c3,c4,c5,c6,c7,c8,c9,c10⟩:=Zh (m:=m) (zCq MB B_X0);have ltMB:=(zCq MB B_X0).lt;go_wp2_with fail;refine (Z29 _ _ l1 l1 w6 ((P1.out.below B_w5.out).mono B_w5.out.size) P2.out).mono ?_;rintro e w7 ⟨rfl,b7⟩;replace BW:=zAi BW b7;replace B_X0:=zAi B_X0 b7;replace B_w5:=zAi B_w5 b7;have B_w6:=Lib.hid b7;clear b7 c0 c1 c2 c3 c4 c5 c6 c7 c8 c9 c10 ltMB;obtain⟨c0,c1,c2,c3,c4,c5,c6,c7,c8,c9,c10⟩:=Zh (m:=m) (zCq MB B_X0);have ltMB:=(zCq MB B_X0).lt;rw [decide_eq_true (rfl:l1=l1)];go_wp2_with fail;refine (fr.out _ BW.out (by omega)).mono ?_
 rintro e w8 ⟨v3,rfl,p3,b8,-⟩;replace BW:=zAi BW b8;replace B_X0:=zAi B_X0 b8;replace B_w5:=zAi B_w5 b8;replace B_w6:=zAi B_w6 b8;clear b8;have P3:=Lib.hid p3;clear p3;obtain⟨-,g3,e3,hv3,-⟩:=P3.out;subst hv3;clear c0 c1 c2 c3 c4 c5 c6 c7 c8 c9 c10 ltMB;obtain⟨c0,c1,c2,c3,c4,c5,c6,c7,c8,c9,c10⟩:=Zh (m:=m) (zCq MB B_X0);have ltMB:=(zCq MB B_X0).lt;go_wp2_with fail;refine (gr.out _ BW.out (by omega)).mono ?_
 rintro e w9 ⟨v4,rfl,p4,b9⟩;replace BW:=zAi BW b9;replace B_X0:=zAi B_X0 b9;replace B_w5:=zAi B_w5 b9;replace B_w6:=zAi B_w6 b9;have B_w8:=Lib.hid b9;clear b9;have P4:=Lib.hid p4;clear p4;obtain⟨-,g4,e4,hv4,-⟩:=P4.out;subst hv4;clear c0 c1 c2 c3 c4 c5 c6 c7 c8 c9 c10 ltMB;obtain⟨c0,c1,c2,c3,c4,c5,c6,c7,c8,c9,c10⟩:=Zh (m:=m) (zCq MB B_X0);have ltMB:=(zCq MB B_X0).lt;go_wp2_with fail;refine (Z29 _ _ l2 l2 w9 ((P3.out.below B_w8.out).mono B_w8.out.size) P4.out).mono ?_;rintro e w10 ⟨rfl,b10⟩;replace BW:=zAi BW b10;replace B_X0:=zAi B_X0 b10;replace B_w5:=zAi B_w5 b10;replace B_w6:=zAi B_w6 b10;replace B_w8:=zAi B_w8 b10;have B_w9:=Lib.hid b10;clear b10 c0 c1 c2 c3 c4 c5 c6 c7 c8 c9 c10 ltMB;obtain⟨c0,c1,c2,c3,c4,c5,c6,c7,c8,c9,c10⟩:=Zh (m:=m) (zCq MB B_X0);have ltMB:=(zCq MB B_X0).lt;rw [decide_eq_true (rfl:l2=l2)];go_wp2;go_ret;exact⟨rfl,BW.out⟩
end Go.Proofs.YtcfkhkgldboddaaGreat.planMatches
