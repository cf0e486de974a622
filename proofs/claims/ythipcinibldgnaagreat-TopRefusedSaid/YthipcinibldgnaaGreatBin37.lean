/- The walk of the law: Either a mission has best stops, and these a right certificate, and no scene; or it is refused, and the leg that is named is broken. -/
import Derived.Test.YthipcinibldgnaaGreatBin35
import Derived.Test.YthipcinibldgnaaGreatBin36
open Go.Lib renaming hid->qH
open Go.World renaming alloc->qV
namespace Go.Proofs.YthipcinibldgnaaGreat.topRefused
open Go.RowKit
attribute [local irreducible] wpQuiet
set_option linter.unusedSimpArgs false in
set_option linter.unusedVariables false in
set_option maxRecDepth 8000 in
set_option maxHeartbeats 12800000 in
theorem walk (w : World) (m : Msn) (vw vh vr : Value) (u : Int) (hm : MsnAt w.heap.size w m vw vh vr) (hu0 : (Lit.int .u8 u).wf = true) :
  Calls Tryz.prog 3 #[.agg (Zc m vw vh vr),.int .u8 u] w fun e w'=>e=.returned (.bool true)/\Below w.heap.size w w':=by
 obtain⟨u,rfl,hu⟩:=u8_bd hu0;have hd:=qH (fun w1=>Z6t w1)
 have ff:=fun w1 (B:Below w.heap.size w w1)=>Zct m vw vh vr w1 ((hm.below B).mono B.size)
 have fv:=fun w1 (B:Below w.heap.size w w1)=>Z5t m vw vh vr w1 ((hm.below B).mono B.size)
 have fb:=fun w1 (B:Below w.heap.size w w1) h=>Z5d m vw vh vr w1 ((hm.below B).mono B.size) h
 have fr:=fun w1 (B:Below w.heap.size w w1) h=>Z1c m vw vh vr w1 ((hm.below B).mono B.size) h
 have fw:=fun w1 (B:Below w.heap.size w w1) hV h=>Z7V m vw vh vr w1 ((hm.below B).mono B.size) hV h
 have fx:=fun w1 (B:Below w.heap.size w w1) h=>Z8b m vw vh vr w1 ((hm.below B).mono B.size) h
 have fk:=fun v l w1 (B:Below w.heap.size w w1) hl=>Z0N m vw vh vr v l w1 ((hm.below B).mono B.size) hl
 have mk:=fun v l w1 (B:Below w.heap.size w w1) hl h=>Z2U m vw vh vr v l w1 ((hm.below B).mono B.size) hl h
 have ck:=fun c a b d w1 (B:Below w.heap.size w w1) hc=>Z65 m vw vh vr c a b d w1 ((hm.below B).mono B.size) hc
 have br:=fun vs l q1 q2 q3 x w1 (B:Below w.heap.size w w1) hl=>Z4w m vw vh vr vs l q1 q2 q3 x w1 ((hm.below B).mono B.size) hl
 have MM:=qH hm;obtain⟨⟨hm1,a1,cw1,rfl,hcw⟩,⟨-,a2,cw2,rfl,-⟩,⟨-,a3,cw3,rfl,-⟩⟩:=hm;have HCW:=qH (And.intro hm1 hcw);clear hm1 hcw hu0;unfold Zc at *;replace ff:=qH ff;replace fv:=qH fv;replace fb:=qH fb;replace fr:=qH fr;replace fw:=qH fw;replace fx:=qH fx;replace fk:=qH fk;replace mk:=qH mk;replace ck:=qH ck;replace br:=qH br;have BW:=qH (Below.refl w.heap.size w);go_enter Tryz.func3,Tryz.ntmps3;go_upto_region 1 with fail
 generalize hXX0:qV w _=X0;obtain⟨q0,hA,hzX0⟩:=box1 hXX0;clear hXX0;have BW:=qH hA;clear hA;have MB:=qH q0;clear q0 hzX0;go_wp2_with fail;refine (hd.out X0).mono ?_;rintro e w41 ⟨rfl,b41⟩;replace BW:=zAf BW b41;have B_X0:=qH b41;clear b41;obtain⟨c0,c1,c2,c3,c4,c5,c6,c7,c8,c9,c10⟩:=Zg (m:=m) (zCl MB B_X0);go_wp2_with fail;refine (ff.out _ BW.out).mono ?_;rintro e w42 ⟨rfl,b42⟩;replace BW:=zAf BW b42;replace B_X0:=zAf B_X0 b42;clear b42 c0 c1 c2 c3 c4 c5 c6 c7 c8 c9 c10;obtain⟨c0,c1,c2,c3,c4,c5,c6,c7,c8,c9,c10⟩:=Zg (m:=m) (zCl MB B_X0);cases hfew:fewB m
 ·skip
  go_wp2;go_ret;exact⟨rfl,BW.out⟩
 have h8:m.ways.length<=8:=Zbj hfew;clear hfew;go_wp2_with fail;refine (fv.out _ BW.out).mono ?_;rintro e w43 ⟨rfl,b43⟩;replace BW:=zAf BW b43;replace B_X0:=zAf B_X0 b43;clear b43 c0 c1 c2 c3 c4 c5 c6 c7 c8 c9 c10;obtain⟨c0,c1,c2,c3,c4,c5,c6,c7,c8,c9,c10⟩:=Zg (m:=m) (zCl MB B_X0);cases hV:validB m
 ·skip
  go_wp2;go_ret;exact⟨rfl,BW.out⟩
 have V:=(Zj m).1 hV;have n2:=V.n2;have hp:plE m=0:=by simp [plE,hV]
 have hq0:(rfB m=true/\bsB m=false)\/(rfB m=false/\bsB m=true):=by
  rcases bs_rf (m:=m) with⟨h1,h2,-⟩ | ⟨h1,⟨h3,-⟩ | ⟨-,h2⟩⟩
  ·exact .inl ⟨h1,h2⟩
  ·omega
  ·exact .inr ⟨h1,h2⟩
 have fb':=fun w1 B=>fb.out w1 B (by omega)
 have fr':=fun w1 B=>fr.out w1 B (by omega)
 have fw':=qH (fun w1 B=>fw.out w1 B hV (by omega))
 have fx':=qH (fun w1 B=>fx.out w1 B (by omega))
 have h20:(fixL m).length<=20:=by have:=Z0g m m.ways.length;unfold fixL;omega
 have fc:=qH (fun v w1 hl=>Z6r v (fixL m) u (by omega) h20 w1 hl)
 have hok:radOkB m (chosenL (fixL m) u)=true:=Z90 hV (Z1E _ _);have hof:(chosenL (fixL m) u).length<=20:=Nat.le_trans (Z1E _ _).length_le h20;obtain⟨b1,hb1⟩:∃ b,bsB m=b:=⟨_,rfl⟩;obtain⟨b2,hb2⟩:∃ b,rfB m=b:=⟨_,rfl⟩;obtain⟨rg,hrg⟩:∃ g,rfG m=g:=⟨_,rfl⟩;simp only [hp,hb1,hb2,hrg] at fb' fr';replace fb':=qH fb';replace fr':=qH fr';have HR:=qH hq0;have HB1:=qH hb1;have HB2:=qH hb2;have HRG:=qH hrg;have HV:=qH hV;clear hq0 hb1 hb2 hrg fb fr fw fx hp V h20 hV;go_wp2_with fail;refine (fb'.out _ BW.out).mono ?_;rintro e w44 ⟨v1,rfl,p1,b44,-⟩;replace BW:=zAf BW b44;replace B_X0:=zAf B_X0 b44;clear b44;have PS:=qH p1;clear p1 fb';obtain⟨-,ga1,gk1,hv1,-⟩:=PS.out;subst hv1;clear c0 c1 c2 c3 c4 c5 c6 c7 c8 c9 c10;obtain⟨c0,c1,c2,c3,c4,c5,c6,c7,c8,c9,c10⟩:=Zg (m:=m) (zCl MB B_X0);go_wp2_with fail;refine (fr'.out _ BW.out).mono ?_;rintro e w45 ⟨v2,rfl,p2,b45,-⟩;replace BW:=zAf BW b45;replace B_X0:=zAf B_X0 b45;have B_w44:=qH b45;clear b45;have PW:=qH p2;clear p2 fr';obtain⟨-,ga2,gk2,hv2,hcl⟩:=PW.out;subst hv2;have HCL:=qH hcl;clear hcl c0 c1 c2 c3 c4 c5 c6 c7 c8 c9 c10;obtain⟨c0,c1,c2,c3,c4,c5,c6,c7,c8,c9,c10⟩:=Zg (m:=m) (zCl MB B_X0);go_wp2_with fail;refine (fw'.out _ BW.out).mono ?_;rintro e w46 ⟨sa,sn,sc,k,K,r,x,y,b,er,rfl,b46,hq3⟩;replace BW:=zAf BW b46;replace B_X0:=zAf B_X0 b46;replace B_w44:=zAf B_w44 b46;have B_w45:=qH b46;clear b46 fw';have HQ:=qH hq3;clear hq3 c0 c1 c2 c3 c4 c5 c6 c7 c8 c9 c10;go_upto_region 7 with fail
 generalize hXX6:qV w46 _=X6;obtain⟨q0,hA,hzX6⟩:=box1 hXX6;clear hXX6;replace BW:=zAf BW hA;replace B_X0:=zAf B_X0 hA;replace B_w44:=zAf B_w44 hA;replace B_w45:=zAf B_w45 hA;have B_w46:=qH hA;clear hA;have SB:=qH q0;clear q0;obtain⟨c0,c1,c2,c3,c4,c5,c6,c7,c8,c9,c10⟩:=Zg (m:=m) (zCl MB B_X0);clear hzX6;go_wp2_with fail;refine (fx'.out _ BW.out).mono ?_;rintro e w47 ⟨v3,rfl,p3,b47⟩;replace BW:=zAf BW b47;replace B_X0:=zAf B_X0 b47;replace B_w44:=zAf B_w44 b47;replace B_w45:=zAf B_w45 b47;replace B_w46:=zAf B_w46 b47;have B_X6:=qH b47;clear b47;have PF:=qH p3;clear p3 fx';obtain⟨-,ga3,gk3,hv3,-⟩:=PF.out;subst hv3;clear c0 c1 c2 c3 c4 c5 c6 c7 c8 c9 c10;obtain⟨c0,c1,c2,c3,c4,c5,c6,c7,c8,c9,c10⟩:=Zg (m:=m) (zCl MB B_X0);go_wp2_with fail;refine (fc.out _ w47 PF.out).mono ?_;rintro e w48 ⟨v4,rfl,p4,b48⟩;replace BW:=zAf BW b48;replace B_X0:=zAf B_X0 b48;replace B_w44:=zAf B_w44 b48;replace B_w45:=zAf B_w45 b48;replace B_w46:=zAf B_w46 b48;replace B_X6:=zAf B_X6 b48;have B_w47:=qH b48;clear b48;have PO:=qH p4;clear p4 fc;obtain⟨-,ga4,gk4,hv4,-⟩:=PO.out;subst hv4;clear c0 c1 c2 c3 c4 c5 c6 c7 c8 c9 c10;obtain⟨c0,c1,c2,c3,c4,c5,c6,c7,c8,c9,c10⟩:=Zg (m:=m) (zCl MB B_X0);clear PF B_w47;have hmd:=Z2N hok;have hke:=(kp_of hok).2.2;have hfar:=fun (hr:rfB m=true)=>(far_le hr hok).1
 generalize chosenL (fixL m) u=o at *;have g8:=fk.out _ o w48 BW.out PO.out;have g9:=fun v w1 B hl=>mk.out v o w1 B hl (by omega)
 obtain⟨fl,hfl⟩:∃ f,kpL m o=f:=⟨_,rfl⟩;obtain⟨fq,hfq⟩:∃ f,kpK m o=f:=⟨_,rfl⟩;obtain⟨em,hem⟩:∃ f,mkE m o=f:=⟨_,rfl⟩;obtain⟨nl,hnl⟩:∃ n,(m.ways.length:Int)-1=n:=⟨_,rfl⟩;have jw:IntKind.i64.wrap ((m.ways.length:Int)-1)=nl:=by rw [<- hnl];exact zW2
 rw [hfl,hfq,hke] at g8;rw [hem] at g9;rw [hfl,hem,hnl] at hmd;rw [hfl] at hfar;replace g8:=qH g8;replace g9:=qH g9;have HFAR:=qH hfar;obtain⟨bb,t1,t2,t3⟩:∃ bb:Bool,(em == 0)=bb/\(fl == nl)=bb/\(bb != bb)=false:=by
  rcases hmd with⟨h1,h2⟩ | ⟨h1,h2⟩
  ·exact⟨true,by simpa using h1,by simpa using h2,rfl⟩
  ·exact⟨false,by simpa using h1,by simpa using h2,rfl⟩
 clear hmd hke hfar hfl hfq hem hok hof fk;go_wp2_with fail;refine (g8.out).mono ?_;rintro e w49 ⟨rfl,b49⟩;replace BW:=zAf BW b49;replace B_X0:=zAf B_X0 b49;replace B_w44:=zAf B_w44 b49;replace B_w45:=zAf B_w45 b49;replace B_w46:=zAf B_w46 b49;replace B_X6:=zAf B_X6 b49;have B_w48:=qH b49;clear b49 g8 c0 c1 c2 c3 c4 c5 c6 c7 c8 c9 c10;obtain⟨c0,c1,c2,c3,c4,c5,c6,c7,c8,c9,c10⟩:=Zg (m:=m) (zCl MB B_X0);go_wp2_with fail;refine (g9.out _ _ BW.out ((PO.out.below B_w48.out).mono B_w48.out.size)).mono ?_;rintro e w50 ⟨w1',w2',w3',rfl,p9,b50⟩;replace BW:=zAf BW b50;replace B_X0:=zAf B_X0 b50;replace B_w44:=zAf B_w44 b50;replace B_w45:=zAf B_w45 b50;replace B_w46:=zAf B_w46 b50;replace B_X6:=zAf B_X6 b50;replace B_w48:=zAf B_w48 b50;clear b50 g9;obtain⟨ea1,en1,ec1,ea2,en2,ec2,ea3,en3,ec3,rfl,rfl,rfl⟩:=Z4p p9;clear p9 c0 c1 c2 c3 c4 c5 c6 c7 c8 c9 c10 PO B_w48;go_upto_region 10 with fail
 generalize hXX9:qV w50 _=X9;obtain⟨-,hA,hzX9⟩:=box1 hXX9;clear hXX9;replace BW:=zAf BW hA;replace B_X0:=zAf B_X0 hA;replace B_w44:=zAf B_w44 hA;replace B_w45:=zAf B_w45 hA;replace B_w46:=zAf B_w46 hA;replace B_X6:=zAf B_X6 hA;clear hA;obtain⟨c0,c1,c2,c3,c4,c5,c6,c7,c8,c9,c10⟩:=Zg (m:=m) (zCl MB B_X0);clear hzX9;rcases HR.out with⟨hr,hbs⟩ | ⟨hr,hbs⟩
 rotate_left
 ·skip
  have e1:=HB1.out;have e2:=HB2.out;rw [hbs] at e1;rw [hr] at e2;subst e1 e2;obtain⟨rfl,rfl⟩:er=0/\b=false:=by
   rcases HQ.out with⟨-,h1,h2⟩ | ⟨h,-⟩ | ⟨h,-⟩
   ·exact⟨h1,h2⟩
   ·rw [hr] at h;cases h
   ·rw [hr] at h;cases h
  have h0:=top_ok hbs;have gm:=fun v w1 B hl=>mk.out v (bsL m) w1 B hl (by have:=(Z32 m).length_le;have:=Z0g m m.ways.length;unfold bsL;rw [if_pos hbs];unfold fixL at *;omega)
  rw [h0] at gm;have gc:=fun a b d w1 B hc=>ck.out (mkC m (bsL m)) a b d w1 B hc
  rw [(Z2R h0).1,(Z2R h0).2] at gc;replace gm:=qH gm;replace gc:=qH gc;clear h0 mk ck hr hbs HR HFAR;go_wp2_with fail;refine (gm.out _ _ BW.out ((PS.out.below B_w44.out).mono B_w44.out.size)).mono ?_;rintro e w51 ⟨w1',w2',w3',rfl,p9,b51⟩;replace BW:=zAf BW b51;replace B_X0:=zAf B_X0 b51;replace B_w44:=zAf B_w44 b51;replace B_w45:=zAf B_w45 b51;replace B_w46:=zAf B_w46 b51;replace B_X6:=zAf B_X6 b51;clear b51;have CC:=qH p9;clear p9 gm;obtain⟨fa1,fn1,fc1,fa2,fn2,fc2,fa3,fn3,fc3,rfl,rfl,rfl⟩:=Z4p CC.out;clear c0 c1 c2 c3 c4 c5 c6 c7 c8 c9 c10;go_upto_region 14 with fail
  generalize hXX13:qV w51 _=X13;obtain⟨q0,hA,hzX13⟩:=box1 hXX13;clear hXX13;replace BW:=zAf BW hA;replace B_X0:=zAf B_X0 hA;replace B_w44:=zAf B_w44 hA;replace B_w45:=zAf B_w45 hA;replace B_w46:=zAf B_w46 hA;replace B_X6:=zAf B_X6 hA;have B_w51:=qH hA;clear hA;have CB:=qH q0;clear q0 hzX13;obtain⟨c0,c1,c2,c3,c4,c5,c6,c7,c8,c9,c10⟩:=Zg (m:=m) (zCl MB B_X0);have hk:=CB.out;have k0':=hk.cell (i:=0) rfl;have k1':=hk.cell (i:=1) rfl;have k2':=hk.cell (i:=2) rfl;go_wp2_with fail;refine (gc.out _ _ _ _ BW.out ((CC.out.below B_w51.out).mono B_w51.out.size)).mono ?_;rintro e w52 ⟨rfl,b52⟩;replace BW:=zAf BW b52;replace B_X0:=zAf B_X0 b52;replace B_w44:=zAf B_w44 b52;replace B_w45:=zAf B_w45 b52;replace B_w46:=zAf B_w46 b52;replace B_X6:=zAf B_X6 b52;replace B_w51:=zAf B_w51 b52;have B_X13:=qH b52;clear b52 gc c0 c1 c2 c3 c4 c5 c6 c7 c8 c9 c10 hk k0' k1' k2';go_wp2;go_ret;exact⟨rfl,BW.out⟩
 have e1:=HB1.out;have e2:=HB2.out;have e3:=HRG.out;rw [hbs] at e1;rw [hr] at e2;obtain⟨-,hokw,hk1,hg1,-,-,kpe,-⟩:=Z01 hr;have hno:=top_no hr;have hsh:=fun h=>Z8T hr h
 have hfar:=HFAR.out hr;rw [hg1] at e3;subst e1 e2 e3;have HQ2:Hid ((er=20/\b=false)\/(er=0/\b=true/\k=(leadN m (rfL m):Int)/\Z8 w46.heap.size w46 (.slice sa sn sc) (rfL m)/\brB m (rfL m) k K r ⟨x,y⟩=true)):=by
  rcases HQ.out with⟨h,-⟩ | ⟨-,h1,h2⟩ | ⟨-,h⟩
  ·rw [hr] at h;cases h
  ·exact qH (.inl ⟨h1,h2⟩)
  ·exact qH (.inr h)
 have hll:(rfL m).length<=20:=by
  have h1:=(Z5e ((Zj m).1 HV.out) (Z05 hokw).2).length_le;have h2:=Z0g m m.ways.length;unfold fixL at h1;omega
 obtain⟨ew,hew⟩:∃ f,mkE m (rfL m)=f:=⟨_,rfl⟩;have gm:=fun v w1 B hl=>mk.out v (rfL m) w1 B hl (by omega)
 rw [hew] at gm hno;have tw:(ew == 0)=false:=by simpa using hno
 replace gm:=qH gm;replace kpe:=qH kpe;clear hew hno mk hbs HR HFAR HQ ck HRG HB1 HB2 hg1;generalize hL:rfL m=L at *;generalize hkk:leadN m L=q at *;clear hokw;go_wp2_with fail;refine (gm.out _ _ BW.out ((PW.out.below B_w45.out).mono B_w45.out.size)).mono ?_;rintro e w53 ⟨w1',w2',w3',rfl,p9,b53⟩;replace BW:=zAf BW b53;replace B_X0:=zAf B_X0 b53;replace B_w44:=zAf B_w44 b53;replace B_w45:=zAf B_w45 b53;replace B_w46:=zAf B_w46 b53;replace B_X6:=zAf B_X6 b53;clear b53 gm;obtain⟨fa1,fn1,fc1,fa2,fn2,fc2,fa3,fn3,fc3,rfl,rfl,rfl⟩:=Z4p p9;clear p9 c0 c1 c2 c3 c4 c5 c6 c7 c8 c9 c10;go_upto_region 17 with fail
 generalize hXX16:qV w53 _=X16;obtain⟨-,hA,hzX16⟩:=box1 hXX16;clear hXX16;replace BW:=zAf BW hA;replace B_X0:=zAf B_X0 hA;replace B_w44:=zAf B_w44 hA;replace B_w45:=zAf B_w45 hA;replace B_w46:=zAf B_w46 hA;replace B_X6:=zAf B_X6 hA;clear hA;obtain⟨c0,c1,c2,c3,c4,c5,c6,c7,c8,c9,c10⟩:=Zg (m:=m) (zCl MB B_X0);clear hzX16;have d1:decide (fl>(q:Int))=false:=by rw [decide_eq_false_iff_not];omega
 have d2:decide ((q:Int)<0)=false:=by rw [decide_eq_false_iff_not];omega
 have d3:decide ((q:Int)>=nl)=false:=by rw [decide_eq_false_iff_not];omega
 clear hfar;by_cases hq1:0<q;rotate_left
 ·skip
  have d4:decide ((q:Int)>0)=false:=by rw [decide_eq_false_iff_not];omega
  rcases HQ2.out with⟨rfl,rfl⟩ | ⟨rfl,rfl,rfl,hi,hbt⟩
  ·skip
   go_wp2;go_ret;exact⟨rfl,BW.out⟩
  ·skip
   have I1:=qH hi;clear hi;obtain⟨-,sa',sc',hv,-⟩:=I1.out;simp only [Value.slice.injEq] at hv;obtain⟨rfl,rfl,rfl⟩:=hv;clear c0 c1 c2 c3 c4 c5 c6 c7 c8 c9 c10;obtain⟨c0,c1,c2,c3,c4,c5,c6,c7,c8,c9,c10⟩:=Zg (m:=m) (zCl MB B_X0);have hs:=(zCl SB B_X6);have s0':=hs.cell (i:=0) rfl;have s1':=hs.cell (i:=1) rfl;have s2':=hs.cell (i:=2) rfl;have s3':=hs.cell (i:=3) rfl;have s4':=hs.cell (i:=4) rfl;have s5':=hs.cell (i:=5) rfl;have g7:=br.out _ L (q:Int) K r ⟨x,y⟩ X16 BW.out ((I1.out.below B_w46.out).mono B_w46.out.size);rw [hbt,kpe.out] at g7;simp only at g7;replace g7:=qH g7;clear br hbt;go_wp2_with fail;refine (g7.out).mono ?_;rintro e w54 ⟨rfl,b54⟩;replace BW:=zAf BW b54;replace B_X0:=zAf B_X0 b54;replace B_w44:=zAf B_w44 b54;replace B_w45:=zAf B_w45 b54;replace B_w46:=zAf B_w46 b54;replace B_X6:=zAf B_X6 b54;clear b54 g7 c0 c1 c2 c3 c4 c5 c6 c7 c8 c9 c10 hs s0' s1' s2' s3' s4' s5';obtain⟨c0,c1,c2,c3,c4,c5,c6,c7,c8,c9,c10⟩:=Zg (m:=m) (zCl MB B_X0);have hs:=(zCl SB B_X6);have s0':=hs.cell (i:=0) rfl;have s1':=hs.cell (i:=1) rfl;have s2':=hs.cell (i:=2) rfl;have s3':=hs.cell (i:=3) rfl;have s4':=hs.cell (i:=4) rfl;have s5':=hs.cell (i:=5) rfl;have g8:=Z2l _ _ L L w54 ((I1.out.below B_w46.out).mono B_w46.out.size) ((PW.out.below B_w45.out).mono B_w45.out.size);rw [decide_eq_true (rfl:L=L)] at g8;go_wp2_with fail;refine (g8).mono ?_;rintro e w55 ⟨rfl,b55⟩;replace BW:=zAf BW b55;replace B_X0:=zAf B_X0 b55;replace B_w44:=zAf B_w44 b55;replace B_w45:=zAf B_w45 b55;replace B_w46:=zAf B_w46 b55;replace B_X6:=zAf B_X6 b55;clear b55 g8 c0 c1 c2 c3 c4 c5 c6 c7 c8 c9 c10 hs s0' s1' s2' s3' s4' s5';obtain⟨c0,c1,c2,c3,c4,c5,c6,c7,c8,c9,c10⟩:=Zg (m:=m) (zCl MB B_X0);have hs:=(zCl SB B_X6);have s0':=hs.cell (i:=0) rfl;have s1':=hs.cell (i:=1) rfl;have s2':=hs.cell (i:=2) rfl;have s3':=hs.cell (i:=3) rfl;have s4':=hs.cell (i:=4) rfl;have s5':=hs.cell (i:=5) rfl;clear c0 c1 c2 c3 c4 c5 c6 c7 c8 c9 c10 hs s0' s1' s2' s3' s4' s5';go_wp2;go_ret;exact⟨rfl,BW.out⟩
 have d4:decide ((q:Int)>0)=true:=zTq;obtain⟨n,hn⟩:∃ n,q+1=n:=⟨_,rfl⟩;have jn:IntKind.i64.wrap ((q:Int)+1)=(n:Int):=by rw [show (q:Int)+1=(n:Int) by omega];exact zW2
 have hnl':n<=m.ways.length:=by omega
 have h2n:2<=n:=by omega
 have hns:(n:Int)<=(m.ways.length:Int):=by omega
 have hnc:n<=m.ways.length+cw1:=by omega
 have hnc2:(n:Int)<=((m.ways.length+cw1:Nat):Int):=by omega
 have hsh':=hsh (by omega)
 rw [hn] at hsh';clear hsh;go_upto_region 20 with fail
 have szw:=qH (show w.heap.size<=X16.heap.size from BW.out.size)
 have szX0:=qH (show X0.heap.size<=X16.heap.size from B_X0.out.size)
 have szw44:=qH (show w44.heap.size<=X16.heap.size from B_w44.out.size)
 have szw45:=qH (show w45.heap.size<=X16.heap.size from B_w45.out.size)
 have szw46:=qH (show w46.heap.size<=X16.heap.size from B_w46.out.size)
 have szX6:=qH (show X6.heap.size<=X16.heap.size from B_X6.out.size)
 go_upto_region 21 with fail
 generalize hXX20:qV X16 _=X20;obtain⟨q0,hA,hzX20⟩:=box1 hXX20;clear hXX20;replace BW:=zAf BW hA;replace B_X0:=zAf B_X0 hA;replace B_w44:=zAf B_w44 hA;replace B_w45:=zAf B_w45 hA;replace B_w46:=zAf B_w46 hA;replace B_X6:=zAf B_X6 hA;clear hA;have SH:=qH q0;clear q0 hzX20 c0 c1 c2 c3 c4 c5 c6 c7 c8 c9 c10;have hSB:=SH.out;obtain⟨b0,o0,rfl,hb0,hcc⟩:=HCW.out.2.resolve_left (by intro h;rw [h] at n2;simp at n2)
 have l0:X20.cell? ⟨X16.heap.size,0,none⟩=some (.slice (some ⟨b0,o0,none⟩) m.ways.length (m.ways.length+cw1)):=hSB.cell (i:=0) rfl;have l1:=Ze hSB 0;have ltS:=hSB.lt;have lm:X20.cell? ⟨w.heap.size,0,none⟩=some (.slice (some ⟨b0,o0,none⟩) m.ways.length (m.ways.length+cw1)):=(zCl MB B_X0).cell (i:=0) rfl;obtain⟨cx,hcx⟩:∃ c,m.ways.length+cw1=n+c:=⟨m.ways.length+cw1-n,by omega⟩
 have M2:MsnAt w.heap.size w (cutM m n) (.slice (some ⟨b0,o0,none⟩) n (m.ways.length+cw1)) _ _:=⟨⟨by rw [Z0t hnl'];have:=HCW.out.1;omega,some ⟨b0,o0,none⟩,cx,by rw [Z0t hnl',hcx],.inr ⟨b0,o0,rfl,hb0,fun j hj=>by rw [Z0t hnl'] at hj;rw [Z1j hj];exact hcc j (by omega)⟩⟩,MM.out.2⟩
 have fm2:=fun vl w1 (B:Below w.heap.size w w1) hl=>Z2U (cutM m n) (.slice (some ⟨b0,o0,none⟩) n (m.ways.length+cw1)) _ _ vl (cutS L n) w1 ((M2.below B).mono B.size) hl (by have:=Z55 L n L.length;rw [List.take_length] at this;omega)
 rw [hsh'] at fm2;dsimp only [Zc,cutM] at fm2;replace fm2:=qH fm2;clear hSB hcc M2 hcx hsh';go_upto_region 22 with fail
 clear l0 l1 lm ltS;generalize hZ:World.setCell X20 _ _=Z;have HZ9:=SH.out.set 0 (.slice (some ⟨b0,o0,none⟩) n (m.ways.length+cw1));have qw:=BW.out.setCell (p:=⟨X16.heap.size,0,none⟩) szw.out (.slice (some ⟨b0,o0,none⟩) n (m.ways.length+cw1));have qX0:=B_X0.out.setCell (p:=⟨X16.heap.size,0,none⟩) szX0.out (.slice (some ⟨b0,o0,none⟩) n (m.ways.length+cw1));have qw44:=B_w44.out.setCell (p:=⟨X16.heap.size,0,none⟩) szw44.out (.slice (some ⟨b0,o0,none⟩) n (m.ways.length+cw1));have qw45:=B_w45.out.setCell (p:=⟨X16.heap.size,0,none⟩) szw45.out (.slice (some ⟨b0,o0,none⟩) n (m.ways.length+cw1));have qw46:=B_w46.out.setCell (p:=⟨X16.heap.size,0,none⟩) szw46.out (.slice (some ⟨b0,o0,none⟩) n (m.ways.length+cw1));have qX6:=B_X6.out.setCell (p:=⟨X16.heap.size,0,none⟩) szX6.out (.slice (some ⟨b0,o0,none⟩) n (m.ways.length+cw1));rw [hZ] at HZ9 qw qX0 qw44 qw45 qw46 qX6;clear hZ;simp only [zq4,zr4,zs4] at HZ9;replace BW:=qH qw;clear qw szw;replace B_X0:=qH qX0;clear qX0 szX0;replace B_w44:=qH qw44;clear qw44 szw44;replace B_w45:=qH qw45;clear qw45 szw45;replace B_w46:=qH qw46;clear qw46 szw46;replace B_X6:=qH qX6;clear qX6 szX6;replace SH:=qH HZ9;clear HZ9;obtain⟨i0,hi,hz0',hz1',hz2'⟩:=info_parts intInfo;replace hi:=qH hi;go_wp2;replace hi:=hi.out
 go_loopw [29,178] (fun v x wr=>∃ j:Nat,j<=L.length/\x=.int .i64 (j:Int)/\wr.ownsRow Z.heap.size 3 1 v (cutS (L.take j) n).length ((cutS (L.take j) n).map (Value.int .i64))/\Below Z.heap.size Z wr) (fun _ x _=>L.length-(intOf x).toNat)
 case atStart=>exact⟨0,by omega,rfl,by simpa [cutS] using World.ownsRow_nil _ _ _ _,Below.refl _ _⟩
 case round =>
  obtain⟨j,hj,rfl,hrow,hB⟩:=hrel;have hzB:=hB.size;by_cases hlq:j<L.length
  ·obtain⟨bl,ol,rfl,hbl,hcl⟩:=HCL.out.resolve_left (by intro h;rw [h] at hlq;simp at hlq)
   have f1:=((B_w45.out.trans (hB.mono B_w45.out.size)).cell (p:=⟨bl,ol+j,none⟩) hbl).trans (hcl j hlq);have dq:decide ((j:Int)<(L.length:Int))=true:=by simp;omega
   have hs:=qH (Z9Z hlq n);have hsl:=Z55 L n j;have hqi:(j:Int)<L.length:=by omega
   generalize L.getD j 0=s at *;have hZZ:=qH hB;clear hcl hB;by_cases hsn:s<(n:Int)
   ·rw [if_pos hsn] at hs
    have ds:decide (s<=(q:Int))=true:=zTq;have hrow':=hrow;clear hrow;go_wp2_with (at_builtin;refine wpList_append_own _ rfl _ _ 29 rfl Z.heap.size 3 i0 (.int .i64 0) 1 8 Tryz.underlying29 hi hz0' hz1' hz2' rfl (by decide) _ _ _ rfl (hrow'.alloc _) ⟨wr.heap.size,0,none⟩ 1 1 [.int .i64 s] rfl rfl (cell_one_new _ _ _) (by simp [Value.oneCell']) (by unfold maxLen;omega) (by omega) (by simp;omega) ?_;intro v' w1 hown' hgrow _)
    go_roundw
    case rel =>
     have hb0:Below Z.heap.size wr w1:=((Below.refl Z.heap.size wr).alloc (by omega) _).grown hgrow (by simp;omega) (fun j ej=>(hrow'.lt j ej).1)
     refine⟨j+1,by omega,by go_num,?_,hZZ.out.trans (hb0.mono (Nat.le_refl _))⟩
     rw [hs.out]
     simpa using hown'
    case measure=>simp [intOf];omega
   ·rw [if_neg hsn] at hs
    have ds:decide (s<=(q:Int))=false:=by rw [decide_eq_false_iff_not];omega
    have hrow':=qH hrow;clear hrow;go_wp2;go_roundw
    case rel=>exact⟨j+1,by omega,by go_num,by rw [hs.out];exact hrow'.out,hZZ.out⟩
    case measure=>simp [intOf];omega
  obtain rfl:j=L.length:=by omega
  rw [List.take_length] at hrow;have S0:=qH (Z8.own hrow (by have:=Z55 L n L.length;rw [List.take_length] at this;omega))
  have hdq:decide ((L.length:Int)<(L.length:Int))=false:=by simp
  clear hrow;replace BW:=zAf BW hB;replace B_X0:=zAf B_X0 hB;replace B_w44:=zAf B_w44 hB;replace B_w45:=zAf B_w45 hB;replace B_w46:=zAf B_w46 hB;replace B_X6:=zAf B_X6 hB;have B_Z:=qH hB;clear hB;obtain⟨-,s1,s2,hv,-⟩:=S0.out;subst hv;clear hi;obtain⟨xd0,xd1,xd2,xd3,xd4,xd5,xd6,xd7,xd8,xd9,xd10⟩:=Zg (m:=m) (zCl SH B_Z);have ltSH:=(zCl SH B_Z).lt;go_wp2_with fail;refine (fm2.out _ _ BW.out S0.out).mono ?_;rintro e w56 ⟨w1',w2',w3',rfl,p9,b56⟩;replace BW:=zAf BW b56;replace B_X0:=zAf B_X0 b56;replace B_w44:=zAf B_w44 b56;replace B_w45:=zAf B_w45 b56;replace B_w46:=zAf B_w46 b56;replace B_X6:=zAf B_X6 b56;replace B_Z:=zAf B_Z b56;have B_wr:=qH b56;clear b56 fm2;obtain⟨ha1,hn1,hc1,ha2,hn2,hc2,ha3,hn3,hc3,rfl,rfl,rfl⟩:=Z4p p9;clear p9 xd0 xd1 xd2 xd3 xd4 xd5 xd6 xd7 xd8 xd9 xd10 ltSH;go_upto_region 30 with fail
  generalize hXX29:qV w56 _=X29;obtain⟨-,hA,hzX29⟩:=box1 hXX29;clear hXX29;replace BW:=zAf BW hA;replace B_X0:=zAf B_X0 hA;replace B_w44:=zAf B_w44 hA;replace B_w45:=zAf B_w45 hA;replace B_w46:=zAf B_w46 hA;replace B_X6:=zAf B_X6 hA;replace B_Z:=zAf B_Z hA;replace B_wr:=zAf B_wr hA;clear hA hzX29 S0 SH B_Z B_wr;rcases HQ2.out with⟨rfl,rfl⟩ | ⟨rfl,rfl,rfl,hi,hbt⟩
  ·skip
   go_wp2;go_ret;exact⟨rfl,BW.out⟩
  ·skip
   have I1:=qH hi;clear hi;obtain⟨-,sa',sc',hv,-⟩:=I1.out;simp only [Value.slice.injEq] at hv;obtain⟨rfl,rfl,rfl⟩:=hv;obtain⟨c0,c1,c2,c3,c4,c5,c6,c7,c8,c9,c10⟩:=Zg (m:=m) (zCl MB B_X0);have hs:=(zCl SB B_X6);have s0':=hs.cell (i:=0) rfl;have s1':=hs.cell (i:=1) rfl;have s2':=hs.cell (i:=2) rfl;have s3':=hs.cell (i:=3) rfl;have s4':=hs.cell (i:=4) rfl;have s5':=hs.cell (i:=5) rfl;have g7:=br.out _ L (q:Int) K r ⟨x,y⟩ X29 BW.out ((I1.out.below B_w46.out).mono B_w46.out.size);rw [hbt,kpe.out] at g7;simp only at g7;replace g7:=qH g7;clear br hbt;go_wp2_with fail;refine (g7.out).mono ?_;rintro e w57 ⟨rfl,b57⟩;replace BW:=zAf BW b57;replace B_X0:=zAf B_X0 b57;replace B_w44:=zAf B_w44 b57;replace B_w45:=zAf B_w45 b57;replace B_w46:=zAf B_w46 b57;replace B_X6:=zAf B_X6 b57;clear b57 g7 c0 c1 c2 c3 c4 c5 c6 c7 c8 c9 c10 hs s0' s1' s2' s3' s4' s5';obtain⟨c0,c1,c2,c3,c4,c5,c6,c7,c8,c9,c10⟩:=Zg (m:=m) (zCl MB B_X0);have hs:=(zCl SB B_X6);have s0':=hs.cell (i:=0) rfl;have s1':=hs.cell (i:=1) rfl;have s2':=hs.cell (i:=2) rfl;have s3':=hs.cell (i:=3) rfl;have s4':=hs.cell (i:=4) rfl;have s5':=hs.cell (i:=5) rfl;have g8:=Z2l _ _ L L w57 ((I1.out.below B_w46.out).mono B_w46.out.size) ((PW.out.below B_w45.out).mono B_w45.out.size);rw [decide_eq_true (rfl:L=L)] at g8;go_wp2_with fail;refine (g8).mono ?_;rintro e w58 ⟨rfl,b58⟩;replace BW:=zAf BW b58;replace B_X0:=zAf B_X0 b58;replace B_w44:=zAf B_w44 b58;replace B_w45:=zAf B_w45 b58;replace B_w46:=zAf B_w46 b58;replace B_X6:=zAf B_X6 b58;clear b58 g8 c0 c1 c2 c3 c4 c5 c6 c7 c8 c9 c10 hs s0' s1' s2' s3' s4' s5';obtain⟨c0,c1,c2,c3,c4,c5,c6,c7,c8,c9,c10⟩:=Zg (m:=m) (zCl MB B_X0);have hs:=(zCl SB B_X6);have s0':=hs.cell (i:=0) rfl;have s1':=hs.cell (i:=1) rfl;have s2':=hs.cell (i:=2) rfl;have s3':=hs.cell (i:=3) rfl;have s4':=hs.cell (i:=4) rfl;have s5':=hs.cell (i:=5) rfl;clear c0 c1 c2 c3 c4 c5 c6 c7 c8 c9 c10 hs s0' s1' s2' s3' s4' s5';go_wp2;go_ret;exact⟨rfl,BW.out⟩
end Go.Proofs.YthipcinibldgnaaGreat.topRefused
