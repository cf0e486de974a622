/- head of layer 36's laws. -/
import Derived.Test.YtpimbaaahcemhaaGreatBin34
import Derived.Test.YtpimbaaahcemhaaGreatBin30
namespace Go.Proofs.YtpimbaaahcemhaaGreat
open Go.RowKit
attribute [local irreducible] wpQuiet
theorem exC_at {W:World} {b:Int} {p q:Nat} (h1:Has W p #[.int .i64 0,.int .i64 0,.int .i64 0,.int .i64 0,.int .i64 0,.int .i64 1000,.int .i64 0,.int .i64 0,.int .i64 0,.int .i64 0] 65) (h2:Has W q #[.int .i64 (-50),.int .i64 (-50),.int .i64 50,.int .i64 (-50),.int .i64 50,.int .i64 50,.int .i64 (-50),.int .i64 50] 58) :
  MsnAt W.heap.size W (exC b) (.slice (some ⟨p,0,none⟩) 2 2) (.slice (some ⟨q,0,none⟩) 4 4) (.slice none 0 0):=by
 refine⟨⟨by simp [exC],some ⟨p,0,none⟩,0,rfl,.inr ⟨p,0,rfl,h1.lt,fun j hj=>?_⟩⟩,PtsAt.has (l:=hm5) (cap:=0) h2 (by simp [hm5]) rfl,⟨by simp [exC],none,0,rfl,.inl rfl⟩⟩
 rcases (show j=0∨j=1 by simp [exC] at hj;omega) with rfl | rfl
 ·exact⟨h1.cell (i:=0) rfl,h1.cell (i:=1) rfl,h1.cell (i:=2) rfl,h1.cell (i:=3) rfl,h1.cell (i:=4) rfl⟩
 ·exact⟨h1.cell (i:=5) rfl,h1.cell (i:=6) rfl,h1.cell (i:=7) rfl,h1.cell (i:=8) rfl,h1.cell (i:=9) rfl⟩
theorem msn_bat {W:World} {n:Nat} {b b':Int} {vw vh vr:Value} (h:MsnAt n W (exC b) vw vh vr):MsnAt n W (exC b') vw vh vr:=h
set_option linter.unusedSimpArgs false in
set_option linter.unusedVariables false in
set_option maxRecDepth 8000 in
set_option maxHeartbeats 3200000 in
theorem example36_any (w:World):Calls Tryz.prog 24 #[] w fun e w'=>∃ a b,e=.returned (.agg (msnCells (exC 20) (.slice (some ⟨a,0,none⟩) 2 2) (.slice (some ⟨b,0,none⟩) 4 4) (.slice none 0 0)))∧MsnAt w'.heap.size w' (exC 20) (.slice (some ⟨a,0,none⟩) 2 2) (.slice (some ⟨b,0,none⟩) 4 4) (.slice none 0 0)∧Below w.heap.size w w':=by
 have BW:=Lib.hid (Below.refl w.heap.size w)
 go_enter Tryz.func24,Tryz.ntmps24
 go_upto_region 2 with fail
 generalize hXX0:World.alloc (World.alloc w _) _=X0
 obtain⟨q0,q1,hA,hzX0⟩:=box2 hXX0
 clear hXX0
 have BW:=Lib.hid hA
 clear hA
 have RV:=Lib.hid q0
 clear q0
 have HB:=Lib.hid q1
 clear q1
 clear hzX0
 have hR:=RV.out
 have ltR:=hR.lt
 have r0:=hR.cell (i:=0) rfl
 have z0:=cells_free hR 0
 have r1:=hR.cell (i:=1) rfl
 have z1:=cells_free hR 1
 have r2:=hR.cell (i:=2) rfl
 have z2:=cells_free hR 2
 have r3:=hR.cell (i:=3) rfl
 have z3:=cells_free hR 3
 have r4:=hR.cell (i:=4) rfl
 have z4:=cells_free hR 4
 have r5:=hR.cell (i:=5) rfl
 have z5:=cells_free hR 5
 have r6:=hR.cell (i:=6) rfl
 have z6:=cells_free hR 6
 have r7:=hR.cell (i:=7) rfl
 have z7:=cells_free hR 7
 have r8:=hR.cell (i:=8) rfl
 have z8:=cells_free hR 8
 have r9:=hR.cell (i:=9) rfl
 have z9:=cells_free hR 9
 have r10:=hR.cell (i:=10) rfl
 have z10:=cells_free hR 10
 have HR:=Lib.hid hR
 clear hR
 go_wp2
 clear r0 z0 r1 z1 r2 z2 r3 z3 r4 z4 r5 z5 r6 z6 r7 z7 r8 z8 r9 z9 r10 z10
 generalize hZ:World.setCell (World.setCell (World.setCell (World.setCell (World.setCell (World.setCell (World.setCell (World.setCell (World.setCell (World.setCell (World.setCell X0 _ _) _ _) _ _) _ _) _ _) _ _) _ _) _ _) _ _) _ _) _ _=Z
 obtain⟨HZ,hl2,hs2,he2⟩:=set11 HR.out rfl hZ
 clear hZ
 generalize hX9:World.alloc Z _=X
 obtain⟨q0,hA,-⟩:=box1 hX9
 clear hX9
 have ltZ:w.heap.size<Z.heap.size:=HZ.lt
 have hR:=HZ.below hA ltZ
 have hH:=(Has.eq HB.out he2 (by omega)).below hA (by rw [hs2];exact HB.out.lt)
 have BX:=BW.out.trans ((hl2 w.heap.size (Nat.le_refl _)).trans (hA.mono (by omega)))
 rw [hs2] at q0
 have hM:=exC_at (b:=20) q0 hH
 have r0:=hR.cell (i:=0) rfl
 have r1:=hR.cell (i:=1) rfl
 have r2:=hR.cell (i:=2) rfl
 have r3:=hR.cell (i:=3) rfl
 have r4:=hR.cell (i:=4) rfl
 have r5:=hR.cell (i:=5) rfl
 have r6:=hR.cell (i:=6) rfl
 have r7:=hR.cell (i:=7) rfl
 have r8:=hR.cell (i:=8) rfl
 have r9:=hR.cell (i:=9) rfl
 have r10:=hR.cell (i:=10) rfl
 exact bodyPost_ret (v:=.agg (msnCells (exC 20) _ _ _)) (by simp [results,msnCells,exC,Tryz.f24,go_sem,r0,r1,r2,r3,r4,r5,r6,r7,r8,r9,r10]) rfl ⟨_,_,rfl,hM,BX⟩
theorem ce36_at {W:World} {p q:Nat} {u:Value} (h1:Has W p #[u,.int .i64 10,.int .i64 10,.int .i64 10,.int .i64 10] 48) (h2:Has W q #[.int .i64 10] 3) (hu:PtsAt W.heap.size W u c36L):CrtAt W.heap.size W ce36 (.slice none 0 0) (.slice (some ⟨p,0,none⟩) 1 1) (.slice (some ⟨q,0,none⟩) 1 1):=by
 refine⟨IntsAt.nil _ _,⟨by simp [ce36],some ⟨p,0,none⟩,0,rfl,.inr ⟨p,0,rfl,h1.lt,fun j hj=>?_⟩⟩,?_⟩
 ·obtain rfl:j=0:=by simp [ce36] at hj;omega
  exact⟨u,h1.cell (i:=0) rfl,hu,h1.cell (i:=1) rfl,h1.cell (i:=2) rfl,h1.cell (i:=3) rfl,h1.cell (i:=4) rfl⟩
 ·refine⟨by simp [ce36],some ⟨q,0,none⟩,0,rfl,.inr ⟨q,0,rfl,h2.lt,fun j hj=>?_⟩⟩
  obtain rfl:j=0:=by simp [ce36] at hj;omega
  exact h2.cell (i:=0) rfl
theorem crt_sl {n:Nat} {W:World} {c:Crt} {v1 v2 v3:Value} (h:CrtAt n W c v1 v2 v3):∃ a1 n1 c1 a2 n2 c2 a3 n3 c3,v1=.slice a1 n1 c1∧v2=.slice a2 n2 c2∧v3=.slice a3 n3 c3:=by
 obtain⟨⟨-,a1,c1,h1,-⟩,⟨-,a2,c2,h2,-⟩,⟨-,a3,c3,h3,-⟩⟩:=h
 exact⟨_,_,_,_,_,_,_,_,_,h1,h2,h3⟩
theorem pts_sl {n:Nat} {W:World} {l:List Pt} {v:Value} (h:PtsAt n W v l):∃ a k c,v=.slice a k c:=by
 obtain⟨-,a1,c1,h1,-⟩:=h
 exact⟨_,_,_,h1⟩
theorem int1_at {W:World} {B:Nat} {x:Int} {T:TypeId} (h:Has W B #[.int .i64 x] T):IntsAt W.heap.size W (.slice (some ⟨B,0,none⟩) 1 1) [x]:=by
 refine⟨by simp,some ⟨B,0,none⟩,0,rfl,.inr ⟨B,0,rfl,h.lt,fun j hj=>?_⟩⟩
 obtain rfl:j=0:=by simp at hj;omega
 exact h.cell (i:=0) rfl
theorem pt1_at {W:World} {B:Nat} {x y:Int} (h:Has W B #[.int .i64 x,.int .i64 y] 58):PtsAt W.heap.size W (.slice (some ⟨B,0,none⟩) 1 1) [⟨x,y⟩]:=PtsAt.has (l:=[⟨x,y⟩]) (cap:=0) h (by simp) rfl
theorem mk36 {b:Int} (hb:20≤b∧b≤1000000000):mkE (exC b) []=0:=(exC_mkE ⟨by omega,hb.2⟩).trans (if_neg (by omega))
theorem mk36p:mkE (exC 19) []=51∧mkC (exC 19) []=⟨[],[],[]⟩:=by
 have h:mkE (exC 19) []=51:=(exC_mkE (by decide)).trans (if_pos (by decide))
 exact⟨h,by unfold mkC;rw [h];rfl⟩
theorem mk36s:mkE (exC 20) [1]=1∧mkC (exC 20) [1]=⟨[],[],[]⟩:=by
 have h:mkE (exC 20) [1]=1:=by unfold mkE;rw [exC_no];rfl
 exact⟨h,by unfold mkC;rw [h];rfl⟩
set_option linter.unusedSimpArgs false in
set_option linter.unusedVariables false in
set_option maxRecDepth 8000 in
set_option maxHeartbeats 6400000 in
theorem head36_any (w:World):Calls Tryz.prog 7 #[] w fun e w'=>e=.returned (.bool true)∧Below w.heap.size w w':=by
 have fx:=Lib.hid (fun w1=>example36_any w1)
 have f4:=fun w1=>corridor_any ⟨0,0⟩ ⟨1000,0⟩ 10 10 w1
 rw [c36_cor.1,c36_cor.2] at f4
 replace f4:=Lib.hid f4
 have BW:=Lib.hid (Below.refl w.heap.size w)
 go_enter Tryz.func7,Tryz.ntmps7
 go_wp2_with fail
 refine (fx.out w).mono ?_
 rintro e w1 ⟨a,b,rfl,hM,b1⟩
 have BW:=Lib.hid b1
 clear b1
 have MM:=Lib.hid hM
 clear hM
 simp only [msnCells,exC]
 go_upto_region 2 with fail
 generalize hXX1:World.alloc w1 _=X1
 obtain⟨q0,hA,hzX1⟩:=box1 hXX1
 clear hXX1
 replace BW:=Lib.hid (BW.out.trans (hA.mono BW.out.size))
 have B_w1:=Lib.hid hA
 clear hA
 have MB:=Lib.hid q0
 clear q0
 clear hzX1
 obtain⟨c0,c1,c2,c3,c4,c5,c6,c7,c8,c9,c10⟩:=msn_cells (m:=exC 20) MB.out
 have ltMB:=MB.out.lt
 go_wp2_with fail
 have g1:=make_any (exC 20) _ _ _ (.slice none 0 0) [] X1 ((MM.out.below B_w1.out).mono B_w1.out.size) (IntsAt.nil _ _) (by simp)
 rw [mk36 (b:=20) (by decide)] at g1
 rw [exC_mkC (b:=20) (by decide)] at g1
 refine (g1).mono ?_
 rintro e w2 ⟨v1,v2,v3,rfl,p1,b2⟩
 replace BW:=Lib.hid (BW.out.trans (b2.mono BW.out.size))
 replace B_w1:=Lib.hid (B_w1.out.trans (b2.mono B_w1.out.size))
 have B_X1:=Lib.hid b2
 clear b2
 have CC:=Lib.hid p1
 clear p1
 obtain⟨ca1,cn1,cc1,ca2,cn2,cc2,ca3,cn3,cc3,rfl,rfl,rfl⟩:=crt_sl CC.out
 clear c0 c1 c2 c3 c4 c5 c6 c7 c8 c9 c10 ltMB
 obtain⟨c0,c1,c2,c3,c4,c5,c6,c7,c8,c9,c10⟩:=msn_cells (m:=exC 20) (MB.out.below B_X1.out MB.out.lt)
 have ltMB:=(MB.out.below B_X1.out MB.out.lt).lt
 clear g1
 go_upto_region 3 with fail
 generalize hXX2:World.alloc w2 _=X2
 obtain⟨q0,hA,hzX2⟩:=box1 hXX2
 clear hXX2
 replace BW:=Lib.hid (BW.out.trans (hA.mono BW.out.size))
 replace B_w1:=Lib.hid (B_w1.out.trans (hA.mono B_w1.out.size))
 replace B_X1:=Lib.hid (B_X1.out.trans (hA.mono B_X1.out.size))
 have B_w2:=Lib.hid hA
 clear hA
 have CB:=Lib.hid q0
 clear q0
 clear hzX2
 clear c0 c1 c2 c3 c4 c5 c6 c7 c8 c9 c10 ltMB
 obtain⟨c0,c1,c2,c3,c4,c5,c6,c7,c8,c9,c10⟩:=msn_cells (m:=exC 20) (MB.out.below B_X1.out MB.out.lt)
 have ltMB:=(MB.out.below B_X1.out MB.out.lt).lt
 have hk:=CB.out
 have k0':=hk.cell (i:=0) rfl
 have k1':=hk.cell (i:=1) rfl
 have k2':=hk.cell (i:=2) rfl
 go_wp2_with fail
 have g2:=check_any (exC 20) _ _ _ ce36 _ _ _ X2 ((MM.out.below B_w1.out).mono B_w1.out.size) ((CC.out.below B_w2.out).mono B_w2.out.size)
 rw [(exC_check (b:=20) (by decide)).1] at g2
 rw [(exC_check (b:=20) (by decide)).2] at g2
 rw [show decide ((20:Int)≤20)=true from by decide] at g2
 refine (g2).mono ?_
 rintro e w3 ⟨rfl,b3⟩
 replace BW:=Lib.hid (BW.out.trans (b3.mono BW.out.size))
 replace B_w1:=Lib.hid (B_w1.out.trans (b3.mono B_w1.out.size))
 replace B_X1:=Lib.hid (B_X1.out.trans (b3.mono B_X1.out.size))
 replace B_w2:=Lib.hid (B_w2.out.trans (b3.mono B_w2.out.size))
 have B_X2:=Lib.hid b3
 clear b3
 clear c0 c1 c2 c3 c4 c5 c6 c7 c8 c9 c10 ltMB hk k0' k1' k2'
 obtain⟨c0,c1,c2,c3,c4,c5,c6,c7,c8,c9,c10⟩:=msn_cells (m:=exC 20) (MB.out.below B_X1.out MB.out.lt)
 have ltMB:=(MB.out.below B_X1.out MB.out.lt).lt
 have hk:=(CB.out.below B_X2.out CB.out.lt)
 have k0':=hk.cell (i:=0) rfl
 have k1':=hk.cell (i:=1) rfl
 have k2':=hk.cell (i:=2) rfl
 clear g2
 go_wp2_with fail
 have g3:=f4.out w3
 refine (g3).mono ?_
 rintro e w4 ⟨u1,rfl,p2,b4⟩
 replace BW:=Lib.hid (BW.out.trans (b4.mono BW.out.size))
 replace B_w1:=Lib.hid (B_w1.out.trans (b4.mono B_w1.out.size))
 replace B_X1:=Lib.hid (B_X1.out.trans (b4.mono B_X1.out.size))
 replace B_w2:=Lib.hid (B_w2.out.trans (b4.mono B_w2.out.size))
 replace B_X2:=Lib.hid (B_X2.out.trans (b4.mono B_X2.out.size))
 clear b4
 have PU:=Lib.hid p2
 clear p2
 obtain⟨ua,un,uc,rfl⟩:=pts_sl PU.out
 clear c0 c1 c2 c3 c4 c5 c6 c7 c8 c9 c10 ltMB hk k0' k1' k2'
 obtain⟨c0,c1,c2,c3,c4,c5,c6,c7,c8,c9,c10⟩:=msn_cells (m:=exC 20) (MB.out.below B_X1.out MB.out.lt)
 have ltMB:=(MB.out.below B_X1.out MB.out.lt).lt
 have hk:=(CB.out.below B_X2.out CB.out.lt)
 have k0':=hk.cell (i:=0) rfl
 have k1':=hk.cell (i:=1) rfl
 have k2':=hk.cell (i:=2) rfl
 clear g3
 go_upto_region 6 with fail
 generalize hXX5:World.alloc (World.alloc (World.alloc w4 _) _) _=X5
 obtain⟨q0,q1,q2,hA,hzX5⟩:=box3 hXX5
 clear hXX5
 replace BW:=Lib.hid (BW.out.trans (hA.mono BW.out.size))
 replace B_w1:=Lib.hid (B_w1.out.trans (hA.mono B_w1.out.size))
 replace B_X1:=Lib.hid (B_X1.out.trans (hA.mono B_X1.out.size))
 replace B_w2:=Lib.hid (B_w2.out.trans (hA.mono B_w2.out.size))
 replace B_X2:=Lib.hid (B_X2.out.trans (hA.mono B_X2.out.size))
 have B_w4:=Lib.hid hA
 clear hA
 have WP:=Lib.hid q0
 clear q0
 have WR:=Lib.hid q1
 clear q1
 have WB:=Lib.hid q2
 clear q2
 clear c0 c1 c2 c3 c4 c5 c6 c7 c8 c9 c10 ltMB hk k0' k1' k2'
 obtain⟨c0,c1,c2,c3,c4,c5,c6,c7,c8,c9,c10⟩:=msn_cells (m:=exC 20) (MB.out.below B_X1.out MB.out.lt)
 have ltMB:=(MB.out.below B_X1.out MB.out.lt).lt
 have hk:=(CB.out.below B_X2.out CB.out.lt)
 have k0':=hk.cell (i:=0) rfl
 have k1':=hk.cell (i:=1) rfl
 have k2':=hk.cell (i:=2) rfl
 clear hzX5
 go_wp2_with fail
 generalize hXX6:World.alloc (World.alloc (World.alloc X5 _) _) _=X6
 obtain⟨q0,q1,q2,hA,hzX6⟩:=box3 hXX6
 clear hXX6
 replace BW:=Lib.hid (BW.out.trans (hA.mono BW.out.size))
 replace B_w1:=Lib.hid (B_w1.out.trans (hA.mono B_w1.out.size))
 replace B_X1:=Lib.hid (B_X1.out.trans (hA.mono B_X1.out.size))
 replace B_w2:=Lib.hid (B_w2.out.trans (hA.mono B_w2.out.size))
 replace B_X2:=Lib.hid (B_X2.out.trans (hA.mono B_X2.out.size))
 replace B_w4:=Lib.hid (B_w4.out.trans (hA.mono B_w4.out.size))
 have B_X5:=Lib.hid hA
 clear hA
 have L1:=Lib.hid q0
 clear q0
 have L2:=Lib.hid q1
 clear q1
 have LL:=Lib.hid q2
 clear q2
 clear c0 c1 c2 c3 c4 c5 c6 c7 c8 c9 c10 ltMB hk k0' k1' k2'
 obtain⟨c0,c1,c2,c3,c4,c5,c6,c7,c8,c9,c10⟩:=msn_cells (m:=exC 20) (MB.out.below B_X1.out MB.out.lt)
 have ltMB:=(MB.out.below B_X1.out MB.out.lt).lt
 have hk:=(CB.out.below B_X2.out CB.out.lt)
 have k0':=hk.cell (i:=0) rfl
 have k1':=hk.cell (i:=1) rfl
 have k2':=hk.cell (i:=2) rfl
 clear hzX6
 have g4:=covers_any ce36 _ _ _ _ 0 [[⟨500,10⟩],[⟨0,0⟩]] X6 ((CC.out.below B_w2.out).mono B_w2.out.size) (RocksAt.has (ls:=[[⟨500,10⟩],[⟨0,0⟩]]) (cap:=0) LL.out (by simp) fun j hj=>by rcases (show j=0∨j=1 by simp at hj;omega) with rfl | rfl;exact⟨_,rfl,pt1_at L1.out⟩;exact⟨_,rfl,pt1_at L2.out⟩)
 rw [exC_in.1] at g4
 rw [exC_in.2] at g4
 refine (g4).mono ?_
 rintro e w5 ⟨rfl,b5⟩
 replace BW:=Lib.hid (BW.out.trans (b5.mono BW.out.size))
 replace B_w1:=Lib.hid (B_w1.out.trans (b5.mono B_w1.out.size))
 replace B_X1:=Lib.hid (B_X1.out.trans (b5.mono B_X1.out.size))
 replace B_w2:=Lib.hid (B_w2.out.trans (b5.mono B_w2.out.size))
 replace B_X2:=Lib.hid (B_X2.out.trans (b5.mono B_X2.out.size))
 replace B_w4:=Lib.hid (B_w4.out.trans (b5.mono B_w4.out.size))
 replace B_X5:=Lib.hid (B_X5.out.trans (b5.mono B_X5.out.size))
 have B_X6:=Lib.hid b5
 clear b5
 clear c0 c1 c2 c3 c4 c5 c6 c7 c8 c9 c10 ltMB hk k0' k1' k2'
 obtain⟨c0,c1,c2,c3,c4,c5,c6,c7,c8,c9,c10⟩:=msn_cells (m:=exC 20) (MB.out.below B_X1.out MB.out.lt)
 have ltMB:=(MB.out.below B_X1.out MB.out.lt).lt
 have hk:=(CB.out.below B_X2.out CB.out.lt)
 have k0':=hk.cell (i:=0) rfl
 have k1':=hk.cell (i:=1) rfl
 have k2':=hk.cell (i:=2) rfl
 clear g4
 go_wp2_with fail
 generalize hXX7:World.alloc (World.alloc w5 _) _=X7
 obtain⟨q0,q1,hA,hzX7⟩:=box2 hXX7
 clear hXX7
 replace BW:=Lib.hid (BW.out.trans (hA.mono BW.out.size))
 replace B_w1:=Lib.hid (B_w1.out.trans (hA.mono B_w1.out.size))
 replace B_X1:=Lib.hid (B_X1.out.trans (hA.mono B_X1.out.size))
 replace B_w2:=Lib.hid (B_w2.out.trans (hA.mono B_w2.out.size))
 replace B_X2:=Lib.hid (B_X2.out.trans (hA.mono B_X2.out.size))
 replace B_w4:=Lib.hid (B_w4.out.trans (hA.mono B_w4.out.size))
 replace B_X5:=Lib.hid (B_X5.out.trans (hA.mono B_X5.out.size))
 replace B_X6:=Lib.hid (B_X6.out.trans (hA.mono B_X6.out.size))
 clear hA
 have L3:=Lib.hid q0
 clear q0
 have L4:=Lib.hid q1
 clear q1
 clear c0 c1 c2 c3 c4 c5 c6 c7 c8 c9 c10 ltMB hk k0' k1' k2'
 obtain⟨c0,c1,c2,c3,c4,c5,c6,c7,c8,c9,c10⟩:=msn_cells (m:=exC 20) (MB.out.below B_X1.out MB.out.lt)
 have ltMB:=(MB.out.below B_X1.out MB.out.lt).lt
 have hk:=(CB.out.below B_X2.out CB.out.lt)
 have k0':=hk.cell (i:=0) rfl
 have k1':=hk.cell (i:=1) rfl
 have k2':=hk.cell (i:=2) rfl
 clear hzX7
 have g5:=covers_any ce36 _ _ _ _ 0 [[⟨500,11⟩]] X7 ((CC.out.below B_w2.out).mono B_w2.out.size) (RocksAt.has (ls:=[[⟨500,11⟩]]) (cap:=0) L4.out (by simp) fun j hj=>by obtain rfl:j=0:=(by simp at hj;omega);exact⟨_,rfl,pt1_at L3.out⟩)
 rw [exC_out.1] at g5
 rw [exC_out.2] at g5
 refine (g5).mono ?_
 rintro e w6 ⟨rfl,b6⟩
 replace BW:=Lib.hid (BW.out.trans (b6.mono BW.out.size))
 replace B_w1:=Lib.hid (B_w1.out.trans (b6.mono B_w1.out.size))
 replace B_X1:=Lib.hid (B_X1.out.trans (b6.mono B_X1.out.size))
 replace B_w2:=Lib.hid (B_w2.out.trans (b6.mono B_w2.out.size))
 replace B_X2:=Lib.hid (B_X2.out.trans (b6.mono B_X2.out.size))
 replace B_w4:=Lib.hid (B_w4.out.trans (b6.mono B_w4.out.size))
 replace B_X5:=Lib.hid (B_X5.out.trans (b6.mono B_X5.out.size))
 replace B_X6:=Lib.hid (B_X6.out.trans (b6.mono B_X6.out.size))
 have B_X7:=Lib.hid b6
 clear b6
 clear c0 c1 c2 c3 c4 c5 c6 c7 c8 c9 c10 ltMB hk k0' k1' k2'
 obtain⟨c0,c1,c2,c3,c4,c5,c6,c7,c8,c9,c10⟩:=msn_cells (m:=exC 20) (MB.out.below B_X1.out MB.out.lt)
 have ltMB:=(MB.out.below B_X1.out MB.out.lt).lt
 have hk:=(CB.out.below B_X2.out CB.out.lt)
 have k0':=hk.cell (i:=0) rfl
 have k1':=hk.cell (i:=1) rfl
 have k2':=hk.cell (i:=2) rfl
 clear g5
 have szw:=Lib.hid (show w.heap.size≤w6.heap.size from BW.out.size)
 have szw1:=Lib.hid (show w1.heap.size≤w6.heap.size from B_w1.out.size)
 have szX1:=Lib.hid (show X1.heap.size≤w6.heap.size from B_X1.out.size)
 have szw2:=Lib.hid (show w2.heap.size≤w6.heap.size from B_w2.out.size)
 have szX2:=Lib.hid (show X2.heap.size≤w6.heap.size from B_X2.out.size)
 have szw4:=Lib.hid (show w4.heap.size≤w6.heap.size from B_w4.out.size)
 have szX5:=Lib.hid (show X5.heap.size≤w6.heap.size from B_X5.out.size)
 have szX6:=Lib.hid (show X6.heap.size≤w6.heap.size from B_X6.out.size)
 have szX7:=Lib.hid (show X7.heap.size≤w6.heap.size from B_X7.out.size)
 go_upto_region 9 with fail
 generalize hXX8:World.alloc w6 _=X8
 obtain⟨q0,hA,hzX8⟩:=box1 hXX8
 clear hXX8
 replace BW:=Lib.hid (BW.out.trans (hA.mono BW.out.size))
 replace B_w1:=Lib.hid (B_w1.out.trans (hA.mono B_w1.out.size))
 replace B_X1:=Lib.hid (B_X1.out.trans (hA.mono B_X1.out.size))
 replace B_w2:=Lib.hid (B_w2.out.trans (hA.mono B_w2.out.size))
 replace B_X2:=Lib.hid (B_X2.out.trans (hA.mono B_X2.out.size))
 replace B_w4:=Lib.hid (B_w4.out.trans (hA.mono B_w4.out.size))
 replace B_X5:=Lib.hid (B_X5.out.trans (hA.mono B_X5.out.size))
 replace B_X6:=Lib.hid (B_X6.out.trans (hA.mono B_X6.out.size))
 replace B_X7:=Lib.hid (B_X7.out.trans (hA.mono B_X7.out.size))
 clear hA
 have NB:=Lib.hid q0
 clear q0
 clear hzX8
 clear c0 c1 c2 c3 c4 c5 c6 c7 c8 c9 c10 ltMB hk k0' k1' k2'
 have hNB:=NB.out
 have l9:=hNB.cell (i:=9) rfl
 have f9:=cells_free hNB 9
 have ltN:=hNB.lt
 have hx:=BW.out.size
 have HNB:=Lib.hid hNB
 clear hNB
 go_upto_region 10 with fail
 clear l9 f9
 generalize hZ:World.setCell X8 _ _=Z
 have HZ:=HNB.out.set 9 (.int .i64 19)
 have qw:=BW.out.setCell (p:=⟨w6.heap.size,9,none⟩) szw.out (.int .i64 19)
 have qw1:=B_w1.out.setCell (p:=⟨w6.heap.size,9,none⟩) szw1.out (.int .i64 19)
 have qX1:=B_X1.out.setCell (p:=⟨w6.heap.size,9,none⟩) szX1.out (.int .i64 19)
 have qw2:=B_w2.out.setCell (p:=⟨w6.heap.size,9,none⟩) szw2.out (.int .i64 19)
 have qX2:=B_X2.out.setCell (p:=⟨w6.heap.size,9,none⟩) szX2.out (.int .i64 19)
 have qw4:=B_w4.out.setCell (p:=⟨w6.heap.size,9,none⟩) szw4.out (.int .i64 19)
 have qX5:=B_X5.out.setCell (p:=⟨w6.heap.size,9,none⟩) szX5.out (.int .i64 19)
 have qX6:=B_X6.out.setCell (p:=⟨w6.heap.size,9,none⟩) szX6.out (.int .i64 19)
 have qX7:=B_X7.out.setCell (p:=⟨w6.heap.size,9,none⟩) szX7.out (.int .i64 19)
 rw [hZ] at HZ qw qw1 qX1 qw2 qX2 qw4 qX5 qX6 qX7
 clear hZ
 simp only [List.setIfInBounds_toArray,List.set_cons_zero,List.set_cons_succ] at HZ
 replace BW:=Lib.hid qw
 replace B_w1:=Lib.hid qw1
 replace B_X1:=Lib.hid qX1
 replace B_w2:=Lib.hid qw2
 replace B_X2:=Lib.hid qX2
 replace B_w4:=Lib.hid qw4
 replace B_X5:=Lib.hid qX5
 replace B_X6:=Lib.hid qX6
 replace B_X7:=Lib.hid qX7
 replace NB:=Lib.hid HZ
 clear HNB HZ qw qw1 qX1 qw2 qX2 qw4 qX5 qX6 qX7
 obtain⟨c0,c1,c2,c3,c4,c5,c6,c7,c8,c9,c10⟩:=msn_cells (m:=exC 19) NB.out
 have ltNB:=NB.out.lt
 have MN:=Lib.hid (msn_bat (b':=19) ((MM.out.below B_w1.out).mono B_w1.out.size))
 go_wp2_with fail
 have g6:=make_any (exC 19) _ _ _ (.slice none 0 0) [] Z MN.out (IntsAt.nil _ _) (by simp)
 rw [mk36p.1] at g6
 rw [mk36p.2] at g6
 refine (g6).mono ?_
 rintro e w7 ⟨v1,v2,v3,rfl,p1,b7⟩
 replace BW:=Lib.hid (BW.out.trans (b7.mono BW.out.size))
 replace B_w1:=Lib.hid (B_w1.out.trans (b7.mono B_w1.out.size))
 replace B_X1:=Lib.hid (B_X1.out.trans (b7.mono B_X1.out.size))
 replace B_w2:=Lib.hid (B_w2.out.trans (b7.mono B_w2.out.size))
 replace B_X2:=Lib.hid (B_X2.out.trans (b7.mono B_X2.out.size))
 replace B_w4:=Lib.hid (B_w4.out.trans (b7.mono B_w4.out.size))
 replace B_X5:=Lib.hid (B_X5.out.trans (b7.mono B_X5.out.size))
 replace B_X6:=Lib.hid (B_X6.out.trans (b7.mono B_X6.out.size))
 replace B_X7:=Lib.hid (B_X7.out.trans (b7.mono B_X7.out.size))
 have B_Z:=Lib.hid b7
 clear b7
 obtain⟨da1,dn1,dc1,da2,dn2,dc2,da3,dn3,dc3,rfl,rfl,rfl⟩:=crt_sl p1
 clear p1
 clear c0 c1 c2 c3 c4 c5 c6 c7 c8 c9 c10 ltNB
 obtain⟨c0,c1,c2,c3,c4,c5,c6,c7,c8,c9,c10⟩:=msn_cells (m:=exC 19) (NB.out.below B_Z.out NB.out.lt)
 have ltNB:=(NB.out.below B_Z.out NB.out.lt).lt
 clear g6
 go_upto_region 11 with fail
 generalize hXX10:World.alloc w7 _=X10
 obtain⟨-,hA,hzX10⟩:=box1 hXX10
 clear hXX10
 replace BW:=Lib.hid (BW.out.trans (hA.mono BW.out.size))
 replace B_w1:=Lib.hid (B_w1.out.trans (hA.mono B_w1.out.size))
 replace B_X1:=Lib.hid (B_X1.out.trans (hA.mono B_X1.out.size))
 replace B_w2:=Lib.hid (B_w2.out.trans (hA.mono B_w2.out.size))
 replace B_X2:=Lib.hid (B_X2.out.trans (hA.mono B_X2.out.size))
 replace B_w4:=Lib.hid (B_w4.out.trans (hA.mono B_w4.out.size))
 replace B_X5:=Lib.hid (B_X5.out.trans (hA.mono B_X5.out.size))
 replace B_X6:=Lib.hid (B_X6.out.trans (hA.mono B_X6.out.size))
 replace B_X7:=Lib.hid (B_X7.out.trans (hA.mono B_X7.out.size))
 replace B_Z:=Lib.hid (B_Z.out.trans (hA.mono B_Z.out.size))
 clear hA
 clear hzX10
 clear c0 c1 c2 c3 c4 c5 c6 c7 c8 c9 c10 ltNB
 obtain⟨c0,c1,c2,c3,c4,c5,c6,c7,c8,c9,c10⟩:=msn_cells (m:=exC 19) (NB.out.below B_Z.out NB.out.lt)
 have ltNB:=(NB.out.below B_Z.out NB.out.lt).lt
 have hk:=(CB.out.below B_X2.out CB.out.lt)
 have k0':=hk.cell (i:=0) rfl
 have k1':=hk.cell (i:=1) rfl
 have k2':=hk.cell (i:=2) rfl
 go_wp2_with fail
 have g7:=check_any (exC 19) _ _ _ ce36 _ _ _ X10 ((MN.out.below B_Z.out).mono B_Z.out.size) ((CC.out.below B_w2.out).mono B_w2.out.size)
 rw [(exC_check (b:=19) (by decide)).1] at g7
 rw [(exC_check (b:=19) (by decide)).2] at g7
 rw [show decide ((20:Int)≤19)=false from by decide] at g7
 refine (g7).mono ?_
 rintro e w8 ⟨rfl,b8⟩
 replace BW:=Lib.hid (BW.out.trans (b8.mono BW.out.size))
 replace B_w1:=Lib.hid (B_w1.out.trans (b8.mono B_w1.out.size))
 replace B_X1:=Lib.hid (B_X1.out.trans (b8.mono B_X1.out.size))
 replace B_w2:=Lib.hid (B_w2.out.trans (b8.mono B_w2.out.size))
 replace B_X2:=Lib.hid (B_X2.out.trans (b8.mono B_X2.out.size))
 replace B_w4:=Lib.hid (B_w4.out.trans (b8.mono B_w4.out.size))
 replace B_X5:=Lib.hid (B_X5.out.trans (b8.mono B_X5.out.size))
 replace B_X6:=Lib.hid (B_X6.out.trans (b8.mono B_X6.out.size))
 replace B_X7:=Lib.hid (B_X7.out.trans (b8.mono B_X7.out.size))
 replace B_Z:=Lib.hid (B_Z.out.trans (b8.mono B_Z.out.size))
 clear b8
 clear c0 c1 c2 c3 c4 c5 c6 c7 c8 c9 c10 ltNB hk k0' k1' k2'
 obtain⟨c0,c1,c2,c3,c4,c5,c6,c7,c8,c9,c10⟩:=msn_cells (m:=exC 19) (NB.out.below B_Z.out NB.out.lt)
 have ltNB:=(NB.out.below B_Z.out NB.out.lt).lt
 have hk:=(CB.out.below B_X2.out CB.out.lt)
 have k0':=hk.cell (i:=0) rfl
 have k1':=hk.cell (i:=1) rfl
 have k2':=hk.cell (i:=2) rfl
 clear g7
 clear c0 c1 c2 c3 c4 c5 c6 c7 c8 c9 c10 ltNB hk k0' k1' k2'
 obtain⟨c0,c1,c2,c3,c4,c5,c6,c7,c8,c9,c10⟩:=msn_cells (m:=exC 20) (MB.out.below B_X1.out MB.out.lt)
 have ltMB:=(MB.out.below B_X1.out MB.out.lt).lt
 go_wp2_with fail
 generalize hXX12:World.alloc w8 _=X12
 obtain⟨q0,hA,hzX12⟩:=box1 hXX12
 clear hXX12
 replace BW:=Lib.hid (BW.out.trans (hA.mono BW.out.size))
 replace B_w1:=Lib.hid (B_w1.out.trans (hA.mono B_w1.out.size))
 replace B_X1:=Lib.hid (B_X1.out.trans (hA.mono B_X1.out.size))
 replace B_w2:=Lib.hid (B_w2.out.trans (hA.mono B_w2.out.size))
 replace B_X2:=Lib.hid (B_X2.out.trans (hA.mono B_X2.out.size))
 replace B_w4:=Lib.hid (B_w4.out.trans (hA.mono B_w4.out.size))
 replace B_X5:=Lib.hid (B_X5.out.trans (hA.mono B_X5.out.size))
 replace B_X6:=Lib.hid (B_X6.out.trans (hA.mono B_X6.out.size))
 replace B_X7:=Lib.hid (B_X7.out.trans (hA.mono B_X7.out.size))
 replace B_Z:=Lib.hid (B_Z.out.trans (hA.mono B_Z.out.size))
 clear hA
 have S1:=Lib.hid q0
 clear q0
 clear c0 c1 c2 c3 c4 c5 c6 c7 c8 c9 c10 ltMB
 obtain⟨c0,c1,c2,c3,c4,c5,c6,c7,c8,c9,c10⟩:=msn_cells (m:=exC 20) (MB.out.below B_X1.out MB.out.lt)
 have ltMB:=(MB.out.below B_X1.out MB.out.lt).lt
 clear hzX12
 have g8:=make_any (exC 20) _ _ _ _ [1] X12 ((MM.out.below B_w1.out).mono B_w1.out.size) (int1_at S1.out) (by simp)
 rw [mk36s.1] at g8
 rw [mk36s.2] at g8
 refine (g8).mono ?_
 rintro e w9 ⟨v1,v2,v3,rfl,p1,b9⟩
 replace BW:=Lib.hid (BW.out.trans (b9.mono BW.out.size))
 replace B_w1:=Lib.hid (B_w1.out.trans (b9.mono B_w1.out.size))
 replace B_X1:=Lib.hid (B_X1.out.trans (b9.mono B_X1.out.size))
 replace B_w2:=Lib.hid (B_w2.out.trans (b9.mono B_w2.out.size))
 replace B_X2:=Lib.hid (B_X2.out.trans (b9.mono B_X2.out.size))
 replace B_w4:=Lib.hid (B_w4.out.trans (b9.mono B_w4.out.size))
 replace B_X5:=Lib.hid (B_X5.out.trans (b9.mono B_X5.out.size))
 replace B_X6:=Lib.hid (B_X6.out.trans (b9.mono B_X6.out.size))
 replace B_X7:=Lib.hid (B_X7.out.trans (b9.mono B_X7.out.size))
 replace B_Z:=Lib.hid (B_Z.out.trans (b9.mono B_Z.out.size))
 have B_X12:=Lib.hid b9
 clear b9
 obtain⟨ea1,en1,ec1,ea2,en2,ec2,ea3,en3,ec3,rfl,rfl,rfl⟩:=crt_sl p1
 clear p1
 clear c0 c1 c2 c3 c4 c5 c6 c7 c8 c9 c10 ltMB
 obtain⟨c0,c1,c2,c3,c4,c5,c6,c7,c8,c9,c10⟩:=msn_cells (m:=exC 20) (MB.out.below B_X1.out MB.out.lt)
 have ltMB:=(MB.out.below B_X1.out MB.out.lt).lt
 clear g8
 go_upto_region 14 with fail
 generalize hXX13:World.alloc w9 _=X13
 obtain⟨-,hA,hzX13⟩:=box1 hXX13
 clear hXX13
 replace BW:=Lib.hid (BW.out.trans (hA.mono BW.out.size))
 replace B_w1:=Lib.hid (B_w1.out.trans (hA.mono B_w1.out.size))
 replace B_X1:=Lib.hid (B_X1.out.trans (hA.mono B_X1.out.size))
 replace B_w2:=Lib.hid (B_w2.out.trans (hA.mono B_w2.out.size))
 replace B_X2:=Lib.hid (B_X2.out.trans (hA.mono B_X2.out.size))
 replace B_w4:=Lib.hid (B_w4.out.trans (hA.mono B_w4.out.size))
 replace B_X5:=Lib.hid (B_X5.out.trans (hA.mono B_X5.out.size))
 replace B_X6:=Lib.hid (B_X6.out.trans (hA.mono B_X6.out.size))
 replace B_X7:=Lib.hid (B_X7.out.trans (hA.mono B_X7.out.size))
 replace B_Z:=Lib.hid (B_Z.out.trans (hA.mono B_Z.out.size))
 replace B_X12:=Lib.hid (B_X12.out.trans (hA.mono B_X12.out.size))
 clear hA
 clear hzX13
 clear c0 c1 c2 c3 c4 c5 c6 c7 c8 c9 c10 ltMB
 have hk:=(CB.out.below B_X2.out CB.out.lt)
 have k0':=hk.cell (i:=0) rfl
 have k1':=hk.cell (i:=1) rfl
 have k2':=hk.cell (i:=2) rfl
 have hj:=(WB.out.below B_X5.out WB.out.lt)
 have j0':=hj.cell (i:=0) rfl
 have j1':=hj.cell (i:=1) rfl
 have j2':=hj.cell (i:=2) rfl
 go_wp2_with fail
 have g9:=csame_any ce36 _ _ _ _ _ _ X13 ((CC.out.below B_w2.out).mono B_w2.out.size) (ce36_at (WP.out.below B_X5.out WP.out.lt) (WR.out.below B_X5.out WR.out.lt) ((PU.out.below B_w4.out).mono B_w4.out.size))
 refine (g9).mono ?_
 rintro e w10 ⟨rfl,b10⟩
 replace BW:=Lib.hid (BW.out.trans (b10.mono BW.out.size))
 replace B_w1:=Lib.hid (B_w1.out.trans (b10.mono B_w1.out.size))
 replace B_X1:=Lib.hid (B_X1.out.trans (b10.mono B_X1.out.size))
 replace B_w2:=Lib.hid (B_w2.out.trans (b10.mono B_w2.out.size))
 replace B_X2:=Lib.hid (B_X2.out.trans (b10.mono B_X2.out.size))
 replace B_w4:=Lib.hid (B_w4.out.trans (b10.mono B_w4.out.size))
 replace B_X5:=Lib.hid (B_X5.out.trans (b10.mono B_X5.out.size))
 replace B_X6:=Lib.hid (B_X6.out.trans (b10.mono B_X6.out.size))
 replace B_X7:=Lib.hid (B_X7.out.trans (b10.mono B_X7.out.size))
 replace B_Z:=Lib.hid (B_Z.out.trans (b10.mono B_Z.out.size))
 replace B_X12:=Lib.hid (B_X12.out.trans (b10.mono B_X12.out.size))
 clear b10
 clear hk k0' k1' k2' hj j0' j1' j2'
 have hk:=(CB.out.below B_X2.out CB.out.lt)
 have k0':=hk.cell (i:=0) rfl
 have k1':=hk.cell (i:=1) rfl
 have k2':=hk.cell (i:=2) rfl
 have hj:=(WB.out.below B_X5.out WB.out.lt)
 have j0':=hj.cell (i:=0) rfl
 have j1':=hj.cell (i:=1) rfl
 have j2':=hj.cell (i:=2) rfl
 clear g9
 go_wp2
 go_ret
 exact⟨rfl,BW.out⟩
end Go.Proofs.YtpimbaaahcemhaaGreat
