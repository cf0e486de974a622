/- mission.between | mission.Valid's closures that read numbers alone, the one on home. | mission.Valid's closures on the lists: sizes, ways, rocks. | .. -/
import Derived.BigFrameIn
import Derived.Test.YthipcinibldgnaaGreatBin04
import Derived.LoopTactic
open Go.Value renaming int->O,pointer->qP,bool->qB,agg->qA
open Go.Ending renaming returned->qR
open Go.IntKind renaming wrap->qW,i64->qL
open Go.Lib renaming hid->qH
open Go.RowKit.Below renaming refl->qK
open Nat renaming le_refl->qN
set_option maxRecDepth 4000
set_option maxHeartbeats 800000
namespace Go.Proofs.YthipcinibldgnaaGreat
section
attribute [local irreducible] wpQuiet
open Go.RowKit
def legVal (m:Msn) (ax ay bx by':Int):Value:=qA #[O qL (distV ax ay bx by'),O qL (lastsV m.speed (distV ax ay bx by')),O qL (growthV m.speed m.part m.flow (distV ax ay bx by'))]
theorem Z2K (m:Msn) (vw vh vr:Value) (ax ay:Int) (w:World) :
  Calls Tryz.prog 59 #[qA (Zc m vw vh vr),qA #[O qL ax,O qL ay],qA #[O qL ax,O qL ay]] w fun e w'=>e=qR (legVal m ax ay ax ay)/\Below w.heap.size w w':=by
 unfold legVal;rw [Zae,Z4f,Z6K];unfold Zc;go_enter Tryz.func59,Tryz.ntmps59;go_wp2;refine bodyPost_ret (v:=qA #[O qL 0,O qL 0,O qL 0]) (by simp [results,Tryz.f59,go_sem]) rfl ⟨rfl,zB2⟩
theorem Z8I (m:Msn) (vw vh vr:Value) (ax ay bx by':Int) (w:World) (hm:legOk m) (ha:nearP ax ay) (hb:nearP bx by') (d0:(ax == bx)=false) (hlt:(isqrt ((ax-bx)*(ax-bx)+(ay-by')*(ay-by')).toNat:Int)*isqrt ((ax-bx)*(ax-bx)+(ay-by')*(ay-by')).toNat<((ax-bx)*(ax-bx)+(ay-by')*(ay-by'))) :
  Calls Tryz.prog 59 #[qA (Zc m vw vh vr),qA #[O qL ax,O qL ay],qA #[O qL bx,O qL by']] w fun e w'=>e=qR (legVal m ax ay bx by')/\Below w.heap.size w w':=by
 obtain⟨m1,m2,m3,m4,m5,m6⟩:=hm;obtain⟨a1,a2,a3,a4⟩:=ha;obtain⟨b1,b2,b3,b4⟩:=hb;have h1:=sq_bd (a:=ax-bx) (m:=600000) (by omega) (by omega)
 have h2:=sq_bd (a:=ay-by') (m:=600000) (by omega) (by omega)
 have p':qW qL ((ax-bx)*(ax-bx))=(ax-bx)*(ax-bx):=zW2;have q':qW qL ((ay-by')*(ay-by'))=(ay-by')*(ay-by'):=zW2
 have r':qW qL ((ax-bx)*(ax-bx)+(ay-by')*(ay-by'))=(ax-bx)*(ax-bx)+(ay-by')*(ay-by'):=zW2
 have db:=Z3D a1 a2 a3 a4 b1 b2 b3 b4;obtain⟨s,hs⟩:∃ s,(ax-bx)*(ax-bx)+(ay-by')*(ay-by')=s:=⟨_,rfl⟩
 rw [hs] at hlt;obtain⟨n,hn⟩:∃ n,distV ax ay bx by'=n:=⟨_,rfl⟩
 have hv:rootV s=isqrt s.toNat:=by simp [rootV,badN];intro h;omega
 have hi:=Z25 (m:=s.toNat) (n:=1000000) (by omega)
 have hq:=(Z02 s.toNat).1;have hmm:qW qL ((isqrt s.toNat:Int)*isqrt s.toNat)=(isqrt s.toNat:Int)*isqrt s.toNat:=IntWalk.i64_in _ (by
  have:(isqrt s.toNat:Int)*isqrt s.toNat=((isqrt s.toNat*isqrt s.toNat:Nat):Int):=by simp
  omega)
 have hroot:rootUp s=n:=by rw [<- hs,<- hn];rfl
 unfold legVal;rw [hn];rw [hn] at db;rw [hs] at r' db;obtain⟨_,_,n1,n2⟩:=db;obtain⟨g1,g2,g3,g4,g5,g6⟩:=Z0U (speed:=m.speed) (part:=m.part) (flow:=m.flow) n1 n2 m1 m3 m4 m5 m6;have l:=Z1x n1 n2 m1;have x1:qW qL (n*m.part)=n*m.part:=zW2;have x2:qW qL (lastsV m.speed n*m.flow)=lastsV m.speed n*m.flow:=zW2;have x3:qW qL (100*n)=100*n:=zW2;have c1:=Z0n (a:=n*m.part) (b:=1000) g1 (by omega)
 have c2:=Z0n (a:=lastsV m.speed n*m.flow) (b:=100) g3 (by omega)
 have x4:qW qL (cdiv (n*m.part) 1000+cdiv (lastsV m.speed n*m.flow) 100)=cdiv (n*m.part) 1000+cdiv (lastsV m.speed n*m.flow) 100:=zW2;have hl:∀ w1,Calls Tryz.prog 110 #[O qL (100*n),O qL m.speed] w1 fun e w'=>e=qR (O qL (lastsV m.speed n))/\Below w1.heap.size w1 w':=fun w1=>Z08 _ _ w1 (by omega) (by omega) (by omega) (by omega)
 have hu1:∀ w1,Calls Tryz.prog 110 #[O qL (n*m.part),O qL 1000] w1 fun e w'=>e=qR (O qL (cdiv (n*m.part) 1000))/\Below w1.heap.size w1 w':=fun w1=>Z08 _ _ w1 (by omega) (by omega) (by omega) (by omega)
 have hu2:∀ w1,Calls Tryz.prog 110 #[O qL (lastsV m.speed n*m.flow),O qL 100] w1 fun e w'=>e=qR (O qL (cdiv (lastsV m.speed n*m.flow) 100))/\Below w1.heap.size w1 w':=fun w1=>Z08 _ _ w1 (by omega) (by omega) (by omega) (by omega)
 unfold rootUp at hroot;clear h1 h2 hq hi c1 c2;unfold growthV;obtain⟨k0,hk0⟩:∃ k0:Int,(isqrt s.toNat:Int)=k0:=⟨_,rfl⟩;rw [hk0] at hv hmm hroot hlt;clear hk0 g5 g6 hn;unfold Zc;rw [if_pos hlt] at hroot;go_enter Tryz.func59,Tryz.ntmps59;go_wp2_with (first | (go_at_call 109;refine (Z2P _ _).mono ?_;rintro e w5 ⟨rfl,hb5⟩;obtain⟨hc5,hf5⟩:=bcell hb5;have hz5:=hb5.size;try simp at hz5) | (go_at_call 110;refine (hl _).mono ?_;rintro e w6 ⟨rfl,hb6⟩;obtain⟨hc6,hf6⟩:=bcell hb6;have hz6:=hb6.size;try simp at hz6))
 have e5:w6.cell? ⟨w.heap.size,5,none⟩=some (O qL m.part):=by rw [hc6 _ _ (by omega),hc5 _ _ (by simp;omega)];simp [go_sem]
 have e6:w6.cell? ⟨w.heap.size,6,none⟩=some (O qL m.flow):=by rw [hc6 _ _ (by omega),hc5 _ _ (by simp;omega)];simp [go_sem]
 have l5:=Low.fact e5;have l6:=Low.fact e6;have z6:w.heap.size+1+1+1+1<=w6.heap.size:=by omega
 have E6:=hb5.trans (hb6.mono (by simp;omega))
 clear e5 e6 hc5 hc6 hf5 hf6
 (refine (wpIn_wide (n:=9)).1 ?_;refine Zn (Zk _) 14 (by kernel_rfl) (by kernel_rfl) (by kernel_rfl) ?_;simp only [List.take_succ_cons,List.take_zero,List.drop_succ_cons,List.drop_zero];(iterate 14 (apply Zf;(case hw=>rfl);(case hval=>(intro w1 hw1;have hcx:=Low.cells hw1;simp only [Oper.quietAt];go_simp;first | done | (first | (go_at_call 110;with_reducible exact Low.calls hw1 (hu1 _)) | (go_at_call 110;with_reducible exact Low.calls hw1 (hu2 _))) | rfl | exact⟨rfl,rfl⟩));simp only [Act.put,zq4,zr4,zs4]));refine wpQuiet_nil ?_;intro w2 hw2)
 have B:=E6.trans (hw2.mono (by simp;omega))
 obtain⟨hc7,hf7⟩:=bcell B;gi_wp2;go_wp2;refine bodyPost_ret (v:=qA #[O qL n,O qL (lastsV m.speed n),O qL (cdiv (n*m.part) 1000+cdiv (lastsV m.speed n*m.flow) 100)]) ?_ rfl ⟨rfl,?_⟩
 ·simp [results,Tryz.f59,go_sem,hc7]
 ·refine Below.setCell (Below.setCell (Below.setCell ?_ (by simp;omega) _) (by simp;omega) _) (by simp;omega) _
  refine Below.trans ?_ (B.mono (by simp;omega))
  repeat (first | exact qK _ _ | assumption | apply Below.drew | refine Below.setCell ?_ (by first | omega | (simp;done) | (simp;omega)) _ | refine Below.alloc ?_ (by first | omega | (simp;done) | (simp;omega)) _ | refine Below.call (by assumption) ?_ (by first | omega | (simp;done) | (simp;omega)))
theorem Z8H (m:Msn) (vw vh vr:Value) (ax ay bx by':Int) (w:World) (hm:legOk m) (ha:nearP ax ay) (hb:nearP bx by') (d0:(ax == bx)=false) (hlt:¬ (isqrt ((ax-bx)*(ax-bx)+(ay-by')*(ay-by')).toNat:Int)*isqrt ((ax-bx)*(ax-bx)+(ay-by')*(ay-by')).toNat<((ax-bx)*(ax-bx)+(ay-by')*(ay-by'))) :
  Calls Tryz.prog 59 #[qA (Zc m vw vh vr),qA #[O qL ax,O qL ay],qA #[O qL bx,O qL by']] w fun e w'=>e=qR (legVal m ax ay bx by')/\Below w.heap.size w w':=by
 obtain⟨m1,m2,m3,m4,m5,m6⟩:=hm;obtain⟨a1,a2,a3,a4⟩:=ha;obtain⟨b1,b2,b3,b4⟩:=hb;have h1:=sq_bd (a:=ax-bx) (m:=600000) (by omega) (by omega)
 have h2:=sq_bd (a:=ay-by') (m:=600000) (by omega) (by omega)
 have p':qW qL ((ax-bx)*(ax-bx))=(ax-bx)*(ax-bx):=zW2;have q':qW qL ((ay-by')*(ay-by'))=(ay-by')*(ay-by'):=zW2
 have r':qW qL ((ax-bx)*(ax-bx)+(ay-by')*(ay-by'))=(ax-bx)*(ax-bx)+(ay-by')*(ay-by'):=zW2
 have db:=Z3D a1 a2 a3 a4 b1 b2 b3 b4;obtain⟨s,hs⟩:∃ s,(ax-bx)*(ax-bx)+(ay-by')*(ay-by')=s:=⟨_,rfl⟩
 rw [hs] at hlt;obtain⟨n,hn⟩:∃ n,distV ax ay bx by'=n:=⟨_,rfl⟩
 have hv:rootV s=isqrt s.toNat:=by simp [rootV,badN];intro h;omega
 have hi:=Z25 (m:=s.toNat) (n:=1000000) (by omega)
 have hq:=(Z02 s.toNat).1;have hmm:qW qL ((isqrt s.toNat:Int)*isqrt s.toNat)=(isqrt s.toNat:Int)*isqrt s.toNat:=IntWalk.i64_in _ (by
  have:(isqrt s.toNat:Int)*isqrt s.toNat=((isqrt s.toNat*isqrt s.toNat:Nat):Int):=by simp
  omega)
 have hroot:rootUp s=n:=by rw [<- hs,<- hn];rfl
 unfold legVal;rw [hn];rw [hn] at db;rw [hs] at r' db;obtain⟨_,_,n1,n2⟩:=db;obtain⟨g1,g2,g3,g4,g5,g6⟩:=Z0U (speed:=m.speed) (part:=m.part) (flow:=m.flow) n1 n2 m1 m3 m4 m5 m6;have l:=Z1x n1 n2 m1;have x1:qW qL (n*m.part)=n*m.part:=zW2;have x2:qW qL (lastsV m.speed n*m.flow)=lastsV m.speed n*m.flow:=zW2;have x3:qW qL (100*n)=100*n:=zW2;have c1:=Z0n (a:=n*m.part) (b:=1000) g1 (by omega)
 have c2:=Z0n (a:=lastsV m.speed n*m.flow) (b:=100) g3 (by omega)
 have x4:qW qL (cdiv (n*m.part) 1000+cdiv (lastsV m.speed n*m.flow) 100)=cdiv (n*m.part) 1000+cdiv (lastsV m.speed n*m.flow) 100:=zW2;have hl:∀ w1,Calls Tryz.prog 110 #[O qL (100*n),O qL m.speed] w1 fun e w'=>e=qR (O qL (lastsV m.speed n))/\Below w1.heap.size w1 w':=fun w1=>Z08 _ _ w1 (by omega) (by omega) (by omega) (by omega)
 have hu1:∀ w1,Calls Tryz.prog 110 #[O qL (n*m.part),O qL 1000] w1 fun e w'=>e=qR (O qL (cdiv (n*m.part) 1000))/\Below w1.heap.size w1 w':=fun w1=>Z08 _ _ w1 (by omega) (by omega) (by omega) (by omega)
 have hu2:∀ w1,Calls Tryz.prog 110 #[O qL (lastsV m.speed n*m.flow),O qL 100] w1 fun e w'=>e=qR (O qL (cdiv (lastsV m.speed n*m.flow) 100))/\Below w1.heap.size w1 w':=fun w1=>Z08 _ _ w1 (by omega) (by omega) (by omega) (by omega)
 unfold rootUp at hroot;clear h1 h2 hq hi c1 c2;unfold growthV;obtain⟨k0,hk0⟩:∃ k0:Int,(isqrt s.toNat:Int)=k0:=⟨_,rfl⟩;rw [hk0] at hv hmm hroot hlt;clear hk0 g5 g6 hn;unfold Zc;rw [if_neg hlt] at hroot;subst hroot;have d1:decide (k0*k0<s)=false:=by simpa using hlt
 clear hlt;go_enter Tryz.func59,Tryz.ntmps59;go_wp2_with (first | (go_at_call 109;refine (Z2P _ _).mono ?_;rintro e w5 ⟨rfl,hb5⟩;obtain⟨hc5,hf5⟩:=bcell hb5;have hz5:=hb5.size;try simp at hz5) | (go_at_call 110;refine (hl _).mono ?_;rintro e w6 ⟨rfl,hb6⟩;obtain⟨hc6,hf6⟩:=bcell hb6;have hz6:=hb6.size;try simp at hz6))
 have e5:w6.cell? ⟨w.heap.size,5,none⟩=some (O qL m.part):=by rw [hc6 _ _ (by omega),hc5 _ _ (by simp;omega)];simp [go_sem]
 have e6:w6.cell? ⟨w.heap.size,6,none⟩=some (O qL m.flow):=by rw [hc6 _ _ (by omega),hc5 _ _ (by simp;omega)];simp [go_sem]
 have l5:=Low.fact e5;have l6:=Low.fact e6;have z6:w.heap.size+1+1+1+1<=w6.heap.size:=by omega
 have E6:=hb5.trans (hb6.mono (by simp;omega))
 clear e5 e6 hc5 hc6 hf5 hf6
 (refine (wpIn_wide (n:=9)).1 ?_;refine Zn (Zk _) 14 (by kernel_rfl) (by kernel_rfl) (by kernel_rfl) ?_;simp only [List.take_succ_cons,List.take_zero,List.drop_succ_cons,List.drop_zero];(iterate 14 (apply Zf;(case hw=>rfl);(case hval=>(intro w1 hw1;have hcx:=Low.cells hw1;simp only [Oper.quietAt];go_simp;first | done | (first | (go_at_call 110;with_reducible exact Low.calls hw1 (hu1 _)) | (go_at_call 110;with_reducible exact Low.calls hw1 (hu2 _))) | rfl | exact⟨rfl,rfl⟩));simp only [Act.put,zq4,zr4,zs4]));refine wpQuiet_nil ?_;intro w2 hw2)
 have B:=E6.trans (hw2.mono (by simp;omega))
 obtain⟨hc7,hf7⟩:=bcell B;gi_wp2;go_wp2;refine bodyPost_ret (v:=qA #[O qL k0,O qL (lastsV m.speed k0),O qL (cdiv (k0*m.part) 1000+cdiv (lastsV m.speed k0*m.flow) 100)]) ?_ rfl ⟨rfl,?_⟩
 ·simp [results,Tryz.f59,go_sem,hc7]
 ·refine Below.setCell (Below.setCell (Below.setCell ?_ (by simp;omega) _) (by simp;omega) _) (by simp;omega) _
  refine Below.trans ?_ (B.mono (by simp;omega))
  repeat (first | exact qK _ _ | assumption | apply Below.drew | refine Below.setCell ?_ (by first | omega | (simp;done) | (simp;omega)) _ | refine Below.alloc ?_ (by first | omega | (simp;done) | (simp;omega)) _ | refine Below.call (by assumption) ?_ (by first | omega | (simp;done) | (simp;omega)))
theorem Z8G (m:Msn) (vw vh vr:Value) (ax ay bx by':Int) (w:World) (hm:legOk m) (ha:nearP ax ay) (hb:nearP bx by') (d0:(ax == bx)=true) (d0':(ay == by')=false) (hlt:(isqrt ((ax-bx)*(ax-bx)+(ay-by')*(ay-by')).toNat:Int)*isqrt ((ax-bx)*(ax-bx)+(ay-by')*(ay-by')).toNat<((ax-bx)*(ax-bx)+(ay-by')*(ay-by'))) :
  Calls Tryz.prog 59 #[qA (Zc m vw vh vr),qA #[O qL ax,O qL ay],qA #[O qL bx,O qL by']] w fun e w'=>e=qR (legVal m ax ay bx by')/\Below w.heap.size w w':=by
 obtain⟨m1,m2,m3,m4,m5,m6⟩:=hm;obtain⟨a1,a2,a3,a4⟩:=ha;obtain⟨b1,b2,b3,b4⟩:=hb;have h1:=sq_bd (a:=ax-bx) (m:=600000) (by omega) (by omega)
 have h2:=sq_bd (a:=ay-by') (m:=600000) (by omega) (by omega)
 have p':qW qL ((ax-bx)*(ax-bx))=(ax-bx)*(ax-bx):=zW2;have q':qW qL ((ay-by')*(ay-by'))=(ay-by')*(ay-by'):=zW2
 have r':qW qL ((ax-bx)*(ax-bx)+(ay-by')*(ay-by'))=(ax-bx)*(ax-bx)+(ay-by')*(ay-by'):=zW2
 have db:=Z3D a1 a2 a3 a4 b1 b2 b3 b4;obtain⟨s,hs⟩:∃ s,(ax-bx)*(ax-bx)+(ay-by')*(ay-by')=s:=⟨_,rfl⟩
 rw [hs] at hlt;obtain⟨n,hn⟩:∃ n,distV ax ay bx by'=n:=⟨_,rfl⟩
 have hv:rootV s=isqrt s.toNat:=by simp [rootV,badN];intro h;omega
 have hi:=Z25 (m:=s.toNat) (n:=1000000) (by omega)
 have hq:=(Z02 s.toNat).1;have hmm:qW qL ((isqrt s.toNat:Int)*isqrt s.toNat)=(isqrt s.toNat:Int)*isqrt s.toNat:=IntWalk.i64_in _ (by
  have:(isqrt s.toNat:Int)*isqrt s.toNat=((isqrt s.toNat*isqrt s.toNat:Nat):Int):=by simp
  omega)
 have hroot:rootUp s=n:=by rw [<- hs,<- hn];rfl
 unfold legVal;rw [hn];rw [hn] at db;rw [hs] at r' db;obtain⟨_,_,n1,n2⟩:=db;obtain⟨g1,g2,g3,g4,g5,g6⟩:=Z0U (speed:=m.speed) (part:=m.part) (flow:=m.flow) n1 n2 m1 m3 m4 m5 m6;have l:=Z1x n1 n2 m1;have x1:qW qL (n*m.part)=n*m.part:=zW2;have x2:qW qL (lastsV m.speed n*m.flow)=lastsV m.speed n*m.flow:=zW2;have x3:qW qL (100*n)=100*n:=zW2;have c1:=Z0n (a:=n*m.part) (b:=1000) g1 (by omega)
 have c2:=Z0n (a:=lastsV m.speed n*m.flow) (b:=100) g3 (by omega)
 have x4:qW qL (cdiv (n*m.part) 1000+cdiv (lastsV m.speed n*m.flow) 100)=cdiv (n*m.part) 1000+cdiv (lastsV m.speed n*m.flow) 100:=zW2;have hl:∀ w1,Calls Tryz.prog 110 #[O qL (100*n),O qL m.speed] w1 fun e w'=>e=qR (O qL (lastsV m.speed n))/\Below w1.heap.size w1 w':=fun w1=>Z08 _ _ w1 (by omega) (by omega) (by omega) (by omega)
 have hu1:∀ w1,Calls Tryz.prog 110 #[O qL (n*m.part),O qL 1000] w1 fun e w'=>e=qR (O qL (cdiv (n*m.part) 1000))/\Below w1.heap.size w1 w':=fun w1=>Z08 _ _ w1 (by omega) (by omega) (by omega) (by omega)
 have hu2:∀ w1,Calls Tryz.prog 110 #[O qL (lastsV m.speed n*m.flow),O qL 100] w1 fun e w'=>e=qR (O qL (cdiv (lastsV m.speed n*m.flow) 100))/\Below w1.heap.size w1 w':=fun w1=>Z08 _ _ w1 (by omega) (by omega) (by omega) (by omega)
 unfold rootUp at hroot;clear h1 h2 hq hi c1 c2;unfold growthV;obtain⟨k0,hk0⟩:∃ k0:Int,(isqrt s.toNat:Int)=k0:=⟨_,rfl⟩;rw [hk0] at hv hmm hroot hlt;clear hk0 g5 g6 hn;unfold Zc;rw [if_pos hlt] at hroot;go_enter Tryz.func59,Tryz.ntmps59;go_wp2_with (first | (go_at_call 109;refine (Z2P _ _).mono ?_;rintro e w5 ⟨rfl,hb5⟩;obtain⟨hc5,hf5⟩:=bcell hb5;have hz5:=hb5.size;try simp at hz5) | (go_at_call 110;refine (hl _).mono ?_;rintro e w6 ⟨rfl,hb6⟩;obtain⟨hc6,hf6⟩:=bcell hb6;have hz6:=hb6.size;try simp at hz6))
 have e5:w6.cell? ⟨w.heap.size,5,none⟩=some (O qL m.part):=by rw [hc6 _ _ (by omega),hc5 _ _ (by simp;omega)];simp [go_sem]
 have e6:w6.cell? ⟨w.heap.size,6,none⟩=some (O qL m.flow):=by rw [hc6 _ _ (by omega),hc5 _ _ (by simp;omega)];simp [go_sem]
 have l5:=Low.fact e5;have l6:=Low.fact e6;have z6:w.heap.size+1+1+1+1<=w6.heap.size:=by omega
 have E6:=hb5.trans (hb6.mono (by simp;omega))
 clear e5 e6 hc5 hc6 hf5 hf6
 (refine (wpIn_wide (n:=9)).1 ?_;refine Zn (Zk _) 14 (by kernel_rfl) (by kernel_rfl) (by kernel_rfl) ?_;simp only [List.take_succ_cons,List.take_zero,List.drop_succ_cons,List.drop_zero];(iterate 14 (apply Zf;(case hw=>rfl);(case hval=>(intro w1 hw1;have hcx:=Low.cells hw1;simp only [Oper.quietAt];go_simp;first | done | (first | (go_at_call 110;with_reducible exact Low.calls hw1 (hu1 _)) | (go_at_call 110;with_reducible exact Low.calls hw1 (hu2 _))) | rfl | exact⟨rfl,rfl⟩));simp only [Act.put,zq4,zr4,zs4]));refine wpQuiet_nil ?_;intro w2 hw2)
 have B:=E6.trans (hw2.mono (by simp;omega))
 obtain⟨hc7,hf7⟩:=bcell B;gi_wp2;go_wp2;refine bodyPost_ret (v:=qA #[O qL n,O qL (lastsV m.speed n),O qL (cdiv (n*m.part) 1000+cdiv (lastsV m.speed n*m.flow) 100)]) ?_ rfl ⟨rfl,?_⟩
 ·simp [results,Tryz.f59,go_sem,hc7]
 ·refine Below.setCell (Below.setCell (Below.setCell ?_ (by simp;omega) _) (by simp;omega) _) (by simp;omega) _
  refine Below.trans ?_ (B.mono (by simp;omega))
  repeat (first | exact qK _ _ | assumption | apply Below.drew | refine Below.setCell ?_ (by first | omega | (simp;done) | (simp;omega)) _ | refine Below.alloc ?_ (by first | omega | (simp;done) | (simp;omega)) _ | refine Below.call (by assumption) ?_ (by first | omega | (simp;done) | (simp;omega)))
theorem Z8F (m:Msn) (vw vh vr:Value) (ax ay bx by':Int) (w:World) (hm:legOk m) (ha:nearP ax ay) (hb:nearP bx by') (d0:(ax == bx)=true) (d0':(ay == by')=false) (hlt:¬ (isqrt ((ax-bx)*(ax-bx)+(ay-by')*(ay-by')).toNat:Int)*isqrt ((ax-bx)*(ax-bx)+(ay-by')*(ay-by')).toNat<((ax-bx)*(ax-bx)+(ay-by')*(ay-by'))) :
  Calls Tryz.prog 59 #[qA (Zc m vw vh vr),qA #[O qL ax,O qL ay],qA #[O qL bx,O qL by']] w fun e w'=>e=qR (legVal m ax ay bx by')/\Below w.heap.size w w':=by
 obtain⟨m1,m2,m3,m4,m5,m6⟩:=hm;obtain⟨a1,a2,a3,a4⟩:=ha;obtain⟨b1,b2,b3,b4⟩:=hb;have h1:=sq_bd (a:=ax-bx) (m:=600000) (by omega) (by omega)
 have h2:=sq_bd (a:=ay-by') (m:=600000) (by omega) (by omega)
 have p':qW qL ((ax-bx)*(ax-bx))=(ax-bx)*(ax-bx):=zW2;have q':qW qL ((ay-by')*(ay-by'))=(ay-by')*(ay-by'):=zW2
 have r':qW qL ((ax-bx)*(ax-bx)+(ay-by')*(ay-by'))=(ax-bx)*(ax-bx)+(ay-by')*(ay-by'):=zW2
 have db:=Z3D a1 a2 a3 a4 b1 b2 b3 b4;obtain⟨s,hs⟩:∃ s,(ax-bx)*(ax-bx)+(ay-by')*(ay-by')=s:=⟨_,rfl⟩
 rw [hs] at hlt;obtain⟨n,hn⟩:∃ n,distV ax ay bx by'=n:=⟨_,rfl⟩
 have hv:rootV s=isqrt s.toNat:=by simp [rootV,badN];intro h;omega
 have hi:=Z25 (m:=s.toNat) (n:=1000000) (by omega)
 have hq:=(Z02 s.toNat).1;have hmm:qW qL ((isqrt s.toNat:Int)*isqrt s.toNat)=(isqrt s.toNat:Int)*isqrt s.toNat:=IntWalk.i64_in _ (by
  have:(isqrt s.toNat:Int)*isqrt s.toNat=((isqrt s.toNat*isqrt s.toNat:Nat):Int):=by simp
  omega)
 have hroot:rootUp s=n:=by rw [<- hs,<- hn];rfl
 unfold legVal;rw [hn];rw [hn] at db;rw [hs] at r' db;obtain⟨_,_,n1,n2⟩:=db;obtain⟨g1,g2,g3,g4,g5,g6⟩:=Z0U (speed:=m.speed) (part:=m.part) (flow:=m.flow) n1 n2 m1 m3 m4 m5 m6;have l:=Z1x n1 n2 m1;have x1:qW qL (n*m.part)=n*m.part:=zW2;have x2:qW qL (lastsV m.speed n*m.flow)=lastsV m.speed n*m.flow:=zW2;have x3:qW qL (100*n)=100*n:=zW2;have c1:=Z0n (a:=n*m.part) (b:=1000) g1 (by omega)
 have c2:=Z0n (a:=lastsV m.speed n*m.flow) (b:=100) g3 (by omega)
 have x4:qW qL (cdiv (n*m.part) 1000+cdiv (lastsV m.speed n*m.flow) 100)=cdiv (n*m.part) 1000+cdiv (lastsV m.speed n*m.flow) 100:=zW2;have hl:∀ w1,Calls Tryz.prog 110 #[O qL (100*n),O qL m.speed] w1 fun e w'=>e=qR (O qL (lastsV m.speed n))/\Below w1.heap.size w1 w':=fun w1=>Z08 _ _ w1 (by omega) (by omega) (by omega) (by omega)
 have hu1:∀ w1,Calls Tryz.prog 110 #[O qL (n*m.part),O qL 1000] w1 fun e w'=>e=qR (O qL (cdiv (n*m.part) 1000))/\Below w1.heap.size w1 w':=fun w1=>Z08 _ _ w1 (by omega) (by omega) (by omega) (by omega)
 have hu2:∀ w1,Calls Tryz.prog 110 #[O qL (lastsV m.speed n*m.flow),O qL 100] w1 fun e w'=>e=qR (O qL (cdiv (lastsV m.speed n*m.flow) 100))/\Below w1.heap.size w1 w':=fun w1=>Z08 _ _ w1 (by omega) (by omega) (by omega) (by omega)
 unfold rootUp at hroot;clear h1 h2 hq hi c1 c2;unfold growthV;obtain⟨k0,hk0⟩:∃ k0:Int,(isqrt s.toNat:Int)=k0:=⟨_,rfl⟩;rw [hk0] at hv hmm hroot hlt;clear hk0 g5 g6 hn;unfold Zc;rw [if_neg hlt] at hroot;subst hroot;have d1:decide (k0*k0<s)=false:=by simpa using hlt
 clear hlt;go_enter Tryz.func59,Tryz.ntmps59;go_wp2_with (first | (go_at_call 109;refine (Z2P _ _).mono ?_;rintro e w5 ⟨rfl,hb5⟩;obtain⟨hc5,hf5⟩:=bcell hb5;have hz5:=hb5.size;try simp at hz5) | (go_at_call 110;refine (hl _).mono ?_;rintro e w6 ⟨rfl,hb6⟩;obtain⟨hc6,hf6⟩:=bcell hb6;have hz6:=hb6.size;try simp at hz6))
 have e5:w6.cell? ⟨w.heap.size,5,none⟩=some (O qL m.part):=by rw [hc6 _ _ (by omega),hc5 _ _ (by simp;omega)];simp [go_sem]
 have e6:w6.cell? ⟨w.heap.size,6,none⟩=some (O qL m.flow):=by rw [hc6 _ _ (by omega),hc5 _ _ (by simp;omega)];simp [go_sem]
 have l5:=Low.fact e5;have l6:=Low.fact e6;have z6:w.heap.size+1+1+1+1<=w6.heap.size:=by omega
 have E6:=hb5.trans (hb6.mono (by simp;omega))
 clear e5 e6 hc5 hc6 hf5 hf6
 (refine (wpIn_wide (n:=9)).1 ?_;refine Zn (Zk _) 14 (by kernel_rfl) (by kernel_rfl) (by kernel_rfl) ?_;simp only [List.take_succ_cons,List.take_zero,List.drop_succ_cons,List.drop_zero];(iterate 14 (apply Zf;(case hw=>rfl);(case hval=>(intro w1 hw1;have hcx:=Low.cells hw1;simp only [Oper.quietAt];go_simp;first | done | (first | (go_at_call 110;with_reducible exact Low.calls hw1 (hu1 _)) | (go_at_call 110;with_reducible exact Low.calls hw1 (hu2 _))) | rfl | exact⟨rfl,rfl⟩));simp only [Act.put,zq4,zr4,zs4]));refine wpQuiet_nil ?_;intro w2 hw2)
 have B:=E6.trans (hw2.mono (by simp;omega))
 obtain⟨hc7,hf7⟩:=bcell B;gi_wp2;go_wp2;refine bodyPost_ret (v:=qA #[O qL k0,O qL (lastsV m.speed k0),O qL (cdiv (k0*m.part) 1000+cdiv (lastsV m.speed k0*m.flow) 100)]) ?_ rfl ⟨rfl,?_⟩
 ·simp [results,Tryz.f59,go_sem,hc7]
 ·refine Below.setCell (Below.setCell (Below.setCell ?_ (by simp;omega) _) (by simp;omega) _) (by simp;omega) _
  refine Below.trans ?_ (B.mono (by simp;omega))
  repeat (first | exact qK _ _ | assumption | apply Below.drew | refine Below.setCell ?_ (by first | omega | (simp;done) | (simp;omega)) _ | refine Below.alloc ?_ (by first | omega | (simp;done) | (simp;omega)) _ | refine Below.call (by assumption) ?_ (by first | omega | (simp;done) | (simp;omega)))
theorem Z6C (m:Msn) (vw vh vr:Value) (ax ay bx by':Int) (w:World) (hm:legOk m) (ha:nearP ax ay) (hb:nearP bx by') :
  Calls Tryz.prog 59 #[qA (Zc m vw vh vr),qA #[O qL ax,O qL ay],qA #[O qL bx,O qL by']] w fun e w'=>e=qR (legVal m ax ay bx by')/\Below w.heap.size w w':=by
 by_cases hlt:(isqrt ((ax-bx)*(ax-bx)+(ay-by')*(ay-by')).toNat:Int)*isqrt ((ax-bx)*(ax-bx)+(ay-by')*(ay-by')).toNat<((ax-bx)*(ax-bx)+(ay-by')*(ay-by'))
 ·by_cases hx:ax=bx
  ·by_cases hy:ay=by'
   ·subst hx;subst hy;exact Z2K m vw vh vr ax ay w
   ·exact Z8G m vw vh vr ax ay bx by' w hm ha hb (by simpa using hx) (by simpa using hy) hlt
  ·exact Z8I m vw vh vr ax ay bx by' w hm ha hb (by simpa using hx) hlt
 ·by_cases hx:ax=bx
  ·by_cases hy:ay=by'
   ·subst hx;subst hy;exact Z2K m vw vh vr ax ay w
   ·exact Z8F m vw vh vr ax ay bx by' w hm ha hb (by simpa using hx) (by simpa using hy) hlt
  ·exact Z8H m vw vh vr ax ay bx by' w hm ha hb (by simpa using hx) hlt
end
section
open Go.RowKit
def MsnBox (W:World) (B:Nat) (m:Msn) (vw vh vr:Value):Prop:=Has W B (Zc m vw vh vr) 26
theorem v5_any (B : Nat) (m : Msn) (vw vh vr : Value) (w : World) (H : MsnBox w B m vw vh vr) :
  Calls Tryz.prog 129 #[qP (some ⟨B,0,none⟩)] w fun e w'=>e=qR (qB (inB m.start 0 100000 && inB m.speed 1 20000))/\Below w.heap.size w w':=by
 obtain⟨c0,c1,c2,c3,c4,c5,c6,c7,c8,c9,c10⟩:=Zg H;cases h:inB m.start 0 100000
 ·go_enter Tryz.func129,Tryz.ntmps129
  go_wp2_with (go_at_call 130;refine (ZL _ _ _).mono ?_;rintro e w' ⟨rfl,rfl⟩);go_ret;exact⟨rfl,zB2⟩
 ·cases h2:inB m.speed 1 20000
  ·rcases Z1f h2 with h3 | ⟨h3,h4⟩
   ·have d:decide (1<=m.speed)=false:=by simp;omega
    clear h2 h3;go_enter Tryz.func129,Tryz.ntmps129;go_wp2_with (go_at_call 130;refine (ZL _ _ _).mono ?_;rintro e w' ⟨rfl,rfl⟩);go_ret;exact⟨rfl,zB2⟩
   ·have d:decide (m.speed<=20000)=false:=by simp;omega
    clear h2 h4;go_enter Tryz.func129,Tryz.ntmps129;go_wp2_with (go_at_call 130;refine (ZL _ _ _).mono ?_;rintro e w' ⟨rfl,rfl⟩);go_ret;exact⟨rfl,zB2⟩
  ·obtain⟨h3,h4⟩:=ZM h2
   clear h2;go_enter Tryz.func129,Tryz.ntmps129;go_wp2_with (go_at_call 130;refine (ZL _ _ _).mono ?_;rintro e w' ⟨rfl,rfl⟩);go_ret;exact⟨rfl,zB2⟩
theorem v3_any (B:Nat) (m:Msn) (vw vh vr:Value) (w:World) (H:MsnBox w B m vw vh vr) (hp:Z7 w.heap.size w vh m.home) :
  Calls Tryz.prog 125 #[qP (some ⟨B,0,none⟩)] w fun e w'=>e=qR (qB (Zb m.home))/\Below w.heap.size w w':=by
 obtain⟨c0,c1,c2,c3,c4,c5,c6,c7,c8,c9,c10⟩:=Zg H;go_enter Tryz.func125,Tryz.ntmps125;go_wp2_with (go_at_call 63;refine (Zp _ _ _ hp).mono ?_;rintro e w1 ⟨rfl,hb1⟩;have hz1:=hb1.size;try simp at hz1)
 go_ret;exact⟨rfl,zB2⟩
theorem v6_any (B:Nat) (m:Msn) (vw vh vr:Value) (w:World) (H:MsnBox w B m vw vh vr) :
  Calls Tryz.prog 131 #[qP (some ⟨B,0,none⟩)] w fun e w'=>e=qR (qB (inB m.part 0 500 && inB m.flow 0 5000))/\Below w.heap.size w w':=by
 obtain⟨c0,c1,c2,c3,c4,c5,c6,c7,c8,c9,c10⟩:=Zg H;cases h:inB m.part 0 500
 ·go_enter Tryz.func131,Tryz.ntmps131
  go_wp2_with (go_at_call 130;refine (ZL _ _ _).mono ?_;rintro e w' ⟨rfl,rfl⟩);go_ret;exact⟨rfl,zB2⟩
 ·go_enter Tryz.func131,Tryz.ntmps131
  go_wp2_with (go_at_call 130;refine (ZL _ _ _).mono ?_;rintro e w' ⟨rfl,rfl⟩);go_ret;exact⟨rfl,zB2⟩
theorem v7_any (B:Nat) (m:Msn) (vw vh vr:Value) (w:World) (H:MsnBox w B m vw vh vr) :
  Calls Tryz.prog 132 #[qP (some ⟨B,0,none⟩)] w fun e w'=>e=qR (qB (inB m.idle 0 1000 && inB m.drive 0 1000))/\Below w.heap.size w w':=by
 obtain⟨c0,c1,c2,c3,c4,c5,c6,c7,c8,c9,c10⟩:=Zg H;cases h:inB m.idle 0 1000
 ·go_enter Tryz.func132,Tryz.ntmps132
  go_wp2_with (go_at_call 130;refine (ZL _ _ _).mono ?_;rintro e w' ⟨rfl,rfl⟩);go_ret;exact⟨rfl,zB2⟩
 ·go_enter Tryz.func132,Tryz.ntmps132
  go_wp2_with (go_at_call 130;refine (ZL _ _ _).mono ?_;rintro e w' ⟨rfl,rfl⟩);go_ret;exact⟨rfl,zB2⟩
theorem v8_any (B:Nat) (m:Msn) (vw vh vr:Value) (w:World) (H:MsnBox w B m vw vh vr) :
  Calls Tryz.prog 133 #[qP (some ⟨B,0,none⟩)] w fun e w'=>e=qR (qB (inB m.battery 0 1000000000 && inB m.deadline 0 1000000000))/\Below w.heap.size w w':=by
 obtain⟨c0,c1,c2,c3,c4,c5,c6,c7,c8,c9,c10⟩:=Zg H;cases h:inB m.battery 0 1000000000
 ·go_enter Tryz.func133,Tryz.ntmps133
  go_wp2_with (go_at_call 130;refine (ZL _ _ _).mono ?_;rintro e w' ⟨rfl,rfl⟩);go_ret;exact⟨rfl,zB2⟩
 ·go_enter Tryz.func133,Tryz.ntmps133
  go_wp2_with (go_at_call 130;refine (ZL _ _ _).mono ?_;rintro e w' ⟨rfl,rfl⟩);go_ret;exact⟨rfl,zB2⟩
def sizesB (m:Msn):Bool:=decide (2<=m.ways.length/\m.ways.length<=41/\m.rocks.length<=100)
theorem v1_any (B : Nat) (m : Msn) (vw vh vr : Value) (w : World) (H : MsnBox w B m vw vh vr) (hw : WaysAt w.heap.size w vw m.ways) (hr : Z6 w.heap.size w vr m.rocks) :
  Calls Tryz.prog 122 #[qP (some ⟨B,0,none⟩)] w fun e w'=>e=qR (qB (sizesB m))/\Below w.heap.size w w':=by
 obtain⟨c0,c1,c2,c3,c4,c5,c6,c7,c8,c9,c10⟩:=Zg H;obtain⟨_,a1,cap1,rfl,hc1⟩:=hw;obtain⟨_,a2,cap2,rfl,hc2⟩:=hr;clear hc1 hc2;by_cases h1:2<=m.ways.length
 ·by_cases h2:m.ways.length<=41
  ·by_cases h3:m.rocks.length<=100
   ·have e:sizesB m=true:=by simp [sizesB];omega
    have d1:decide (2<=(m.ways.length:Int))=true:=by simp;omega
    have d2:decide ((m.ways.length:Int)<=41)=true:=by simp;omega
    have d3:decide ((m.rocks.length:Int)<=100)=true:=by simp;omega
    rw [e];clear e h1 h2 h3;go_enter Tryz.func122,Tryz.ntmps122;go_wp2;go_ret;exact⟨rfl,zB2⟩
   ·have e:sizesB m=false:=by simp [sizesB];omega
    have d1:decide (2<=(m.ways.length:Int))=true:=by simp;omega
    have d2:decide ((m.ways.length:Int)<=41)=true:=by simp;omega
    have d3:decide ((m.rocks.length:Int)<=100)=false:=by simp;omega
    rw [e];clear e h1 h2 h3;go_enter Tryz.func122,Tryz.ntmps122;go_wp2;go_ret;exact⟨rfl,zB2⟩
  ·have e:sizesB m=false:=by simp [sizesB];omega
   have d1:decide (2<=(m.ways.length:Int))=true:=by simp;omega
   have d2:decide ((m.ways.length:Int)<=41)=false:=by simp;omega
   rw [e];clear e h1 h2;go_enter Tryz.func122,Tryz.ntmps122;go_wp2;go_ret;exact⟨rfl,zB2⟩
 ·have e:sizesB m=false:=by simp [sizesB];omega
  have d1:decide (2<=(m.ways.length:Int))=false:=by simp;omega
  rw [e];clear e h1;go_enter Tryz.func122,Tryz.ntmps122;go_wp2;go_ret;exact⟨rfl,zB2⟩
theorem Z8P (v:Value) (l:List Pt) (w:World) (hp:Z7 w.heap.size w v l) :
  Calls Tryz.prog 128 #[v] w fun e w'=>e=qR (qB (!Zb l))/\Below w.heap.size w w':=by
 cases h:Zb l
 ·go_enter Tryz.func128,Tryz.ntmps128
  go_wp2_with (go_at_call 63;refine (Zp _ _ _ hp).mono ?_;rintro e w1 ⟨rfl,hb1⟩;have hz1:=hb1.size;try simp at hz1)
  go_ret;exact⟨rfl,zB2⟩
 ·go_enter Tryz.func128,Tryz.ntmps128
  go_wp2_with (go_at_call 63;refine (Zp _ _ _ hp).mono ?_;rintro e w1 ⟨rfl,hb1⟩;have hz1:=hb1.size;try simp at hz1)
  go_ret;exact⟨rfl,zB2⟩
end
section
attribute [local irreducible] wpQuiet
open Go.RowKit
noncomputable def rocksB (l:List (List Pt)):Bool:=decide (∀ j,j<l.length->Zb (rk l j)=true)
def FoundQ (b:Bool) (w:World) (e:Ending) (w':World):Prop:=∃ r:Int,e=qR (O qL r)/\-1<=r/\r<=9223372036854775807/\decide (0<=r)=b/\Below w.heap.size w w'
theorem Z3U (v : Value) (l : List (List Pt)) (w : World) (hr : Z6 w.heap.size w v l) :
  Calls Tryz.prog 161 #[v,.func (.func 128) #[] #[]] w (FoundQ (!rocksB l) w):=by
 obtain⟨hl,a,cap,rfl,hc⟩:=hr;go_enter Tryz.func161,Tryz.ntmps161;go_wp2
 go_loopw [8] (fun i wr=>∃ k:Nat,k<=l.length/\i=O qL k/\(∀ j,j<k->Zb (rk l j)=true)/\Below w.heap.size w wr) (fun i _=>l.length-(intOf i).toNat)
 case atStart=>exact⟨0,Nat.zero_le _,rfl,fun j h=>by omega,qK _ _⟩
 case round =>
  obtain⟨k,hk,rfl,hall,hB⟩:=hrel;by_cases hlt:k<l.length
  ·rcases hc with rfl | ⟨b,o,rfl,hb,hc⟩
   ·simp at hlt
   obtain⟨u,hu,hpu⟩:=hc k hlt;have c1:=(hB.cell (p:=⟨b,o+k,none⟩) hb).trans hu;have hpu':=qH ((hpu.below hB).mono hB.size);have hall':=qH hall;have hc':=qH hc;clear hall hc hu hpu;have hz:=hB.size;cases hpl:Zb (rk l k)
   ·have hr:Hid (rocksB l=false):=by
     show rocksB l=false
     simp only [rocksB,decide_eq_false_iff_not];intro h;have:=h k hlt;rw [hpl] at this;cases this
    go_wp2_with (go_at_call 128;refine (Z8P _ _ _ hpu'.out).mono ?_;rintro e w1 ⟨rfl,hb1⟩;have hz1:=hb1.size;try simp at hz1)
    go_ret;exact⟨k,rfl,by omega,by omega,by rw [hr.out];simp,zB2⟩
   ·go_wp2_with (go_at_call 128;refine (Z8P _ _ _ hpu'.out).mono ?_;rintro e w1 ⟨rfl,hb1⟩;have hz1:=hb1.size;try simp at hz1)
    go_roundw
    case rel =>
     refine⟨k+1,by omega,by go_num,fun j hj=>?_,zB2⟩
     by_cases e:j=k
     ·rw [e];exact hpl
     ·exact hall'.out j (by omega)
    case measure=>simp [intOf];omega
  ·have hr:Hid (rocksB l=true):=by
    show rocksB l=true
    simp only [rocksB,decide_eq_true_eq];intro j hj;exact hall j (by omega)
   clear hall;go_wp2;go_ret;exact⟨-1,rfl,by omega,by omega,by rw [hr.out];simp,hB⟩
theorem Z2v (v:Value) (l:List (List Pt)) (w:World) (hr:Z6 w.heap.size w v l) :
  Calls Tryz.prog 127 #[v,.func (.func 128) #[] #[]] w fun e w'=>e=qR (qB (!rocksB l))/\Below w.heap.size w w':=by
 go_enter Tryz.func127,Tryz.ntmps127;go_wp2_with (go_at_call 161;refine (Z3U _ _ _ hr).mono ?_;rintro e w1 ⟨r,rfl,r1,r2,r3,hb⟩);go_ret;exact⟨by first | rfl | exact Zs r3,hb⟩
theorem v4_any (B:Nat) (m:Msn) (vw vh vr:Value) (w:World) (H:MsnBox w B m vw vh vr) (hr:Z6 w.heap.size w vr m.rocks) :
  Calls Tryz.prog 126 #[qP (some ⟨B,0,none⟩)] w fun e w'=>e=qR (qB (rocksB m.rocks))/\Below w.heap.size w w':=by
 obtain⟨c0,c1,c2,c3,c4,c5,c6,c7,c8,c9,c10⟩:=Zg H;go_enter Tryz.func126,Tryz.ntmps126;go_wp2_with (go_at_call 127;refine (Z2v _ _ _ hr).mono ?_;rintro e w1 ⟨rfl,hb1⟩;have hz1:=hb1.size;try simp at hz1)
 go_ret;exact⟨Zs (by simp),zB2⟩
theorem v2_any (B : Nat) (m : Msn) (vw vh vr : Value) (w : World) (H : MsnBox w B m vw vh vr) (hw : WaysAt w.heap.size w vw m.ways) (hn : m.ways.length <= 1000000) :
  Calls Tryz.prog 123 #[qP (some ⟨B,0,none⟩)] w fun e w'=>e=qR (qB (waysB m.ways))/\Below w.heap.size w w':=by
 obtain⟨c0,c1,c2,c3,c4,c5,c6,c7,c8,c9,c10⟩:=Zg H;obtain⟨hl,a,cap,rfl,hc⟩:=hw;clear c1 c2 c3 c4 c5 c6 c7 c8 c9 c10;go_enter Tryz.func123,Tryz.ntmps123;go_wp2
 go_loopw [7] (fun i wr=>∃ k:Nat,k<=m.ways.length/\i=O qL k/\(∀ j,j<k->wayB j (wy m.ways j)=true)/\Below w.heap.size w wr) (fun i _=>m.ways.length-(intOf i).toNat)
 case atStart=>exact⟨0,Nat.zero_le _,rfl,fun j h=>by omega,qK _ _⟩
 case round =>
  obtain⟨k,hk,rfl,hall,hB⟩:=hrel;by_cases hlt:k<m.ways.length
  ·rcases hc with h0 | ⟨b,o,rfl,hb,hc⟩
   ·rw [h0] at hlt;simp at hlt
   obtain⟨u0,u1,u2,u3,u4⟩:=hc k hlt;have x0:=(hB.cell (p:=⟨b,o+k*5,none⟩) hb).trans u0;have x1:=(hB.cell (p:=⟨b,o+k*5+1,none⟩) hb).trans u1;have x2:=(hB.cell (p:=⟨b,o+k*5+2,none⟩) hb).trans u2;have x3:=(hB.cell (p:=⟨b,o+k*5+3,none⟩) hb).trans u3;have x4:=(hB.cell (p:=⟨b,o+k*5+4,none⟩) hb).trans u4;have hall':=qH hall;have hc':=qH hc;clear hall hc u0 u1 u2 u3 u4;have hz:=hB.size;have hw1:=fun w1=>Z9F k (wy m.ways k) w1 (by omega)
   unfold wyVal at hw1;have hw1':=qH hw1;clear hw1;cases hpl:wayB k (wy m.ways k)
   ·have hr:Hid (waysB m.ways=false):=by
     show waysB m.ways=false
     simp only [waysB,decide_eq_false_iff_not];intro h;have:=h k hlt;rw [hpl] at this;cases this
    go_wp2_with (go_at_call 124;refine (hw1'.out _).mono ?_;rintro e w1 ⟨rfl,hb1⟩;have hz1:=hb1.size;try simp at hz1)
    go_ret;exact⟨Zs hr.out.symm,zB2⟩
   ·go_wp2_with (go_at_call 124;refine (hw1'.out _).mono ?_;rintro e w1 ⟨rfl,hb1⟩;have hz1:=hb1.size;try simp at hz1)
    go_roundw
    case rel =>
     refine⟨k+1,by omega,by go_num,fun j hj=>?_,zB2⟩
     by_cases e:j=k
     ·rw [e];exact hpl
     ·exact hall'.out j (by omega)
    case measure=>simp [intOf];omega
  ·have hr:Hid (waysB m.ways=true):=by
    show waysB m.ways=true
    simp only [waysB,decide_eq_true_eq];intro j hj;exact hall j (by omega)
   clear hall;go_wp2;go_ret;exact⟨Zs hr.out.symm,hB⟩
theorem Z9R (m:Msn) (vw vh vr:Value) (w:World) (hm:legOk m) (hs:0<=m.start/\m.start<=100000) (hw:WaysAt w.heap.size w vw m.ways) (h2:2<=m.ways.length) (h41:m.ways.length<=41) (hwb:waysB m.ways=true) :
  Calls Tryz.prog 135 #[qA (Zc m vw vh vr)] w fun e w'=>e=qR (O qL (grownV m))/\Below w.heap.size w w':=by
 obtain⟨hl,a,cap,rfl,hc⟩:=hw;obtain⟨b,o,rfl,hb,hc2⟩:∃ b o,a=some ⟨b,o,none⟩/\b<w.heap.size/\∀ j,j<m.ways.length->w.cell? ⟨b,o+j*5,none⟩=some (O qL (wy m.ways j).x)/\w.cell? ⟨b,o+j*5+1,none⟩=some (O qL (wy m.ways j).y)/\w.cell? ⟨b,o+j*5+2,none⟩=some (O qL (wy m.ways j).fix)/\w.cell? ⟨b,o+j*5+3,none⟩=some (O qL (wy m.ways j).wait)/\w.cell? ⟨b,o+j*5+4,none⟩=some (O qL (wy m.ways j).back):=by
  rcases hc with h0 | h
  ·rw [h0] at h2;simp at h2
  ·exact h
 have hcH:=qH hc2;have hwbH:=qH hwb;have hmH:=qH hm;clear hc hc2 hwb hm;have hsz0:w.heap.size<(w.alloc (.cells #[] 0)).heap.size:=by simp
 have H0:Has (w.alloc (.cells (Zc m (.slice (some ⟨b,o,none⟩) m.ways.length (m.ways.length+cap)) vh vr) 26)) w.heap.size (Zc m (.slice (some ⟨b,o,none⟩) m.ways.length (m.ways.length+cap)) vh vr) 26:=Has.new w _ _;have H0H:=qH H0;clear H0 hsz0;unfold Zc;go_enter Tryz.func135,Tryz.ntmps135;go_wp2
 go_loopw [3,12] (fun s i wr=>∃ k:Nat,k<=m.ways.length-1/\i=O qL k/\s=O qL (grownTo m k)/\Has wr w.heap.size (Zc m (.slice (some ⟨b,o,none⟩) m.ways.length (m.ways.length+cap)) vh vr) 26/\Below w.heap.size w wr) (fun _ i _=>m.ways.length-1-(intOf i).toNat)
 case atStart=>exact⟨0,Nat.zero_le _,rfl,rfl,H0H.out,(qK _ _).alloc (qN _) _⟩
 case round =>
  obtain⟨k,hk,rfl,rfl,H,hB⟩:=hrel;have hmsn:(((m.ways.length-1:Nat):Int))=(m.ways.length:Int)-1:=by omega
  have hms:=qH hmsn;clear hmsn;by_cases hlt:(k:Int)<(m.ways.length:Int)-1
  ·have hz:=hB.size
   have hlt':k+1<m.ways.length:=by omega
   have bk:=Z0B hwbH.out hlt';obtain⟨q,hq⟩:∃ q:Nat,(wy m.ways (k+1)).back=q:=⟨_,(Int.toNat_of_nonneg bk.1).symm⟩;rw [hq] at bk;have hql:q<m.ways.length:=by omega
   have hg:grownTo m (k+1)=grownTo m k+(gLeg m k (k+1)+gLeg m (k+1) q):=by rw [grownTo,hq];rfl
   have gb:=Z2s hmH.out hs hwbH.out k (by omega)
   have g1:=Z00 hmH.out hwbH.out (i:=k) (j:=k+1) (by omega) hlt'
   have g2:=Z00 hmH.out hwbH.out (i:=k+1) (j:=q) hlt' hql;have hl1:=fun w1=>Z6C m (.slice (some ⟨b,o,none⟩) m.ways.length (m.ways.length+cap)) vh vr (wy m.ways k).x (wy m.ways k).y (wy m.ways (k+1)).x (wy m.ways (k+1)).y w1 hmH.out (Z07 hwbH.out (by omega)) (Z07 hwbH.out hlt')
   have hl2:=fun w1=>Z6C m (.slice (some ⟨b,o,none⟩) m.ways.length (m.ways.length+cap)) vh vr (wy m.ways (k+1)).x (wy m.ways (k+1)).y (wy m.ways q).x (wy m.ways q).y w1 hmH.out (Z07 hwbH.out hlt') (Z07 hwbH.out hql)
   obtain⟨e1,he1⟩:∃ e1,gLeg m k (k+1)=e1:=⟨_,rfl⟩;obtain⟨e2,he2⟩:∃ e2,gLeg m (k+1) q=e2:=⟨_,rfl⟩;obtain⟨t,ht⟩:∃ t,grownTo m k=t:=⟨_,rfl⟩;rw [he1,he2,ht] at hg;rw [ht] at gb ⊢;rw [he1] at g1;rw [he2] at g2;unfold gLeg dLeg at he1 he2;unfold legVal at hl1 hl2;rw [he1] at hl1;rw [he2] at hl2;have a1:qW qL (e1+e2)=e1+e2:=zW2;have a2:qW qL (t+(e1+e2))=t+(e1+e2):=zW2;obtain⟨u0,u1,_,_,_⟩:=hcH.out k (by omega)
   obtain⟨p0,p1,p2,p3,p4⟩:=hcH.out (k+1) hlt';obtain⟨v0,v1,_,_,_⟩:=hcH.out q hql;rw [hq] at p4;have ar:o+(k+1)*5=o+5+k*5:=by omega
   rw [ar] at p0 p1 p2 p3 p4;obtain⟨W2,hW2⟩:∃ W2,wr.alloc (.cells #[O qL (wy m.ways (k+1)).x,O qL (wy m.ways (k+1)).y,O qL (wy m.ways (k+1)).fix,O qL (wy m.ways (k+1)).wait,O qL (q:Int)] 65)=W2:=⟨_,rfl⟩;have hA:Below wr.heap.size wr W2:=by rw [<- hW2];exact (qK _ wr).alloc (qN _) _
   have H2:=H.below hA H.lt;have N2:Has W2 wr.heap.size #[O qL (wy m.ways (k+1)).x,O qL (wy m.ways (k+1)).y,O qL (wy m.ways (k+1)).fix,O qL (wy m.ways (k+1)).wait,O qL (q:Int)] 65:=by rw [<- hW2];exact Has.new wr _ _
   have hB2:Below w.heap.size w W2:=hB.trans (hA.mono hB.size);obtain⟨c0,c1,c2,c3,c4,c5,c6,c7,c8,c9,c10⟩:=Z4Q H2;have n0:=Low.fact (N2.cell (i:=0) rfl);have n1:=Low.fact (N2.cell (i:=1) rfl);have n4:=Low.fact (N2.cell (i:=4) rfl);have lu0:=Low.fact ((hB2.cell (p:=⟨b,o+k*5,none⟩) hb).trans u0);have lu1:=Low.fact ((hB2.cell (p:=⟨b,o+k*5+1,none⟩) hb).trans u1);have lv0:=Low.fact ((hB2.cell (p:=⟨b,o+q*5,none⟩) hb).trans v0);have lv1:=Low.fact ((hB2.cell (p:=⟨b,o+q*5+1,none⟩) hb).trans v1);have p0':=(hB.cell (p:=⟨b,o+5+k*5,none⟩) hb).trans p0;have p1':=(hB.cell (p:=⟨b,o+5+k*5+1,none⟩) hb).trans p1;have p2':=(hB.cell (p:=⟨b,o+5+k*5+2,none⟩) hb).trans p2;have p3':=(hB.cell (p:=⟨b,o+5+k*5+3,none⟩) hb).trans p3;have p4':=(hB.cell (p:=⟨b,o+5+k*5+4,none⟩) hb).trans p4;have hz2:=hA.size;have hW2':=qH hW2;have hg':=qH hg;have HH:=qH H2;have hHl:w.heap.size+1<=wr.heap.size:=H.lt;have hl1':=qH hl1;have hl2':=qH hl2;clear u0 u1 p0 p1 p2 p3 p4 v0 v1 ar hg hW2 N2 H2 H hq he1 he2 ht hl1 hl2;unfold Zc at *;go_wp2;rw [hW2'.out];have kl:k<m.ways.length:=by omega
   have kl':(k:Int)<(m.ways.length:Int):=by omega
   have ql':(q:Int)<(m.ways.length:Int):=by omega
   (refine Zh (by kernel_rfl) (by kernel_rfl) ?_;(iterate 27 (apply Zf;(case hw=>rfl);(case hval=>(intro w1 hw1;have hcx:=Low.cells hw1;simp only [Oper.quietAt];go_simp;first | done | (first | (go_at_call 59;with_reducible exact Low.calls hw1 (hl1'.out _)) | (go_at_call 59;with_reducible exact Low.calls hw1 (hl2'.out _))) | rfl | exact⟨rfl,rfl⟩));simp only [Act.put,zq4,zr4,zs4]));refine wpQuiet_nil ?_;intro w2 hw2)
   go_wp2;go_roundw
   case rel=>exact⟨k+1,by omega,by go_num,by rw [hg'.out],HH.out.below hw2.out (by omega),hB2.trans (hw2.out.mono hB2.size)⟩
   case measure=>simp [intOf];omega
  ·obtain rfl:k=m.ways.length-1:=by omega
   go_wp2;go_ret;exact⟨rfl,hB⟩
theorem v9_any (B:Nat) (m:Msn) (vw vh vr:Value) (w:World) (H:MsnBox w B m vw vh vr) (hm:legOk m) (hs:0<=m.start/\m.start<=100000) (hw:WaysAt w.heap.size w vw m.ways) (h2:2<=m.ways.length) (h41:m.ways.length<=41) (hwb:waysB m.ways=true) :
  Calls Tryz.prog 134 #[qP (some ⟨B,0,none⟩)] w fun e w'=>e=qR (qB (decide (grownV m<=100000)))/\Below w.heap.size w w':=by
 obtain⟨c0,c1,c2,c3,c4,c5,c6,c7,c8,c9,c10⟩:=Zg H;have hg:=Z9R m vw vh vr w hm hs hw h2 h41 hwb;have hg':=qH hg;clear hg hm hs hw h2 h41 hwb;unfold Zc at hg';go_enter Tryz.func134,Tryz.ntmps134;go_wp2_with (go_at_call 135;refine (hg'.out).mono ?_;rintro e w1 ⟨rfl,hb1⟩;have hz1:=hb1.size;try simp at hz1)
 go_ret;exact⟨rfl,zB2⟩
theorem v10_1 (B:Addr) (c:Bool) (w:World) (h:Calls Tryz.prog 122 #[qP (some B)] w fun e w'=>e=qR (qB c)/\Below w.heap.size w w') :
  Calls Tryz.prog 137 #[.func (.func 122) #[] #[qP (some B)]] w fun e w'=>e=qR (qB (!c))/\Below w.heap.size w w':=by
 have h':=qH h;clear h;go_enter Tryz.func137,Tryz.ntmps137;go_wp2_with (go_at_call 122;refine (h'.out).mono ?_;rintro e w1 ⟨rfl,hb1⟩;have hz1:=hb1.size;try simp at hz1)
 go_ret;exact⟨rfl,hb1⟩
theorem v10_2 (B:Addr) (c:Bool) (w:World) (h:Calls Tryz.prog 123 #[qP (some B)] w fun e w'=>e=qR (qB c)/\Below w.heap.size w w') :
  Calls Tryz.prog 137 #[.func (.func 123) #[] #[qP (some B)]] w fun e w'=>e=qR (qB (!c))/\Below w.heap.size w w':=by
 have h':=qH h;clear h;go_enter Tryz.func137,Tryz.ntmps137;go_wp2_with (go_at_call 123;refine (h'.out).mono ?_;rintro e w1 ⟨rfl,hb1⟩;have hz1:=hb1.size;try simp at hz1)
 go_ret;exact⟨rfl,hb1⟩
theorem v10_3 (B:Addr) (c:Bool) (w:World) (h:Calls Tryz.prog 125 #[qP (some B)] w fun e w'=>e=qR (qB c)/\Below w.heap.size w w') :
  Calls Tryz.prog 137 #[.func (.func 125) #[] #[qP (some B)]] w fun e w'=>e=qR (qB (!c))/\Below w.heap.size w w':=by
 have h':=qH h;clear h;go_enter Tryz.func137,Tryz.ntmps137;go_wp2_with (go_at_call 125;refine (h'.out).mono ?_;rintro e w1 ⟨rfl,hb1⟩;have hz1:=hb1.size;try simp at hz1)
 go_ret;exact⟨rfl,hb1⟩
theorem v10_4 (B:Addr) (c:Bool) (w:World) (h:Calls Tryz.prog 126 #[qP (some B)] w fun e w'=>e=qR (qB c)/\Below w.heap.size w w') :
  Calls Tryz.prog 137 #[.func (.func 126) #[] #[qP (some B)]] w fun e w'=>e=qR (qB (!c))/\Below w.heap.size w w':=by
 have h':=qH h;clear h;go_enter Tryz.func137,Tryz.ntmps137;go_wp2_with (go_at_call 126;refine (h'.out).mono ?_;rintro e w1 ⟨rfl,hb1⟩;have hz1:=hb1.size;try simp at hz1)
 go_ret;exact⟨rfl,hb1⟩
theorem v10_5 (B:Addr) (c:Bool) (w:World) (h:Calls Tryz.prog 129 #[qP (some B)] w fun e w'=>e=qR (qB c)/\Below w.heap.size w w') :
  Calls Tryz.prog 137 #[.func (.func 129) #[] #[qP (some B)]] w fun e w'=>e=qR (qB (!c))/\Below w.heap.size w w':=by
 have h':=qH h;clear h;go_enter Tryz.func137,Tryz.ntmps137;go_wp2_with (go_at_call 129;refine (h'.out).mono ?_;rintro e w1 ⟨rfl,hb1⟩;have hz1:=hb1.size;try simp at hz1)
 go_ret;exact⟨rfl,hb1⟩
theorem v10_6 (B:Addr) (c:Bool) (w:World) (h:Calls Tryz.prog 131 #[qP (some B)] w fun e w'=>e=qR (qB c)/\Below w.heap.size w w') :
  Calls Tryz.prog 137 #[.func (.func 131) #[] #[qP (some B)]] w fun e w'=>e=qR (qB (!c))/\Below w.heap.size w w':=by
 have h':=qH h;clear h;go_enter Tryz.func137,Tryz.ntmps137;go_wp2_with (go_at_call 131;refine (h'.out).mono ?_;rintro e w1 ⟨rfl,hb1⟩;have hz1:=hb1.size;try simp at hz1)
 go_ret;exact⟨rfl,hb1⟩
theorem v10_7 (B:Addr) (c:Bool) (w:World) (h:Calls Tryz.prog 132 #[qP (some B)] w fun e w'=>e=qR (qB c)/\Below w.heap.size w w') :
  Calls Tryz.prog 137 #[.func (.func 132) #[] #[qP (some B)]] w fun e w'=>e=qR (qB (!c))/\Below w.heap.size w w':=by
 have h':=qH h;clear h;go_enter Tryz.func137,Tryz.ntmps137;go_wp2_with (go_at_call 132;refine (h'.out).mono ?_;rintro e w1 ⟨rfl,hb1⟩;have hz1:=hb1.size;try simp at hz1)
 go_ret;exact⟨rfl,hb1⟩
theorem v10_8 (B:Addr) (c:Bool) (w:World) (h:Calls Tryz.prog 133 #[qP (some B)] w fun e w'=>e=qR (qB c)/\Below w.heap.size w w') :
  Calls Tryz.prog 137 #[.func (.func 133) #[] #[qP (some B)]] w fun e w'=>e=qR (qB (!c))/\Below w.heap.size w w':=by
 have h':=qH h;clear h;go_enter Tryz.func137,Tryz.ntmps137;go_wp2_with (go_at_call 133;refine (h'.out).mono ?_;rintro e w1 ⟨rfl,hb1⟩;have hz1:=hb1.size;try simp at hz1)
 go_ret;exact⟨rfl,hb1⟩
theorem v10_9 (B:Addr) (c:Bool) (w:World) (h:Calls Tryz.prog 134 #[qP (some B)] w fun e w'=>e=qR (qB c)/\Below w.heap.size w w') :
  Calls Tryz.prog 137 #[.func (.func 134) #[] #[qP (some B)]] w fun e w'=>e=qR (qB (!c))/\Below w.heap.size w w':=by
 have h':=qH h;clear h;go_enter Tryz.func137,Tryz.ntmps137;go_wp2_with (go_at_call 134;refine (h'.out).mono ?_;rintro e w1 ⟨rfl,hb1⟩;have hz1:=hb1.size;try simp at hz1)
 go_ret;exact⟨rfl,hb1⟩
theorem Z3W (b n : Nat) (hn : n <= 1000) (cl : Nat -> Value) (conds : Nat -> Bool) (w : World) (hc : ∀ j, j < n -> w.cell? ⟨b, j, none⟩ = some (cl j))
  (hC:∀ k,k<n->(∀ j,j<k->conds j=true)->∀ w1,Below w.heap.size w w1->Calls Tryz.prog 137 #[cl k] w1 fun e w'=>e=qR (qB (!conds k))/\Below w1.heap.size w1 w') (hb:b<w.heap.size) :
  Calls Tryz.prog 162 #[.slice (some ⟨b,0,none⟩) n n,.func (.func 137) #[] #[]] w (FoundQ (!decide (∀ j,j<n->conds j=true)) w):=by
 have hcH:=qH hc;have hCH:=qH hC;clear hc hC;go_enter Tryz.func162,Tryz.ntmps162;go_wp2
 go_loopw [8] (fun i wr=>∃ k:Nat,k<=n/\i=O qL k/\(∀ j,j<k->conds j=true)/\Below w.heap.size w wr) (fun i _=>n-(intOf i).toNat)
 case atStart=>exact⟨0,Nat.zero_le _,rfl,fun j h=>by omega,qK _ _⟩
 case round =>
  obtain⟨k,hk,rfl,hall,hB⟩:=hrel;by_cases hlt:k<n
  ·have c1:=(hB.cell (p:=⟨b,k,none⟩) hb).trans (hcH.out k hlt)
   have hv:=hCH.out k hlt hall wr hB;have hall':=qH hall;have hv':=qH hv;clear hall hv;have hz:=hB.size;cases hpl:conds k
   ·have hr:Hid (decide (∀ j,j<n->conds j=true)=false):=by
     show decide (∀ j,j<n->conds j=true)=false
     simp only [decide_eq_false_iff_not];intro h;have:=h k hlt;rw [hpl] at this;cases this
    rw [hpl] at hv';have hpl':=qH hpl;clear hpl;go_wp2_with (go_at_call 137;refine (hv'.out).mono ?_;rintro e w1 ⟨rfl,hb1⟩;have hz1:=hb1.size;try simp at hz1)
    go_ret;exact⟨k,rfl,by omega,by omega,by rw [hr.out];simp,zB2⟩
   ·rw [hpl] at hv'
    have hpl':=qH hpl;clear hpl;go_wp2_with (go_at_call 137;refine (hv'.out).mono ?_;rintro e w1 ⟨rfl,hb1⟩;have hz1:=hb1.size;try simp at hz1)
    go_roundw
    case rel =>
     refine⟨k+1,by omega,by go_num,fun j hj=>?_,zB2⟩
     by_cases e:j=k
     ·rw [e];exact hpl'.out
     ·exact hall'.out j (by omega)
    case measure=>simp [intOf];omega
  ·have hr:Hid (decide (∀ j,j<n->conds j=true)=true):=by
    show decide (∀ j,j<n->conds j=true)=true
    simp only [decide_eq_true_eq];intro j hj;exact hall j (by omega)
   clear hall;go_wp2;go_ret;exact⟨-1,rfl,by omega,by omega,by rw [hr.out];simp,hB⟩
theorem Z2x (b n:Nat) (hn:n<=1000) (cl:Nat->Value) (conds:Nat->Bool) (w:World) (hc:∀ j,j<n->w.cell? ⟨b,j,none⟩=some (cl j))
  (hC:∀ k,k<n->(∀ j,j<k->conds j=true)->∀ w1,Below w.heap.size w w1->Calls Tryz.prog 137 #[cl k] w1 fun e w'=>e=qR (qB (!conds k))/\Below w1.heap.size w1 w') (hb:b<w.heap.size) :
  Calls Tryz.prog 136 #[.slice (some ⟨b,0,none⟩) n n,.func (.func 137) #[] #[]] w fun e w'=>e=qR (qB (!decide (∀ j,j<n->conds j=true)))/\Below w.heap.size w w':=by
 have hI:=qH (Z3W b n hn cl conds w hc hC hb);clear hc hC;go_enter Tryz.func136,Tryz.ntmps136;go_wp2_with (go_at_call 162;refine Calls.mono hI.out ?_;rintro e w1 ⟨r,rfl,r1,r2,r3,hb1⟩);go_ret;exact⟨by first | rfl | exact Zs r3,hb1⟩
noncomputable def condB (m:Msn):Nat->Bool
 | 0=>sizesB m
 | 1=>waysB m.ways
 | 2=>Zb m.home
 | 3=>rocksB m.rocks
 | 4=>inB m.start 0 100000 && inB m.speed 1 20000
 | 5=>inB m.part 0 500 && inB m.flow 0 5000
 | 6=>inB m.idle 0 1000 && inB m.drive 0 1000
 | 7=>inB m.battery 0 1000000000 && inB m.deadline 0 1000000000
 | 8=>decide (grownV m<=100000)
 | _=>true
def clV (B:Nat):Nat->Value
 | 0=>.func (.func 122) #[] #[qP (some ⟨B,0,none⟩)]
 | 1=>.func (.func 123) #[] #[qP (some ⟨B,0,none⟩)]
 | 2=>.func (.func 125) #[] #[qP (some ⟨B,0,none⟩)]
 | 3=>.func (.func 126) #[] #[qP (some ⟨B,0,none⟩)]
 | 4=>.func (.func 129) #[] #[qP (some ⟨B,0,none⟩)]
 | 5=>.func (.func 131) #[] #[qP (some ⟨B,0,none⟩)]
 | 6=>.func (.func 132) #[] #[qP (some ⟨B,0,none⟩)]
 | 7=>.func (.func 133) #[] #[qP (some ⟨B,0,none⟩)]
 | _=>.func (.func 134) #[] #[qP (some ⟨B,0,none⟩)]
noncomputable def validB (m:Msn):Bool:=(List.range 9).all (condB m)
theorem Z3Z (m:Msn):validB m=true↔∀ j,j<9->condB m j=true:=by simp [validB,List.all_eq_true]
theorem Z0Y {m:Msn} (h:sizesB m=true):2<=m.ways.length/\m.ways.length<=41/\m.rocks.length<=100:=by simpa [sizesB] using h
structure VMsn (m:Msn):Prop where
 n2:2<=m.ways.length
 n41:m.ways.length<=41
 nr:m.rocks.length<=100
 ways:waysB m.ways=true
 home:Zb m.home=true
 rocks:rocksB m.rocks=true
 start:0<=m.start/\m.start<=100000
 leg:legOk m
 idle:0<=m.idle/\m.idle<=1000
 drive:0<=m.drive/\m.drive<=1000
 battery:0<=m.battery/\m.battery<=1000000000
 deadline:0<=m.deadline/\m.deadline<=1000000000
 grown:grownV m<=100000
theorem Zj (m:Msn):validB m=true↔VMsn m:=by
 rw [Z3Z];constructor
 ·intro h
  have h0:=h 0 (by omega);have h1:=h 1 (by omega);have h2:=h 2 (by omega);have h3:=h 3 (by omega);have h4:=h 4 (by omega)
  have h5:=h 5 (by omega);have h6:=h 6 (by omega);have h7:=h 7 (by omega);have h8:=h 8 (by omega)
  simp only [condB,Bool.and_eq_true] at h0 h1 h2 h3 h4 h5 h6 h7 h8;have s:=Z0Y h0;have a:=ZM h4.1;have b:=ZM h4.2;have c:=ZM h5.1;have d:=ZM h5.2;exact⟨s.1,s.2.1,s.2.2,h1,h2,h3,a,⟨b.1,b.2,c.1,c.2,d.1,d.2⟩,ZM h6.1,ZM h6.2,ZM h7.1,ZM h7.2,by simpa using h8⟩
 ·intro v j hj
  obtain⟨n2,n41,nr,ways,home,rocks,start,⟨l1,l2,l3,l4,l5,l6⟩,idle,drive,battery,deadline,grown⟩:=v
  match j,hj with
  | 0,_=>simp [condB,sizesB];omega
  | 1,_=>exact ways
  | 2,_=>exact home
  | 3,_=>exact rocks
  | 4,_=>simp [condB,inB];omega
  | 5,_=>simp [condB,inB];omega
  | 6,_=>simp [condB,inB];omega
  | 7,_=>simp [condB,inB];omega
  | 8,_=>simpa [condB] using grown
theorem Zak (B:Nat) (m:Msn) (vw vh vr:Value) (w:World) (H:MsnBox w B m vw vh vr) (hm:MsnAt w.heap.size w m vw vh vr) :
  ∀ k,k<9->(∀ j,j<k->condB m j=true)->Calls Tryz.prog 137 #[clV B k] w fun e w'=>e=qR (qB (!condB m k))/\Below w.heap.size w w':=by
 obtain⟨hw,hh,hr⟩:=hm;intro k hk hj
 match k,hk,hj with
 | 0,_,_=>exact v10_1 _ _ w (v1_any B m vw vh vr w H hw hr)
 | 1,_,hj=>exact v10_2 _ _ w (v2_any B m vw vh vr w H hw (by have:=Z0Y (hj 0 (by omega));omega))
 | 2,_,_=>exact v10_3 _ _ w (v3_any B m vw vh vr w H hh)
 | 3,_,_=>exact v10_4 _ _ w (v4_any B m vw vh vr w H hr)
 | 4,_,_=>exact v10_5 _ _ w (v5_any B m vw vh vr w H)
 | 5,_,_=>exact v10_6 _ _ w (v6_any B m vw vh vr w H)
 | 6,_,_=>exact v10_7 _ _ w (v7_any B m vw vh vr w H)
 | 7,_,_=>exact v10_8 _ _ w (v8_any B m vw vh vr w H)
 | 8, _, hj =>
  have s:=Z0Y (hj 0 (by omega))
  have h4:=hj 4 (by omega)
  have h5:=hj 5 (by omega)
  simp only [condB,Bool.and_eq_true] at h4 h5;have a:=ZM h4.1;have b:=ZM h4.2;have c:=ZM h5.1;have d:=ZM h5.2;exact v10_9 _ _ w (v9_any B m vw vh vr w H ⟨b.1,b.2,c.1,c.2,d.1,d.2⟩ a hw s.1 s.2.1 (hj 1 (by omega)))
theorem Z0L (m:Msn) (vw vh vr:Value) (w:World) (hm:MsnAt w.heap.size w m vw vh vr) :
  Calls Tryz.prog 74 #[qA (Zc m vw vh vr)] w fun e w'=>e=qR (qB (validB m))/\Below w.heap.size w w':=by
 have HB:MsnBox (w.alloc (.cells (Zc m vw vh vr) 26)) w.heap.size m vw vh vr:=Has.new w _ _;have hB1:Below w.heap.size w (w.alloc (.cells (Zc m vw vh vr) 26)):=(qK _ _).alloc (qN _) _;have HB':=qH HB;have hB1':=qH hB1;have hm':=qH hm;clear HB hB1 hm;unfold Zc at *;go_enter Tryz.func74,Tryz.ntmps74;go_wp2_with fail;refine Calls.mono (Z2x (w.heap.size+1) 9 (by omega) (clV w.heap.size) (condB m) _ ?hc ?hC ?hb) ?_
 case hb=>simp
 case hc =>
  intro j hj
  match j,hj with
  | 0,_=>simp [go_sem,clV]
  | 1,_=>simp [go_sem,clV]
  | 2,_=>simp [go_sem,clV]
  | 3,_=>simp [go_sem,clV]
  | 4,_=>simp [go_sem,clV]
  | 5,_=>simp [go_sem,clV]
  | 6,_=>simp [go_sem,clV]
  | 7,_=>simp [go_sem,clV]
  | 8,_=>simp [go_sem,clV]
 case hC =>
  intro k hk hj w1 hB;have b1:=(hB1'.out.alloc (by simp) _).trans (hB.mono (by first | omega | (simp;done) | (simp;omega)))
  have h1:MsnBox w1 w.heap.size m vw vh vr:=by
   refine (Has.below HB'.out ?_ (by simp:w.heap.size<w.heap.size+1))
   exact (((qK _ _).alloc (by simp) _).trans (hB.mono (by first | omega | (simp;done) | (simp;omega))))
  exact Zak w.heap.size m vw vh vr w1 h1 ((hm'.out.below b1).mono b1.size) k hk hj
 rintro e w1 ⟨rfl,hb1⟩;go_wp2;go_ret;refine⟨Zs ?_,?_⟩
 ·rw [Bool.eq_iff_iff,Z3Z];simp
 ·exact (hB1'.out.alloc (by simp) _).trans (hb1.mono (by first | omega | (simp;done) | (simp;omega)))
def ixB (m:Msn) (i:Int):Bool:=decide (0<=i/\i<m.ways.length)
theorem Z2V {m:Msn} {i:Int} (h:ixB m i=true):∃ k:Nat,i=k/\k<m.ways.length:=by
 have:0<=i/\i<m.ways.length:=by simpa [ixB] using h
 exact⟨i.toNat,by omega,by omega⟩
theorem Z5L {m:Msn} {i:Int} (h:ixB m i=false):i<0\/(0<=i/\(m.ways.length:Int)<=i):=by
 have:¬ (0<=i/\i<m.ways.length):=by simpa [ixB] using h
 omega
theorem Z5K {m:Msn} {k:Nat} (h:k<m.ways.length):ixB m k=true:=by simp [ixB];omega
theorem Z2S (m : Msn) (vw vh vr : Value) (i : Int) (w : World) (hm : MsnAt w.heap.size w m vw vh vr) :
  Calls Tryz.prog 58 #[qA (Zc m vw vh vr),O qL i] w fun e w'=>e=qR (qB (validB m && ixB m i))/\Below w.heap.size w w':=by
 have hv:=qH (Z0L m vw vh vr (w.alloc (.cells (Zc m vw vh vr) 26)) ((hm.below ((qK _ _).alloc (qN _) _)).mono (by simp)))
 obtain⟨⟨hl,a,cap,rfl,_⟩,_,_⟩:=hm;unfold Zc at *;cases h:validB m
 ·rw [h] at hv
  have h':=qH h;clear h;go_enter Tryz.func58,Tryz.ntmps58;go_wp2_with (go_at_call 74;refine (hv.out).mono ?_;rintro e w1 ⟨rfl,hb1⟩;obtain⟨hc1,hf1⟩:=bcell hb1;have hz1:=hb1.size;try simp at hz1)
  go_ret;exact⟨rfl,zB2⟩
 ·rw [h] at hv
  have h':=qH h;clear h;cases hi:ixB m i
  ·rcases Z5L hi with h1 | ⟨h1,h2⟩
   ·have d1:decide (0<=i)=false:=by simp;omega
    clear hi h1;go_enter Tryz.func58,Tryz.ntmps58;go_wp2_with (go_at_call 74;refine (hv.out).mono ?_;rintro e w1 ⟨rfl,hb1⟩;obtain⟨hc1,hf1⟩:=bcell hb1;have hz1:=hb1.size;try simp at hz1)
    go_ret;exact⟨rfl,zB2⟩
   ·have d1:decide (0<=i)=true:=by simp;omega
    have d2:decide (i<(m.ways.length:Int))=false:=by simp;omega
    clear hi h1 h2;go_enter Tryz.func58,Tryz.ntmps58;go_wp2_with (go_at_call 74;refine (hv.out).mono ?_;rintro e w1 ⟨rfl,hb1⟩;obtain⟨hc1,hf1⟩:=bcell hb1;have hz1:=hb1.size;try simp at hz1)
    go_ret;exact⟨rfl,zB2⟩
  ·obtain⟨k,rfl,hk⟩:=Z2V hi
   clear hi;go_enter Tryz.func58,Tryz.ntmps58;go_wp2_with (go_at_call 74;refine (hv.out).mono ?_;rintro e w1 ⟨rfl,hb1⟩;obtain⟨hc1,hf1⟩:=bcell hb1;have hz1:=hb1.size;try simp at hz1)
   go_ret;exact⟨rfl,zB2⟩
theorem leg_no (m:Msn) (vw vh vr:Value) (i j:Int) (w:World) (hm:MsnAt w.heap.size w m vw vh vr) (hE:(validB m && ixB m i && ixB m j)=false) :
  Calls Tryz.prog 20 #[qA (Zc m vw vh vr),O qL i,O qL j] w fun e w'=>e=qR (.tuple #[O qL 0,O qL 0,O qL 0,O qL 1])/\Below w.heap.size w w':=by
 have hv:=qH (Z2S m vw vh vr i (w.alloc (.cells (Zc m vw vh vr) 26)) ((hm.below ((qK _ _).alloc (qN _) _)).mono (by simp)))
 obtain⟨⟨hl,a,cap,rfl,_⟩,_,_⟩:=hm;unfold Zc at *;cases h:validB m && ixB m i
 ·rw [h] at hv
  have h':=qH h;clear h hE;go_enter Tryz.func20,Tryz.ntmps20;go_wp2_with (go_at_call 58;refine (hv.out).mono ?_;rintro e w1 ⟨rfl,hb1⟩;obtain⟨hc1,hf1⟩:=bcell hb1;have hz1:=hb1.size;try simp at hz1)
  refine bodyPost_ret (v:=.tuple #[O qL 0,O qL 0,O qL 0,O qL 1]) (by simp [results,Tryz.f20,go_sem]) rfl ⟨rfl,zB2⟩
 ·rw [h] at hv hE
  have hj:ixB m j=false:=by simpa using hE
  have h':=qH h;clear h hE;rcases Z5L hj with h1 | ⟨h1,h2⟩
  ·have d1:decide (j<0)=true:=by simp;omega
   clear hj h1;go_enter Tryz.func20,Tryz.ntmps20;go_wp2_with (go_at_call 58;refine (hv.out).mono ?_;rintro e w1 ⟨rfl,hb1⟩;obtain⟨hc1,hf1⟩:=bcell hb1;have hz1:=hb1.size;try simp at hz1)
   refine bodyPost_ret (v:=.tuple #[O qL 0,O qL 0,O qL 0,O qL 1]) (by simp [results,Tryz.f20,go_sem]) rfl ⟨rfl,zB2⟩
  ·have d1:decide (j<0)=false:=by simp;omega
   have d2:decide ((m.ways.length:Int)<=j)=true:=by simp;omega
   clear hj h1 h2;go_enter Tryz.func20,Tryz.ntmps20;go_wp2_with (go_at_call 58;refine (hv.out).mono ?_;rintro e w1 ⟨rfl,hb1⟩;obtain⟨hc1,hf1⟩:=bcell hb1;have hz1:=hb1.size;try simp at hz1)
   refine bodyPost_ret (v:=.tuple #[O qL 0,O qL 0,O qL 0,O qL 1]) (by simp [results,Tryz.f20,go_sem]) rfl ⟨rfl,zB2⟩
theorem Z9r (m:Msn) (vw vh vr:Value) (i j:Nat) (w:World) (hm:MsnAt w.heap.size w m vw vh vr) (hV:validB m=true) (hi:i<m.ways.length) (hj:j<m.ways.length) :
  Calls Tryz.prog 20 #[qA (Zc m vw vh vr),O qL i,O qL j] w fun e w'=>e=qR (.tuple #[O qL (dLeg m i j),O qL (tLeg m i j),O qL (gLeg m i j),O qL 0])/\Below w.heap.size w w':=by
 have hv:=Z2S m vw vh vr i (w.alloc (.cells (Zc m vw vh vr) 26)) ((hm.below ((qK _ _).alloc (qN _) _)).mono (by simp))
 rw [hV,Z5K hi] at hv;have hv:=qH hv;obtain⟨⟨hl,a,cap,rfl,hc⟩,_,_⟩:=hm;obtain⟨b,o,rfl,hb,hc2⟩:∃ b o,a=some ⟨b,o,none⟩/\b<w.heap.size/\∀ j,j<m.ways.length->w.cell? ⟨b,o+j*5,none⟩=some (O qL (wy m.ways j).x)/\w.cell? ⟨b,o+j*5+1,none⟩=some (O qL (wy m.ways j).y)/\w.cell? ⟨b,o+j*5+2,none⟩=some (O qL (wy m.ways j).fix)/\w.cell? ⟨b,o+j*5+3,none⟩=some (O qL (wy m.ways j).wait)/\w.cell? ⟨b,o+j*5+4,none⟩=some (O qL (wy m.ways j).back):=by
  rcases hc with h0 | h
  ·rw [h0] at hi;simp at hi
  ·exact h
 clear hc;have V:=(Zj m).1 hV;have hl1:=fun w1=>Z6C m (.slice (some ⟨b,o,none⟩) m.ways.length (m.ways.length+cap)) vh vr (wy m.ways i).x (wy m.ways i).y (wy m.ways j).x (wy m.ways j).y w1 V.leg (Z07 V.ways hi) (Z07 V.ways hj)
 unfold legVal at hl1;have hl1':=qH hl1;have V':=qH V;obtain⟨u0,u1,_,_,_⟩:=hc2 i hi;obtain⟨v0,v1,_,_,_⟩:=hc2 j hj;unfold dLeg tLeg gLeg dLeg;generalize distV (wy m.ways i).x (wy m.ways i).y (wy m.ways j).x (wy m.ways j).y=d at *;generalize lastsV m.speed d=t at *;generalize growthV m.speed m.part m.flow d=g at *;have HH:=Has.new w (Zc m (.slice (some ⟨b,o,none⟩) m.ways.length (m.ways.length+cap)) vh vr) 26;have H':=qH HH;have hk1:(i:Int)<m.ways.length:=by omega
 have hk2:(j:Int)<m.ways.length:=by omega
 clear hl1 V hc2 HH hV;unfold Zc at *;go_enter Tryz.func20,Tryz.ntmps20;go_wp2_with (go_at_call 58;refine (hv.out).mono ?_;rintro e w1 ⟨rfl,hb1⟩;obtain⟨hc1,hf1⟩:=bcell hb1;have hz1:=hb1.size;try simp at hz1)
 have B1:Below (w.heap.size+1) _ w1:=hb1.mono (by simp)
 have H1:=Has.below H'.out B1 (by omega)
 have W1:Below w.heap.size w w1:=((qK _ w).alloc (qN _) _).trans (hb1.mono (by simp))
 obtain⟨c0,c1,c2,c3,c4,c5,c6,c7,c8,c9,c10⟩:=Z4Q (m:=m) (vw:=.slice (some ⟨b,o,none⟩) m.ways.length (m.ways.length+cap)) (vh:=vh) (vr:=vr) H1;have lu0:=Low.fact ((W1.cell (p:=⟨b,o+i*5,none⟩) hb).trans u0);have lu1:=Low.fact ((W1.cell (p:=⟨b,o+i*5+1,none⟩) hb).trans u1);have lv0:=Low.fact ((W1.cell (p:=⟨b,o+j*5,none⟩) hb).trans v0);have lv1:=Low.fact ((W1.cell (p:=⟨b,o+j*5+1,none⟩) hb).trans v1);have z1:b<w1.heap.size:=by omega
 have z2:w.heap.size<w1.heap.size:=by omega
 have i0:(0:Int)<=i:=by omega
 have j0:(0:Int)<=j:=by omega
 clear u0 u1 v0 v1 H1 hb1 hc1 hf1 B1
 (refine (wpIn_wide (n:=9)).1 ?_;refine Z1H (Zk _) 15 14 10 _ 110 #[O qL 0,O qL 0,O qL 0] rfl rfl rfl (by decide) (by kernel_rfl) (by kernel_rfl) (by kernel_rfl) (by kernel_rfl) (by kernel_rfl) ?hal ?_;(case hal=>(intro a1 w1;go_simp));simp only [List.set_cons_succ,List.set_cons_zero,List.take_succ_cons,List.take_zero,List.drop_succ_cons,List.drop_zero];(iterate 15 (apply Zb6;(case hw=>rfl);(case hval=>(intro w1 hw1;have hcx:=Low.cells hw1;simp only [lowAt];go_simp;first | done | (first | (go_at_call 59;with_reducible exact (hl1'.out _))) | rfl | exact⟨rfl,rfl⟩));simp only [Act.put,zq4,zr4,zs4]));refine Zce ?_;intro w2 m2 hw2 hm2 hx2)
 have x0:=Zl hx2 (i:=0) rfl;have x1:=Zl hx2 (i:=1) rfl;have x2:=Zl hx2 (i:=2) rfl;have y0:=Ze hx2 0;have y1:=Ze hx2 1;have y2:=Ze hx2 2;gi_wp2;go_wp2
 go_quiet (fail)
 go_wp2;refine bodyPost_ret (v:=.tuple #[O qL d,O qL t,O qL g,O qL 0]) (by simp [results,Tryz.f20,go_sem]) rfl ⟨rfl,?_⟩
 have Bf:Below w.heap.size w w2:=W1.trans (hw2.out.mono (by omega))
 have hm3:w.heap.size<=m2:=by omega
 exact Z3N (((Bf.setCell hm3 _).setCell hm3 _).setCell hm3 _) _
end
end Go.Proofs.YthipcinibldgnaaGreat
