/- mission.between | mission.Valid's closures that read numbers alone, the one on home. | mission.Valid's closures on the lists: sizes, ways, rocks. | .. -/
import Derived.BigFrameIn
import Derived.Test.YthipcinibldgnaaGreatBin04
import Derived.LoopTactic
open Go.Value renaming int->O,pointer->qP,slice->qS,bool->qB,agg->qA
open Go.Ending renaming returned->qR
open Go.IntKind renaming wrap->qW,i64->qL
open Go.Lib renaming hid->qH
open Go.RowKit.Below renaming refl->qK
open Nat renaming le_refl->qN
open And renaming intro->qI
set_option maxRecDepth 4000
set_option maxHeartbeats 1600000
namespace Go.Proofs.YthipcinibldgnaaGreat
section
attribute [local irreducible] wpQuiet
open Go.RowKit
def legVal (m:Msn) (ax ay bx by':Int):Value:=qA #[O qL (distV ax ay bx by'),O qL (lastsV m.speed (distV ax ay bx by')),O qL (growthV m.speed m.part m.flow (distV ax ay bx by'))]
theorem Z2Z (m:Msn) (vw vh vr:Value) (ax ay:Int) (w:World) :
  Calls Tryz.prog 59 #[qA (Zc m vw vh vr),qA #[O qL ax,O qL ay],qA #[O qL ax,O qL ay]] w fun e w'=>e=qR (legVal m ax ay ax ay)/\Below w.heap.size w w':=by
 unfold legVal;rw [ZaJ,Z4w,Z70];unfold Zc;go_enter Tryz.func59,Tryz.ntmps59;go_wp2;refine bodyPost_ret (v:=qA #[O qL 0,O qL 0,O qL 0]) (by simp [results,Tryz.f59,go_sem]) rfl ⟨rfl,zB2⟩
theorem Z90 (m:Msn) (vw vh vr:Value) (ax ay bx by':Int) (w:World) (hm:legOk m) (ha:nearP ax ay) (hb:nearP bx by') (d0:(ax == bx)=false) (hlt:(isqrt ((ax-bx)*(ax-bx)+(ay-by')*(ay-by')).toNat:Int)*isqrt ((ax-bx)*(ax-bx)+(ay-by')*(ay-by')).toNat<((ax-bx)*(ax-bx)+(ay-by')*(ay-by'))) :
  Calls Tryz.prog 59 #[qA (Zc m vw vh vr),qA #[O qL ax,O qL ay],qA #[O qL bx,O qL by']] w fun e w'=>e=qR (legVal m ax ay bx by')/\Below w.heap.size w w':=by
 obtain⟨G,m2,Q,X,m5,m6⟩:=hm;obtain⟨S,a2,N,a4⟩:=ha;obtain⟨b1,K,R,Y⟩:=hb;have Z:=sq_bd (a:=ax-bx) (m:=600000) (by omega) (by omega)
 have M:=sq_bd (a:=ay-by') (m:=600000) (by omega) (by omega)
 have p':qW qL ((ax-bx)*(ax-bx))=(ax-bx)*(ax-bx):=zW2;have q':qW qL ((ay-by')*(ay-by'))=(ay-by')*(ay-by'):=zW2
 have r':qW qL ((ax-bx)*(ax-bx)+(ay-by')*(ay-by'))=(ax-bx)*(ax-bx)+(ay-by')*(ay-by'):=zW2
 have u:=Z3W S a2 N a4 b1 K R Y;obtain⟨s,hs⟩:∃ s,(ax-bx)*(ax-bx)+(ay-by')*(ay-by')=s:=⟨_,rfl⟩
 rw [hs] at hlt;obtain⟨n,o⟩:∃ n,distV ax ay bx by'=n:=⟨_,rfl⟩
 have V:rootV s=isqrt s.toNat:=by simp [rootV,badN];intro h;omega
 have hi:=Z29 (m:=s.toNat) (n:=1000000) (by omega)
 have T:=(Z07 s.toNat).1;have A:qW qL ((isqrt s.toNat:Int)*isqrt s.toNat)=(isqrt s.toNat:Int)*isqrt s.toNat:=IntWalk.i64_in _ (by
  have:(isqrt s.toNat:Int)*isqrt s.toNat=((isqrt s.toNat*isqrt s.toNat:Nat):Int):=by simp
  omega)
 have c:rootUp s=n:=by rw [<- hs,<- o];rfl
 unfold legVal;rw [o];rw [o] at u;rw [hs] at r' u;obtain⟨_,_,H,I⟩:=u;obtain⟨L,g2,P,g4,W,g6⟩:=Z14 (speed:=m.speed) (part:=m.part) (flow:=m.flow) H I G Q X m5 m6;have l:=Z1J H I G;have x1:qW qL (n*m.part)=n*m.part:=zW2;have x2:qW qL (lastsV m.speed n*m.flow)=lastsV m.speed n*m.flow:=zW2;have x3:qW qL (100*n)=100*n:=zW2;have c1:=Z0u (a:=n*m.part) (b:=1000) L (by omega)
 have c2:=Z0u (a:=lastsV m.speed n*m.flow) (b:=100) P (by omega)
 have x4:qW qL (cdiv (n*m.part) 1000+cdiv (lastsV m.speed n*m.flow) 100)=cdiv (n*m.part) 1000+cdiv (lastsV m.speed n*m.flow) 100:=zW2;have J:∀ w1,Calls Tryz.prog 110 #[O qL (100*n),O qL m.speed] w1 fun e w'=>e=qR (O qL (lastsV m.speed n))/\Below w1.heap.size w1 w':=fun w1=>Z0d _ _ w1 (by omega) (by omega) (by omega) (by omega)
 have r:∀ w1,Calls Tryz.prog 110 #[O qL (n*m.part),O qL 1000] w1 fun e w'=>e=qR (O qL (cdiv (n*m.part) 1000))/\Below w1.heap.size w1 w':=fun w1=>Z0d _ _ w1 (by omega) (by omega) (by omega) (by omega)
 have x:∀ w1,Calls Tryz.prog 110 #[O qL (lastsV m.speed n*m.flow),O qL 100] w1 fun e w'=>e=qR (O qL (cdiv (lastsV m.speed n*m.flow) 100))/\Below w1.heap.size w1 w':=fun w1=>Z0d _ _ w1 (by omega) (by omega) (by omega) (by omega)
 unfold rootUp at c;clear Z M T hi c1 c2;unfold growthV;obtain⟨D,k⟩:∃ D:Int,(isqrt s.toNat:Int)=D:=⟨_,rfl⟩;rw [k] at V A c hlt;clear k W g6 o;unfold Zc;rw [if_pos hlt] at c;go_enter Tryz.func59,Tryz.ntmps59;go_wp2_with (first | (go_at_call 109;refine (Z33 _ _).mono ?_;rintro e w5 ⟨rfl,d⟩;obtain⟨g,p⟩:=bcell d;have z:=d.size;try simp at z) | (go_at_call 110;refine (J _).mono ?_;rintro e y ⟨rfl,f⟩;obtain⟨j,q⟩:=bcell f;have t:=f.size;try simp at t))
 have E:y.cell? ⟨w.heap.size,5,none⟩=some (O qL m.part):=by rw [j _ _ (by omega),g _ _ (by simp;omega)];simp [go_sem]
 have F:y.cell? ⟨w.heap.size,6,none⟩=some (O qL m.flow):=by rw [j _ _ (by omega),g _ _ (by simp;omega)];simp [go_sem]
 have l5:=Low.fact E;have l6:=Low.fact F;have z6:w.heap.size+1+1+1+1<=y.heap.size:=by omega
 have U:=d.trans (f.mono (by simp;omega))
 clear E F g j p q
 (refine (wpIn_wide (n:=9)).1 ?_;refine Zn (Zk _) 14 (by kernel_rfl) (by kernel_rfl) (by kernel_rfl) ?_;simp only [List.take_succ_cons,List.take_zero,List.drop_succ_cons,List.drop_zero];(iterate 14 (apply qw3;(case hw=>rfl);(case hval=>(intro w1 hw1 hcx;simp only [Oper.quietAt];go_simp;first | done | (first | (go_at_call 110;with_reducible exact Low.calls hw1 (r _)) | (go_at_call 110;with_reducible exact Low.calls hw1 (x _))) | rfl | exact⟨rfl,rfl⟩));simp only [Act.put,zq4,zr4,zs4]));refine wpQuiet_nil ?_;intro w2 hw2)
 have B:=U.trans (hw2.mono (by simp;omega))
 obtain⟨C,hf7⟩:=bcell B;gi_wp2;go_wp2;refine bodyPost_ret (v:=qA #[O qL n,O qL (lastsV m.speed n),O qL (cdiv (n*m.part) 1000+cdiv (lastsV m.speed n*m.flow) 100)]) ?_ rfl ⟨rfl,?_⟩
 ·simp [results,Tryz.f59,go_sem,C]
 ·refine Below.setCell (Below.setCell (Below.setCell ?_ (by simp;omega) _) (by simp;omega) _) (by simp;omega) _
  refine Below.trans ?_ (B.mono (by simp;omega))
  repeat (first | exact qK _ _ | assumption | apply Below.drew | refine Below.setCell ?_ (by first | omega | (simp;done) | (simp;omega)) _ | refine Below.alloc ?_ (by first | omega | (simp;done) | (simp;omega)) _ | refine Below.call (by assumption) ?_ (by first | omega | (simp;done) | (simp;omega)))
theorem Z8Z (m:Msn) (vw vh vr:Value) (ax ay bx by':Int) (w:World) (hm:legOk m) (ha:nearP ax ay) (hb:nearP bx by') (d0:(ax == bx)=false) (hlt:¬ (isqrt ((ax-bx)*(ax-bx)+(ay-by')*(ay-by')).toNat:Int)*isqrt ((ax-bx)*(ax-bx)+(ay-by')*(ay-by')).toNat<((ax-bx)*(ax-bx)+(ay-by')*(ay-by'))) :
  Calls Tryz.prog 59 #[qA (Zc m vw vh vr),qA #[O qL ax,O qL ay],qA #[O qL bx,O qL by']] w fun e w'=>e=qR (legVal m ax ay bx by')/\Below w.heap.size w w':=by
 obtain⟨G,m2,Q,X,m5,m6⟩:=hm;obtain⟨S,a2,N,a4⟩:=ha;obtain⟨b1,K,R,Y⟩:=hb;have Z:=sq_bd (a:=ax-bx) (m:=600000) (by omega) (by omega)
 have M:=sq_bd (a:=ay-by') (m:=600000) (by omega) (by omega)
 have p':qW qL ((ax-bx)*(ax-bx))=(ax-bx)*(ax-bx):=zW2;have q':qW qL ((ay-by')*(ay-by'))=(ay-by')*(ay-by'):=zW2
 have r':qW qL ((ax-bx)*(ax-bx)+(ay-by')*(ay-by'))=(ax-bx)*(ax-bx)+(ay-by')*(ay-by'):=zW2
 have x:=Z3W S a2 N a4 b1 K R Y;obtain⟨s,hs⟩:∃ s,(ax-bx)*(ax-bx)+(ay-by')*(ay-by')=s:=⟨_,rfl⟩
 rw [hs] at hlt;obtain⟨n,p⟩:∃ n,distV ax ay bx by'=n:=⟨_,rfl⟩
 have V:rootV s=isqrt s.toNat:=by simp [rootV,badN];intro h;omega
 have hi:=Z29 (m:=s.toNat) (n:=1000000) (by omega)
 have T:=(Z07 s.toNat).1;have C:qW qL ((isqrt s.toNat:Int)*isqrt s.toNat)=(isqrt s.toNat:Int)*isqrt s.toNat:=IntWalk.i64_in _ (by
  have:(isqrt s.toNat:Int)*isqrt s.toNat=((isqrt s.toNat*isqrt s.toNat:Nat):Int):=by simp
  omega)
 have c:rootUp s=n:=by rw [<- hs,<- p];rfl
 unfold legVal;rw [p];rw [p] at x;rw [hs] at r' x;obtain⟨_,_,H,I⟩:=x;obtain⟨L,g2,P,g4,W,g6⟩:=Z14 (speed:=m.speed) (part:=m.part) (flow:=m.flow) H I G Q X m5 m6;have l:=Z1J H I G;have x1:qW qL (n*m.part)=n*m.part:=zW2;have x2:qW qL (lastsV m.speed n*m.flow)=lastsV m.speed n*m.flow:=zW2;have x3:qW qL (100*n)=100*n:=zW2;have c1:=Z0u (a:=n*m.part) (b:=1000) L (by omega)
 have c2:=Z0u (a:=lastsV m.speed n*m.flow) (b:=100) P (by omega)
 have x4:qW qL (cdiv (n*m.part) 1000+cdiv (lastsV m.speed n*m.flow) 100)=cdiv (n*m.part) 1000+cdiv (lastsV m.speed n*m.flow) 100:=zW2;have J:∀ w1,Calls Tryz.prog 110 #[O qL (100*n),O qL m.speed] w1 fun e w'=>e=qR (O qL (lastsV m.speed n))/\Below w1.heap.size w1 w':=fun w1=>Z0d _ _ w1 (by omega) (by omega) (by omega) (by omega)
 have t:∀ w1,Calls Tryz.prog 110 #[O qL (n*m.part),O qL 1000] w1 fun e w'=>e=qR (O qL (cdiv (n*m.part) 1000))/\Below w1.heap.size w1 w':=fun w1=>Z0d _ _ w1 (by omega) (by omega) (by omega) (by omega)
 have y:∀ w1,Calls Tryz.prog 110 #[O qL (lastsV m.speed n*m.flow),O qL 100] w1 fun e w'=>e=qR (O qL (cdiv (lastsV m.speed n*m.flow) 100))/\Below w1.heap.size w1 w':=fun w1=>Z0d _ _ w1 (by omega) (by omega) (by omega) (by omega)
 unfold rootUp at c;clear Z M T hi c1 c2;unfold growthV;obtain⟨d,o⟩:∃ d:Int,(isqrt s.toNat:Int)=d:=⟨_,rfl⟩;rw [o] at V C c hlt;clear o W g6 p;unfold Zc;rw [if_neg hlt] at c;subst c;have d1:decide (d*d<s)=false:=by simpa using hlt
 clear hlt;go_enter Tryz.func59,Tryz.ntmps59;go_wp2_with (first | (go_at_call 109;refine (Z33 _ _).mono ?_;rintro e w5 ⟨rfl,f⟩;obtain⟨j,q⟩:=bcell f;have A:=f.size;try simp at A) | (go_at_call 110;refine (J _).mono ?_;rintro e z ⟨rfl,g⟩;obtain⟨k,r⟩:=bcell g;have u:=g.size;try simp at u))
 have E:z.cell? ⟨w.heap.size,5,none⟩=some (O qL m.part):=by rw [k _ _ (by omega),j _ _ (by simp;omega)];simp [go_sem]
 have F:z.cell? ⟨w.heap.size,6,none⟩=some (O qL m.flow):=by rw [k _ _ (by omega),j _ _ (by simp;omega)];simp [go_sem]
 have l5:=Low.fact E;have l6:=Low.fact F;have z6:w.heap.size+1+1+1+1<=z.heap.size:=by omega
 have U:=f.trans (g.mono (by simp;omega))
 clear E F j k q r
 (refine (wpIn_wide (n:=9)).1 ?_;refine Zn (Zk _) 14 (by kernel_rfl) (by kernel_rfl) (by kernel_rfl) ?_;simp only [List.take_succ_cons,List.take_zero,List.drop_succ_cons,List.drop_zero];(iterate 14 (apply qw3;(case hw=>rfl);(case hval=>(intro w1 hw1 hcx;simp only [Oper.quietAt];go_simp;first | done | (first | (go_at_call 110;with_reducible exact Low.calls hw1 (t _)) | (go_at_call 110;with_reducible exact Low.calls hw1 (y _))) | rfl | exact⟨rfl,rfl⟩));simp only [Act.put,zq4,zr4,zs4]));refine wpQuiet_nil ?_;intro w2 hw2)
 have B:=U.trans (hw2.mono (by simp;omega))
 obtain⟨D,hf7⟩:=bcell B;gi_wp2;go_wp2;refine bodyPost_ret (v:=qA #[O qL d,O qL (lastsV m.speed d),O qL (cdiv (d*m.part) 1000+cdiv (lastsV m.speed d*m.flow) 100)]) ?_ rfl ⟨rfl,?_⟩
 ·simp [results,Tryz.f59,go_sem,D]
 ·refine Below.setCell (Below.setCell (Below.setCell ?_ (by simp;omega) _) (by simp;omega) _) (by simp;omega) _
  refine Below.trans ?_ (B.mono (by simp;omega))
  repeat (first | exact qK _ _ | assumption | apply Below.drew | refine Below.setCell ?_ (by first | omega | (simp;done) | (simp;omega)) _ | refine Below.alloc ?_ (by first | omega | (simp;done) | (simp;omega)) _ | refine Below.call (by assumption) ?_ (by first | omega | (simp;done) | (simp;omega)))
theorem Z8Y (m:Msn) (vw vh vr:Value) (ax ay bx by':Int) (w:World) (hm:legOk m) (ha:nearP ax ay) (hb:nearP bx by') (d0:(ax == bx)=true) (d0':(ay == by')=false) (hlt:(isqrt ((ax-bx)*(ax-bx)+(ay-by')*(ay-by')).toNat:Int)*isqrt ((ax-bx)*(ax-bx)+(ay-by')*(ay-by')).toNat<((ax-bx)*(ax-bx)+(ay-by')*(ay-by'))) :
  Calls Tryz.prog 59 #[qA (Zc m vw vh vr),qA #[O qL ax,O qL ay],qA #[O qL bx,O qL by']] w fun e w'=>e=qR (legVal m ax ay bx by')/\Below w.heap.size w w':=by
 obtain⟨G,m2,Q,X,m5,m6⟩:=hm;obtain⟨S,a2,N,a4⟩:=ha;obtain⟨b1,K,R,Y⟩:=hb;have Z:=sq_bd (a:=ax-bx) (m:=600000) (by omega) (by omega)
 have M:=sq_bd (a:=ay-by') (m:=600000) (by omega) (by omega)
 have p':qW qL ((ax-bx)*(ax-bx))=(ax-bx)*(ax-bx):=zW2;have q':qW qL ((ay-by')*(ay-by'))=(ay-by')*(ay-by'):=zW2
 have r':qW qL ((ax-bx)*(ax-bx)+(ay-by')*(ay-by'))=(ax-bx)*(ax-bx)+(ay-by')*(ay-by'):=zW2
 have u:=Z3W S a2 N a4 b1 K R Y;obtain⟨s,hs⟩:∃ s,(ax-bx)*(ax-bx)+(ay-by')*(ay-by')=s:=⟨_,rfl⟩
 rw [hs] at hlt;obtain⟨n,o⟩:∃ n,distV ax ay bx by'=n:=⟨_,rfl⟩
 have V:rootV s=isqrt s.toNat:=by simp [rootV,badN];intro h;omega
 have hi:=Z29 (m:=s.toNat) (n:=1000000) (by omega)
 have T:=(Z07 s.toNat).1;have A:qW qL ((isqrt s.toNat:Int)*isqrt s.toNat)=(isqrt s.toNat:Int)*isqrt s.toNat:=IntWalk.i64_in _ (by
  have:(isqrt s.toNat:Int)*isqrt s.toNat=((isqrt s.toNat*isqrt s.toNat:Nat):Int):=by simp
  omega)
 have c:rootUp s=n:=by rw [<- hs,<- o];rfl
 unfold legVal;rw [o];rw [o] at u;rw [hs] at r' u;obtain⟨_,_,H,I⟩:=u;obtain⟨L,g2,P,g4,W,g6⟩:=Z14 (speed:=m.speed) (part:=m.part) (flow:=m.flow) H I G Q X m5 m6;have l:=Z1J H I G;have x1:qW qL (n*m.part)=n*m.part:=zW2;have x2:qW qL (lastsV m.speed n*m.flow)=lastsV m.speed n*m.flow:=zW2;have x3:qW qL (100*n)=100*n:=zW2;have c1:=Z0u (a:=n*m.part) (b:=1000) L (by omega)
 have c2:=Z0u (a:=lastsV m.speed n*m.flow) (b:=100) P (by omega)
 have x4:qW qL (cdiv (n*m.part) 1000+cdiv (lastsV m.speed n*m.flow) 100)=cdiv (n*m.part) 1000+cdiv (lastsV m.speed n*m.flow) 100:=zW2;have J:∀ w1,Calls Tryz.prog 110 #[O qL (100*n),O qL m.speed] w1 fun e w'=>e=qR (O qL (lastsV m.speed n))/\Below w1.heap.size w1 w':=fun w1=>Z0d _ _ w1 (by omega) (by omega) (by omega) (by omega)
 have r:∀ w1,Calls Tryz.prog 110 #[O qL (n*m.part),O qL 1000] w1 fun e w'=>e=qR (O qL (cdiv (n*m.part) 1000))/\Below w1.heap.size w1 w':=fun w1=>Z0d _ _ w1 (by omega) (by omega) (by omega) (by omega)
 have x:∀ w1,Calls Tryz.prog 110 #[O qL (lastsV m.speed n*m.flow),O qL 100] w1 fun e w'=>e=qR (O qL (cdiv (lastsV m.speed n*m.flow) 100))/\Below w1.heap.size w1 w':=fun w1=>Z0d _ _ w1 (by omega) (by omega) (by omega) (by omega)
 unfold rootUp at c;clear Z M T hi c1 c2;unfold growthV;obtain⟨D,k⟩:∃ D:Int,(isqrt s.toNat:Int)=D:=⟨_,rfl⟩;rw [k] at V A c hlt;clear k W g6 o;unfold Zc;rw [if_pos hlt] at c;go_enter Tryz.func59,Tryz.ntmps59;go_wp2_with (first | (go_at_call 109;refine (Z33 _ _).mono ?_;rintro e w5 ⟨rfl,d⟩;obtain⟨g,p⟩:=bcell d;have z:=d.size;try simp at z) | (go_at_call 110;refine (J _).mono ?_;rintro e y ⟨rfl,f⟩;obtain⟨j,q⟩:=bcell f;have t:=f.size;try simp at t))
 have E:y.cell? ⟨w.heap.size,5,none⟩=some (O qL m.part):=by rw [j _ _ (by omega),g _ _ (by simp;omega)];simp [go_sem]
 have F:y.cell? ⟨w.heap.size,6,none⟩=some (O qL m.flow):=by rw [j _ _ (by omega),g _ _ (by simp;omega)];simp [go_sem]
 have l5:=Low.fact E;have l6:=Low.fact F;have z6:w.heap.size+1+1+1+1<=y.heap.size:=by omega
 have U:=d.trans (f.mono (by simp;omega))
 clear E F g j p q
 (refine (wpIn_wide (n:=9)).1 ?_;refine Zn (Zk _) 14 (by kernel_rfl) (by kernel_rfl) (by kernel_rfl) ?_;simp only [List.take_succ_cons,List.take_zero,List.drop_succ_cons,List.drop_zero];(iterate 14 (apply qw3;(case hw=>rfl);(case hval=>(intro w1 hw1 hcx;simp only [Oper.quietAt];go_simp;first | done | (first | (go_at_call 110;with_reducible exact Low.calls hw1 (r _)) | (go_at_call 110;with_reducible exact Low.calls hw1 (x _))) | rfl | exact⟨rfl,rfl⟩));simp only [Act.put,zq4,zr4,zs4]));refine wpQuiet_nil ?_;intro w2 hw2)
 have B:=U.trans (hw2.mono (by simp;omega))
 obtain⟨C,hf7⟩:=bcell B;gi_wp2;go_wp2;refine bodyPost_ret (v:=qA #[O qL n,O qL (lastsV m.speed n),O qL (cdiv (n*m.part) 1000+cdiv (lastsV m.speed n*m.flow) 100)]) ?_ rfl ⟨rfl,?_⟩
 ·simp [results,Tryz.f59,go_sem,C]
 ·refine Below.setCell (Below.setCell (Below.setCell ?_ (by simp;omega) _) (by simp;omega) _) (by simp;omega) _
  refine Below.trans ?_ (B.mono (by simp;omega))
  repeat (first | exact qK _ _ | assumption | apply Below.drew | refine Below.setCell ?_ (by first | omega | (simp;done) | (simp;omega)) _ | refine Below.alloc ?_ (by first | omega | (simp;done) | (simp;omega)) _ | refine Below.call (by assumption) ?_ (by first | omega | (simp;done) | (simp;omega)))
theorem Z8X (m:Msn) (vw vh vr:Value) (ax ay bx by':Int) (w:World) (hm:legOk m) (ha:nearP ax ay) (hb:nearP bx by') (d0:(ax == bx)=true) (d0':(ay == by')=false) (hlt:¬ (isqrt ((ax-bx)*(ax-bx)+(ay-by')*(ay-by')).toNat:Int)*isqrt ((ax-bx)*(ax-bx)+(ay-by')*(ay-by')).toNat<((ax-bx)*(ax-bx)+(ay-by')*(ay-by'))) :
  Calls Tryz.prog 59 #[qA (Zc m vw vh vr),qA #[O qL ax,O qL ay],qA #[O qL bx,O qL by']] w fun e w'=>e=qR (legVal m ax ay bx by')/\Below w.heap.size w w':=by
 obtain⟨G,m2,Q,X,m5,m6⟩:=hm;obtain⟨S,a2,N,a4⟩:=ha;obtain⟨b1,K,R,Y⟩:=hb;have Z:=sq_bd (a:=ax-bx) (m:=600000) (by omega) (by omega)
 have M:=sq_bd (a:=ay-by') (m:=600000) (by omega) (by omega)
 have p':qW qL ((ax-bx)*(ax-bx))=(ax-bx)*(ax-bx):=zW2;have q':qW qL ((ay-by')*(ay-by'))=(ay-by')*(ay-by'):=zW2
 have r':qW qL ((ax-bx)*(ax-bx)+(ay-by')*(ay-by'))=(ax-bx)*(ax-bx)+(ay-by')*(ay-by'):=zW2
 have x:=Z3W S a2 N a4 b1 K R Y;obtain⟨s,hs⟩:∃ s,(ax-bx)*(ax-bx)+(ay-by')*(ay-by')=s:=⟨_,rfl⟩
 rw [hs] at hlt;obtain⟨n,p⟩:∃ n,distV ax ay bx by'=n:=⟨_,rfl⟩
 have V:rootV s=isqrt s.toNat:=by simp [rootV,badN];intro h;omega
 have hi:=Z29 (m:=s.toNat) (n:=1000000) (by omega)
 have T:=(Z07 s.toNat).1;have C:qW qL ((isqrt s.toNat:Int)*isqrt s.toNat)=(isqrt s.toNat:Int)*isqrt s.toNat:=IntWalk.i64_in _ (by
  have:(isqrt s.toNat:Int)*isqrt s.toNat=((isqrt s.toNat*isqrt s.toNat:Nat):Int):=by simp
  omega)
 have c:rootUp s=n:=by rw [<- hs,<- p];rfl
 unfold legVal;rw [p];rw [p] at x;rw [hs] at r' x;obtain⟨_,_,H,I⟩:=x;obtain⟨L,g2,P,g4,W,g6⟩:=Z14 (speed:=m.speed) (part:=m.part) (flow:=m.flow) H I G Q X m5 m6;have l:=Z1J H I G;have x1:qW qL (n*m.part)=n*m.part:=zW2;have x2:qW qL (lastsV m.speed n*m.flow)=lastsV m.speed n*m.flow:=zW2;have x3:qW qL (100*n)=100*n:=zW2;have c1:=Z0u (a:=n*m.part) (b:=1000) L (by omega)
 have c2:=Z0u (a:=lastsV m.speed n*m.flow) (b:=100) P (by omega)
 have x4:qW qL (cdiv (n*m.part) 1000+cdiv (lastsV m.speed n*m.flow) 100)=cdiv (n*m.part) 1000+cdiv (lastsV m.speed n*m.flow) 100:=zW2;have J:∀ w1,Calls Tryz.prog 110 #[O qL (100*n),O qL m.speed] w1 fun e w'=>e=qR (O qL (lastsV m.speed n))/\Below w1.heap.size w1 w':=fun w1=>Z0d _ _ w1 (by omega) (by omega) (by omega) (by omega)
 have t:∀ w1,Calls Tryz.prog 110 #[O qL (n*m.part),O qL 1000] w1 fun e w'=>e=qR (O qL (cdiv (n*m.part) 1000))/\Below w1.heap.size w1 w':=fun w1=>Z0d _ _ w1 (by omega) (by omega) (by omega) (by omega)
 have y:∀ w1,Calls Tryz.prog 110 #[O qL (lastsV m.speed n*m.flow),O qL 100] w1 fun e w'=>e=qR (O qL (cdiv (lastsV m.speed n*m.flow) 100))/\Below w1.heap.size w1 w':=fun w1=>Z0d _ _ w1 (by omega) (by omega) (by omega) (by omega)
 unfold rootUp at c;clear Z M T hi c1 c2;unfold growthV;obtain⟨d,o⟩:∃ d:Int,(isqrt s.toNat:Int)=d:=⟨_,rfl⟩;rw [o] at V C c hlt;clear o W g6 p;unfold Zc;rw [if_neg hlt] at c;subst c;have d1:decide (d*d<s)=false:=by simpa using hlt
 clear hlt;go_enter Tryz.func59,Tryz.ntmps59;go_wp2_with (first | (go_at_call 109;refine (Z33 _ _).mono ?_;rintro e w5 ⟨rfl,f⟩;obtain⟨j,q⟩:=bcell f;have A:=f.size;try simp at A) | (go_at_call 110;refine (J _).mono ?_;rintro e z ⟨rfl,g⟩;obtain⟨k,r⟩:=bcell g;have u:=g.size;try simp at u))
 have E:z.cell? ⟨w.heap.size,5,none⟩=some (O qL m.part):=by rw [k _ _ (by omega),j _ _ (by simp;omega)];simp [go_sem]
 have F:z.cell? ⟨w.heap.size,6,none⟩=some (O qL m.flow):=by rw [k _ _ (by omega),j _ _ (by simp;omega)];simp [go_sem]
 have l5:=Low.fact E;have l6:=Low.fact F;have z6:w.heap.size+1+1+1+1<=z.heap.size:=by omega
 have U:=f.trans (g.mono (by simp;omega))
 clear E F j k q r
 (refine (wpIn_wide (n:=9)).1 ?_;refine Zn (Zk _) 14 (by kernel_rfl) (by kernel_rfl) (by kernel_rfl) ?_;simp only [List.take_succ_cons,List.take_zero,List.drop_succ_cons,List.drop_zero];(iterate 14 (apply qw3;(case hw=>rfl);(case hval=>(intro w1 hw1 hcx;simp only [Oper.quietAt];go_simp;first | done | (first | (go_at_call 110;with_reducible exact Low.calls hw1 (t _)) | (go_at_call 110;with_reducible exact Low.calls hw1 (y _))) | rfl | exact⟨rfl,rfl⟩));simp only [Act.put,zq4,zr4,zs4]));refine wpQuiet_nil ?_;intro w2 hw2)
 have B:=U.trans (hw2.mono (by simp;omega))
 obtain⟨D,hf7⟩:=bcell B;gi_wp2;go_wp2;refine bodyPost_ret (v:=qA #[O qL d,O qL (lastsV m.speed d),O qL (cdiv (d*m.part) 1000+cdiv (lastsV m.speed d*m.flow) 100)]) ?_ rfl ⟨rfl,?_⟩
 ·simp [results,Tryz.f59,go_sem,D]
 ·refine Below.setCell (Below.setCell (Below.setCell ?_ (by simp;omega) _) (by simp;omega) _) (by simp;omega) _
  refine Below.trans ?_ (B.mono (by simp;omega))
  repeat (first | exact qK _ _ | assumption | apply Below.drew | refine Below.setCell ?_ (by first | omega | (simp;done) | (simp;omega)) _ | refine Below.alloc ?_ (by first | omega | (simp;done) | (simp;omega)) _ | refine Below.call (by assumption) ?_ (by first | omega | (simp;done) | (simp;omega)))
theorem Z6R (m:Msn) (vw vh vr:Value) (ax ay bx by':Int) (w:World) (hm:legOk m) (ha:nearP ax ay) (hb:nearP bx by') :
  Calls Tryz.prog 59 #[qA (Zc m vw vh vr),qA #[O qL ax,O qL ay],qA #[O qL bx,O qL by']] w fun e w'=>e=qR (legVal m ax ay bx by')/\Below w.heap.size w w':=by
 by_cases hlt:(isqrt ((ax-bx)*(ax-bx)+(ay-by')*(ay-by')).toNat:Int)*isqrt ((ax-bx)*(ax-bx)+(ay-by')*(ay-by')).toNat<((ax-bx)*(ax-bx)+(ay-by')*(ay-by'))
 ·by_cases hx:ax=bx
  ·by_cases hy:ay=by'
   ·subst hx;subst hy;exact Z2Z m vw vh vr ax ay w
   ·exact Z8Y m vw vh vr ax ay bx by' w hm ha hb (by simpa using hx) (by simpa using hy) hlt
  ·exact Z90 m vw vh vr ax ay bx by' w hm ha hb (by simpa using hx) hlt
 ·by_cases hx:ax=bx
  ·by_cases hy:ay=by'
   ·subst hx;subst hy;exact Z2Z m vw vh vr ax ay w
   ·exact Z8X m vw vh vr ax ay bx by' w hm ha hb (by simpa using hx) (by simpa using hy) hlt
  ·exact Z8Z m vw vh vr ax ay bx by' w hm ha hb (by simpa using hx) hlt
end
section
open Go.RowKit
def MsnBox (W:World) (B:Nat) (m:Msn) (vw vh vr:Value):Prop:=Has W B (Zc m vw vh vr) 26
theorem v5_any (B : Nat) (m : Msn) (vw vh vr : Value) (w : World) (H : MsnBox w B m vw vh vr) :
  Calls Tryz.prog 129 #[qP (some ⟨B,0,none⟩)] w fun e w'=>e=qR (qB (inB m.start 0 100000 && inB m.speed 1 20000))/\Below w.heap.size w w':=by
 obtain⟨l,k,q,g,r,p,n,o,j,f,c⟩:=Zh H;cases h:inB m.start 0 100000
 ·go_enter Tryz.func129,Tryz.ntmps129
  go_wp2_with (go_at_call 130;refine (ZO _ _ _).mono ?_;rintro e w' ⟨rfl,rfl⟩);go_ret;exact⟨rfl,zB2⟩
 ·cases h2:inB m.speed 1 20000
  ·rcases Z1r h2 with a | ⟨a,b⟩
   ·have d:decide (1<=m.speed)=false:=by simp;omega
    clear h2 a;go_enter Tryz.func129,Tryz.ntmps129;go_wp2_with (go_at_call 130;refine (ZO _ _ _).mono ?_;rintro e w' ⟨rfl,rfl⟩);go_ret;exact⟨rfl,zB2⟩
   ·have d:decide (m.speed<=20000)=false:=by simp;omega
    clear h2 b;go_enter Tryz.func129,Tryz.ntmps129;go_wp2_with (go_at_call 130;refine (ZO _ _ _).mono ?_;rintro e w' ⟨rfl,rfl⟩);go_ret;exact⟨rfl,zB2⟩
  ·obtain⟨a,b⟩:=ZQ h2
   clear h2;go_enter Tryz.func129,Tryz.ntmps129;go_wp2_with (go_at_call 130;refine (ZO _ _ _).mono ?_;rintro e w' ⟨rfl,rfl⟩);go_ret;exact⟨rfl,zB2⟩
theorem v3_any (B:Nat) (m:Msn) (vw vh vr:Value) (w:World) (H:MsnBox w B m vw vh vr) (hp:Z7 w.heap.size w vh m.home) :
  Calls Tryz.prog 125 #[qP (some ⟨B,0,none⟩)] w fun e w'=>e=qR (qB (Zb m.home))/\Below w.heap.size w w':=by
 obtain⟨d,r,l,o,n,k,f,g,q,j,c⟩:=Zh H;go_enter Tryz.func125,Tryz.ntmps125;go_wp2_with (go_at_call 63;refine (Zs _ _ _ hp).mono ?_;rintro e p ⟨rfl,b⟩;have a:=b.size;try simp at a)
 go_ret;exact⟨rfl,zB2⟩
theorem v6_any (B:Nat) (m:Msn) (vw vh vr:Value) (w:World) (H:MsnBox w B m vw vh vr) :
  Calls Tryz.prog 131 #[qP (some ⟨B,0,none⟩)] w fun e w'=>e=qR (qB (inB m.part 0 500 && inB m.flow 0 5000))/\Below w.heap.size w w':=by
 obtain⟨b,o,j,l,k,g,c,d,n,f,a⟩:=Zh H;cases h:inB m.part 0 500
 ·go_enter Tryz.func131,Tryz.ntmps131
  go_wp2_with (go_at_call 130;refine (ZO _ _ _).mono ?_;rintro e w' ⟨rfl,rfl⟩);go_ret;exact⟨rfl,zB2⟩
 ·go_enter Tryz.func131,Tryz.ntmps131
  go_wp2_with (go_at_call 130;refine (ZO _ _ _).mono ?_;rintro e w' ⟨rfl,rfl⟩);go_ret;exact⟨rfl,zB2⟩
theorem v7_any (B:Nat) (m:Msn) (vw vh vr:Value) (w:World) (H:MsnBox w B m vw vh vr) :
  Calls Tryz.prog 132 #[qP (some ⟨B,0,none⟩)] w fun e w'=>e=qR (qB (inB m.idle 0 1000 && inB m.drive 0 1000))/\Below w.heap.size w w':=by
 obtain⟨b,o,j,l,k,g,c,d,n,f,a⟩:=Zh H;cases h:inB m.idle 0 1000
 ·go_enter Tryz.func132,Tryz.ntmps132
  go_wp2_with (go_at_call 130;refine (ZO _ _ _).mono ?_;rintro e w' ⟨rfl,rfl⟩);go_ret;exact⟨rfl,zB2⟩
 ·go_enter Tryz.func132,Tryz.ntmps132
  go_wp2_with (go_at_call 130;refine (ZO _ _ _).mono ?_;rintro e w' ⟨rfl,rfl⟩);go_ret;exact⟨rfl,zB2⟩
theorem v8_any (B:Nat) (m:Msn) (vw vh vr:Value) (w:World) (H:MsnBox w B m vw vh vr) :
  Calls Tryz.prog 133 #[qP (some ⟨B,0,none⟩)] w fun e w'=>e=qR (qB (inB m.battery 0 1000000000 && inB m.deadline 0 1000000000))/\Below w.heap.size w w':=by
 obtain⟨b,o,j,l,k,g,c,d,n,f,a⟩:=Zh H;cases h:inB m.battery 0 1000000000
 ·go_enter Tryz.func133,Tryz.ntmps133
  go_wp2_with (go_at_call 130;refine (ZO _ _ _).mono ?_;rintro e w' ⟨rfl,rfl⟩);go_ret;exact⟨rfl,zB2⟩
 ·go_enter Tryz.func133,Tryz.ntmps133
  go_wp2_with (go_at_call 130;refine (ZO _ _ _).mono ?_;rintro e w' ⟨rfl,rfl⟩);go_ret;exact⟨rfl,zB2⟩
def sizesB (m:Msn):Bool:=decide (2<=m.ways.length/\m.ways.length<=41/\m.rocks.length<=100)
theorem v1_any (B : Nat) (m : Msn) (vw vh vr : Value) (w : World) (H : MsnBox w B m vw vh vr) (hw : WaysAt w.heap.size w vw m.ways) (hr : Z6 w.heap.size w vr m.rocks) :
  Calls Tryz.prog 122 #[qP (some ⟨B,0,none⟩)] w fun e w'=>e=qR (qB (sizesB m))/\Below w.heap.size w w':=by
 obtain⟨r,q,v,n,x,u,s,t,p,l,k⟩:=Zh H;obtain⟨_,o,f,rfl,a⟩:=hw;obtain⟨_,y,g,rfl,c⟩:=hr;clear a c;by_cases h1:2<=m.ways.length
 ·by_cases h2:m.ways.length<=41
  ·by_cases h3:m.rocks.length<=100
   ·have e:sizesB m=true:=by simp [sizesB];omega
    have b:decide (2<=(m.ways.length:Int))=true:=by simp;omega
    have d:decide ((m.ways.length:Int)<=41)=true:=by simp;omega
    have j:decide ((m.rocks.length:Int)<=100)=true:=by simp;omega
    rw [e];clear e h1 h2 h3;go_enter Tryz.func122,Tryz.ntmps122;go_wp2;go_ret;exact⟨rfl,zB2⟩
   ·have e:sizesB m=false:=by simp [sizesB];omega
    have b:decide (2<=(m.ways.length:Int))=true:=by simp;omega
    have d:decide ((m.ways.length:Int)<=41)=true:=by simp;omega
    have j:decide ((m.rocks.length:Int)<=100)=false:=by simp;omega
    rw [e];clear e h1 h2 h3;go_enter Tryz.func122,Tryz.ntmps122;go_wp2;go_ret;exact⟨rfl,zB2⟩
  ·have e:sizesB m=false:=by simp [sizesB];omega
   have b:decide (2<=(m.ways.length:Int))=true:=by simp;omega
   have d:decide ((m.ways.length:Int)<=41)=false:=by simp;omega
   rw [e];clear e h1 h2;go_enter Tryz.func122,Tryz.ntmps122;go_wp2;go_ret;exact⟨rfl,zB2⟩
 ·have e:sizesB m=false:=by simp [sizesB];omega
  have b:decide (2<=(m.ways.length:Int))=false:=by simp;omega
  rw [e];clear e h1;go_enter Tryz.func122,Tryz.ntmps122;go_wp2;go_ret;exact⟨rfl,zB2⟩
theorem Z99 (v:Value) (l:List Pt) (w:World) (hp:Z7 w.heap.size w v l) :
  Calls Tryz.prog 128 #[v] w fun e w'=>e=qR (qB (!Zb l))/\Below w.heap.size w w':=by
 cases h:Zb l
 ·go_enter Tryz.func128,Tryz.ntmps128
  go_wp2_with (go_at_call 63;refine (Zs _ _ _ hp).mono ?_;rintro e c ⟨rfl,b⟩;have a:=b.size;try simp at a)
  go_ret;exact⟨rfl,zB2⟩
 ·go_enter Tryz.func128,Tryz.ntmps128
  go_wp2_with (go_at_call 63;refine (Zs _ _ _ hp).mono ?_;rintro e c ⟨rfl,b⟩;have a:=b.size;try simp at a)
  go_ret;exact⟨rfl,zB2⟩
end
section
attribute [local irreducible] wpQuiet
open Go.RowKit
noncomputable def rocksB (l:List (List Pt)):Bool:=decide (∀ j,j<l.length->Zb (rk l j)=true)
def FoundQ (b:Bool) (w:World) (e:Ending) (w':World):Prop:=∃ r:Int,e=qR (O qL r)/\-1<=r/\r<=9223372036854775807/\decide (0<=r)=b/\Below w.heap.size w w'
theorem Z4a (v : Value) (l : List (List Pt)) (w : World) (hr : Z6 w.heap.size w v l) :
  Calls Tryz.prog 161 #[v,.func (.func 128) #[] #[]] w (FoundQ (!rocksB l) w):=by
 obtain⟨z,a,y,rfl,p⟩:=hr;go_enter Tryz.func161,Tryz.ntmps161;go_wp2
 go_loopw [8] (fun i wr=>∃ k:Nat,k<=l.length/\i=O qL k/\(∀ j,j<k->Zb (rk l j)=true)/\Below w.heap.size w wr) (fun i _=>l.length-(intOf i).toNat)
 case atStart=>exact⟨0,Nat.zero_le _,rfl,fun j h=>by omega,qK _ _⟩
 case round =>
  obtain⟨k,A,rfl,c,q⟩:=hrel;by_cases hlt:k<l.length
  ·rcases p with rfl | ⟨b,o,rfl,t,p⟩
   ·simp at hlt
   obtain⟨u,r,n⟩:=p k hlt;have B:=cY q r t;have d:=qH ((n.below q).mono q.size);have m:=qH c;have x:=qH p;clear c p r n;have C:=q.size;cases hpl:Zb (rk l k)
   ·have hr:Hid (rocksB l=false):=by
     show rocksB l=false
     simp only [rocksB,decide_eq_false_iff_not];intro h;have:=h k hlt;rw [hpl] at this;cases this
    go_wp2_with (go_at_call 128;refine (Z99 _ _ _ d.out).mono ?_;rintro e s ⟨rfl,g⟩;have f:=g.size;try simp at f)
    go_ret;exact⟨k,rfl,by omega,by omega,by rw [hr.out];simp,zB2⟩
   ·go_wp2_with (go_at_call 128;refine (Z99 _ _ _ d.out).mono ?_;rintro e s ⟨rfl,g⟩;have f:=g.size;try simp at f)
    go_roundw
    case rel =>
     refine⟨k+1,by omega,by go_num,fun j hj=>?_,zB2⟩
     by_cases e:j=k
     ·rw [e];exact hpl
     ·exact m.out j (by omega)
    case measure=>simp [intOf];omega
  ·have hr:Hid (rocksB l=true):=by
    show rocksB l=true
    simp only [rocksB,decide_eq_true_eq];intro j hj;exact c j (by omega)
   clear c;go_wp2;go_ret;exact⟨-1,rfl,by omega,by omega,by rw [hr.out];simp,q⟩
theorem Z2G (v:Value) (l:List (List Pt)) (w:World) (hr:Z6 w.heap.size w v l) :
  Calls Tryz.prog 127 #[v,.func (.func 128) #[] #[]] w fun e w'=>e=qR (qB (!rocksB l))/\Below w.heap.size w w':=by
 go_enter Tryz.func127,Tryz.ntmps127;go_wp2_with (go_at_call 161;refine (Z4a _ _ _ hr).mono ?_;rintro e d ⟨r,rfl,c,f,a,b⟩);go_ret;exact⟨by first | rfl | exact Zu a,b⟩
theorem v4_any (B:Nat) (m:Msn) (vw vh vr:Value) (w:World) (H:MsnBox w B m vw vh vr) (hr:Z6 w.heap.size w vr m.rocks) :
  Calls Tryz.prog 126 #[qP (some ⟨B,0,none⟩)] w fun e w'=>e=qR (qB (rocksB m.rocks))/\Below w.heap.size w w':=by
 obtain⟨d,r,l,o,n,k,f,g,q,j,c⟩:=Zh H;go_enter Tryz.func126,Tryz.ntmps126;go_wp2_with (go_at_call 127;refine (Z2G _ _ _ hr).mono ?_;rintro e p ⟨rfl,b⟩;have a:=b.size;try simp at a)
 go_ret;exact⟨Zu (by simp),zB2⟩
theorem v2_any (B : Nat) (m : Msn) (vw vh vr : Value) (w : World) (H : MsnBox w B m vw vh vr) (hw : WaysAt w.heap.size w vw m.ways) (hn : m.ways.length <= 1000000) :
  Calls Tryz.prog 123 #[qP (some ⟨B,0,none⟩)] w fun e w'=>e=qR (qB (waysB m.ways))/\Below w.heap.size w w':=by
 obtain⟨S,L,N,J,F,M,D,E,K,I,u⟩:=Zh H;obtain⟨Q,a,G,rfl,r⟩:=hw;clear L N J F M D E K I u;go_enter Tryz.func123,Tryz.ntmps123;go_wp2
 go_loopw [7] (fun i wr=>∃ k:Nat,k<=m.ways.length/\i=O qL k/\(∀ j,j<k->wayB j (wy m.ways j)=true)/\Below w.heap.size w wr) (fun i _=>m.ways.length-(intOf i).toNat)
 case atStart=>exact⟨0,Nat.zero_le _,rfl,fun j h=>by omega,qK _ _⟩
 case round =>
  obtain⟨k,R,rfl,c,l⟩:=hrel;by_cases hlt:k<m.ways.length
  ·rcases r with C | ⟨b,o,rfl,q,r⟩
   ·rw [C] at hlt;simp at hlt
   obtain⟨z,y,v,x,A⟩:=r k hlt;have U:=cY l z q;have V:=cY l y q;have T:=cY l v q;have W:=cY l x q;have Y:=cY l A q;have p:=qH c;have P:=qH r;clear c r z y v x A;have X:=l.size;have n:=fun t=>Zaa k (wy m.ways k) t (by omega)
   unfold wyVal at n;have d:=qH n;clear n;cases hpl:wayB k (wy m.ways k)
   ·have s:Hid (waysB m.ways=false):=by
     show waysB m.ways=false
     simp only [waysB,decide_eq_false_iff_not];intro h;have:=h k hlt;rw [hpl] at this;cases this
    go_wp2_with (go_at_call 124;refine (d.out _).mono ?_;rintro e t ⟨rfl,g⟩;have f:=g.size;try simp at f)
    go_ret;exact⟨Zu s.out.symm,zB2⟩
   ·go_wp2_with (go_at_call 124;refine (d.out _).mono ?_;rintro e t ⟨rfl,g⟩;have f:=g.size;try simp at f)
    go_roundw
    case rel =>
     refine⟨k+1,by omega,by go_num,fun j hj=>?_,zB2⟩
     by_cases e:j=k
     ·rw [e];exact hpl
     ·exact p.out j (by omega)
    case measure=>simp [intOf];omega
  ·have s:Hid (waysB m.ways=true):=by
    show waysB m.ways=true
    simp only [waysB,decide_eq_true_eq];intro j hj;exact c j (by omega)
   clear c;go_wp2;go_ret;exact⟨Zu s.out.symm,l⟩
theorem Zam (m:Msn) (vw vh vr:Value) (w:World) (hm:legOk m) (hs:0<=m.start/\m.start<=100000) (hw:WaysAt w.heap.size w vw m.ways) (h2:2<=m.ways.length) (h41:m.ways.length<=41) (hwb:waysB m.ways=true) :
  Calls Tryz.prog 135 #[qA (Zc m vw vh vr)] w fun e w'=>e=qR (O qL (grownV m))/\Below w.heap.size w w':=by
 obtain⟨hl,a,n,rfl,hc⟩:=hw;obtain⟨b,o,rfl,u,J⟩:∃ b o,a=some ⟨b,o,none⟩/\b<w.heap.size/\∀ j,j<m.ways.length->w.cell? ⟨b,o+j*5,none⟩=some (O qL (wy m.ways j).x)/\w.cell? ⟨b,o+j*5+1,none⟩=some (O qL (wy m.ways j).y)/\w.cell? ⟨b,o+j*5+2,none⟩=some (O qL (wy m.ways j).fix)/\w.cell? ⟨b,o+j*5+3,none⟩=some (O qL (wy m.ways j).wait)/\w.cell? ⟨b,o+j*5+4,none⟩=some (O qL (wy m.ways j).back):=by
  rcases hc with h0 | h
  ·rw [h0] at h2;simp at h2
  ·exact h
 have C:=qH J;have c:=qH hwb;have p:=qH hm;clear hc J hwb hm;have K:w.heap.size<(w.alloc (.cells #[] 0)).heap.size:=by simp
 have H0:Has (w.alloc (.cells (Zc m (qS (some ⟨b,o,none⟩) m.ways.length (m.ways.length+n)) vh vr) 26)) w.heap.size (Zc m (qS (some ⟨b,o,none⟩) m.ways.length (m.ways.length+n)) vh vr) 26:=Has.new w _ _;have Y:=qH H0;clear H0 K;unfold Zc;go_enter Tryz.func135,Tryz.ntmps135;go_wp2
 go_loopw [3,12] (fun s i wr=>∃ k:Nat,k<=m.ways.length-1/\i=O qL k/\s=O qL (grownTo m k)/\Has wr w.heap.size (Zc m (qS (some ⟨b,o,none⟩) m.ways.length (m.ways.length+n)) vh vr) 26/\Below w.heap.size w wr) (fun _ i _=>m.ways.length-1-(intOf i).toNat)
 case atStart=>exact⟨0,Nat.zero_le _,rfl,rfl,Y.out,(qK _ _).alloc (qN _) _⟩
 case round =>
  obtain⟨k,hk,rfl,rfl,H,v⟩:=hrel;have B:(((m.ways.length-1:Nat):Int))=(m.ways.length:Int)-1:=by omega
  have hms:=qH B;clear B;by_cases hlt:(k:Int)<(m.ways.length:Int)-1
  ·have hz:=v.size
   have d:k+1<m.ways.length:=by omega
   have bk:=Z0M c.out d;obtain⟨q,P⟩:∃ q:Nat,(wy m.ways (k+1)).back=q:=⟨_,(Int.toNat_of_nonneg bk.1).symm⟩;rw [P] at bk;have D:q<m.ways.length:=by omega
   have W:grownTo m (k+1)=grownTo m k+(gLeg m k (k+1)+gLeg m (k+1) q):=by rw [grownTo,P];rfl
   have gb:=Z2D p.out hs c.out k (by omega)
   have g1:=ZW p.out c.out (i:=k) (j:=k+1) (by omega) d
   have g2:=ZW p.out c.out (i:=k+1) (j:=q) d D;have r:=fun w1=>Z6R m (qS (some ⟨b,o,none⟩) m.ways.length (m.ways.length+n)) vh vr (wy m.ways k).x (wy m.ways k).y (wy m.ways (k+1)).x (wy m.ways (k+1)).y w1 p.out (Z0c c.out (by omega)) (Z0c c.out d)
   have z:=fun w1=>Z6R m (qS (some ⟨b,o,none⟩) m.ways.length (m.ways.length+n)) vh vr (wy m.ways (k+1)).x (wy m.ways (k+1)).y (wy m.ways q).x (wy m.ways q).y w1 p.out (Z0c c.out d) (Z0c c.out D)
   obtain⟨E,l⟩:∃ E,gLeg m k (k+1)=E:=⟨_,rfl⟩;obtain⟨F,g⟩:∃ F,gLeg m (k+1) q=F:=⟨_,rfl⟩;obtain⟨t,X⟩:∃ t,grownTo m k=t:=⟨_,rfl⟩;rw [l,g,X] at W;rw [X] at gb ⊢;rw [l] at g1;rw [g] at g2;unfold gLeg dLeg at l g;unfold legVal at r z;rw [l] at r;rw [g] at z;have a1:qW qL (E+F)=E+F:=zW2;have a2:qW qL (t+(E+F))=t+(E+F):=zW2;obtain⟨u0,u1,_,_,_⟩:=C.out k (by omega)
   obtain⟨Z,V,T,R,Q⟩:=C.out (k+1) d;obtain⟨v0,v1,_,_,_⟩:=C.out q D;rw [P] at Q;have ar:o+(k+1)*5=o+5+k*5:=by omega
   rw [ar] at Z V T R Q;obtain⟨L,A⟩:∃ L,wr.alloc (.cells #[O qL (wy m.ways (k+1)).x,O qL (wy m.ways (k+1)).y,O qL (wy m.ways (k+1)).fix,O qL (wy m.ways (k+1)).wait,O qL (q:Int)] 65)=L:=⟨_,rfl⟩;have U:Below wr.heap.size wr L:=by rw [<- A];exact (qK _ wr).alloc (qN _) _
   have S:=H.below U H.lt;have N:Has L wr.heap.size #[O qL (wy m.ways (k+1)).x,O qL (wy m.ways (k+1)).y,O qL (wy m.ways (k+1)).fix,O qL (wy m.ways (k+1)).wait,O qL (q:Int)] 65:=by rw [<- A];exact Has.new wr _ _
   have f:Below w.heap.size w L:=v.trans (U.mono v.size);obtain⟨c0,c1,c2,c3,c4,c5,c6,c7,c8,c9,c10⟩:=Z57 S;have n0:=Low.fact (cX 0 N rfl);have n1:=Low.fact (cX 1 N rfl);have n4:=Low.fact (cX 4 N rfl);have lu0:=Low.fact (cY f u0 u);have lu1:=Low.fact (cY f u1 u);have lv0:=Low.fact (cY f v0 u);have lv1:=Low.fact (cY f v1 u);have p0':=cY v Z u;have p1':=cY v V u;have p2':=cY v T u;have p3':=cY v R u;have p4':=cY v Q u;have hz2:=U.size;have I:=qH A;have aa:=qH W;have HH:=qH S;have hHl:w.heap.size+1<=wr.heap.size:=H.lt;have M:=qH r;have G:=qH z;clear u0 u1 Z V T R Q v0 v1 ar W A N S H P l g X r z;unfold Zc at *;go_wp2;rw [I.out];have kl:k<m.ways.length:=by omega
   have kl':(k:Int)<(m.ways.length:Int):=by omega
   have ql':(q:Int)<(m.ways.length:Int):=by omega
   (refine Zg (by kernel_rfl) (by kernel_rfl) ?_;(iterate 27 (apply qw3;(case hw=>rfl);(case hval=>(intro w1 hw1 hcx;simp only [Oper.quietAt];go_simp;first | done | (first | (go_at_call 59;with_reducible exact Low.calls hw1 (M.out _)) | (go_at_call 59;with_reducible exact Low.calls hw1 (G.out _))) | rfl | exact⟨rfl,rfl⟩));simp only [Act.put,zq4,zr4,zs4]));refine wpQuiet_nil ?_;intro w2 hw2)
   go_wp2;go_roundw
   case rel=>exact⟨k+1,by omega,by go_num,by rw [aa.out],HH.out.below hw2.out (by omega),f.trans (hw2.out.mono f.size)⟩
   case measure=>simp [intOf];omega
  ·obtain rfl:k=m.ways.length-1:=by omega
   go_wp2;go_ret;exact⟨rfl,v⟩
theorem v9_any (B:Nat) (m:Msn) (vw vh vr:Value) (w:World) (H:MsnBox w B m vw vh vr) (hm:legOk m) (hs:0<=m.start/\m.start<=100000) (hw:WaysAt w.heap.size w vw m.ways) (h2:2<=m.ways.length) (h41:m.ways.length<=41) (hwb:waysB m.ways=true) :
  Calls Tryz.prog 134 #[qP (some ⟨B,0,none⟩)] w fun e w'=>e=qR (qB (decide (grownV m<=100000)))/\Below w.heap.size w w':=by
 obtain⟨g,p,o,r,q,n,j,k,t,l,f⟩:=Zh H;have d:=Zam m vw vh vr w hm hs hw h2 h41 hwb;have a:=qH d;clear d hm hs hw h2 h41 hwb;unfold Zc at a;go_enter Tryz.func134,Tryz.ntmps134;go_wp2_with (go_at_call 135;refine (a.out).mono ?_;rintro e s ⟨rfl,c⟩;have b:=c.size;try simp at b)
 go_ret;exact⟨rfl,zB2⟩
theorem v10_1 (B:Addr) (c:Bool) (w:World) (h:Calls Tryz.prog 122 #[qP (some B)] w fun e w'=>e=qR (qB c)/\Below w.heap.size w w') :
  Calls Tryz.prog 137 #[.func (.func 122) #[] #[qP (some B)]] w fun e w'=>e=qR (qB (!c))/\Below w.heap.size w w':=by
 have d:=qH h;clear h;go_enter Tryz.func137,Tryz.ntmps137;go_wp2_with (go_at_call 122;refine (d.out).mono ?_;rintro e f ⟨rfl,a⟩;have b:=a.size;try simp at b)
 go_ret;exact⟨rfl,a⟩
theorem v10_2 (B:Addr) (c:Bool) (w:World) (h:Calls Tryz.prog 123 #[qP (some B)] w fun e w'=>e=qR (qB c)/\Below w.heap.size w w') :
  Calls Tryz.prog 137 #[.func (.func 123) #[] #[qP (some B)]] w fun e w'=>e=qR (qB (!c))/\Below w.heap.size w w':=by
 have d:=qH h;clear h;go_enter Tryz.func137,Tryz.ntmps137;go_wp2_with (go_at_call 123;refine (d.out).mono ?_;rintro e f ⟨rfl,a⟩;have b:=a.size;try simp at b)
 go_ret;exact⟨rfl,a⟩
theorem v10_3 (B:Addr) (c:Bool) (w:World) (h:Calls Tryz.prog 125 #[qP (some B)] w fun e w'=>e=qR (qB c)/\Below w.heap.size w w') :
  Calls Tryz.prog 137 #[.func (.func 125) #[] #[qP (some B)]] w fun e w'=>e=qR (qB (!c))/\Below w.heap.size w w':=by
 have d:=qH h;clear h;go_enter Tryz.func137,Tryz.ntmps137;go_wp2_with (go_at_call 125;refine (d.out).mono ?_;rintro e f ⟨rfl,a⟩;have b:=a.size;try simp at b)
 go_ret;exact⟨rfl,a⟩
theorem v10_4 (B:Addr) (c:Bool) (w:World) (h:Calls Tryz.prog 126 #[qP (some B)] w fun e w'=>e=qR (qB c)/\Below w.heap.size w w') :
  Calls Tryz.prog 137 #[.func (.func 126) #[] #[qP (some B)]] w fun e w'=>e=qR (qB (!c))/\Below w.heap.size w w':=by
 have d:=qH h;clear h;go_enter Tryz.func137,Tryz.ntmps137;go_wp2_with (go_at_call 126;refine (d.out).mono ?_;rintro e f ⟨rfl,a⟩;have b:=a.size;try simp at b)
 go_ret;exact⟨rfl,a⟩
theorem v10_5 (B:Addr) (c:Bool) (w:World) (h:Calls Tryz.prog 129 #[qP (some B)] w fun e w'=>e=qR (qB c)/\Below w.heap.size w w') :
  Calls Tryz.prog 137 #[.func (.func 129) #[] #[qP (some B)]] w fun e w'=>e=qR (qB (!c))/\Below w.heap.size w w':=by
 have d:=qH h;clear h;go_enter Tryz.func137,Tryz.ntmps137;go_wp2_with (go_at_call 129;refine (d.out).mono ?_;rintro e f ⟨rfl,a⟩;have b:=a.size;try simp at b)
 go_ret;exact⟨rfl,a⟩
theorem v10_6 (B:Addr) (c:Bool) (w:World) (h:Calls Tryz.prog 131 #[qP (some B)] w fun e w'=>e=qR (qB c)/\Below w.heap.size w w') :
  Calls Tryz.prog 137 #[.func (.func 131) #[] #[qP (some B)]] w fun e w'=>e=qR (qB (!c))/\Below w.heap.size w w':=by
 have d:=qH h;clear h;go_enter Tryz.func137,Tryz.ntmps137;go_wp2_with (go_at_call 131;refine (d.out).mono ?_;rintro e f ⟨rfl,a⟩;have b:=a.size;try simp at b)
 go_ret;exact⟨rfl,a⟩
theorem v10_7 (B:Addr) (c:Bool) (w:World) (h:Calls Tryz.prog 132 #[qP (some B)] w fun e w'=>e=qR (qB c)/\Below w.heap.size w w') :
  Calls Tryz.prog 137 #[.func (.func 132) #[] #[qP (some B)]] w fun e w'=>e=qR (qB (!c))/\Below w.heap.size w w':=by
 have d:=qH h;clear h;go_enter Tryz.func137,Tryz.ntmps137;go_wp2_with (go_at_call 132;refine (d.out).mono ?_;rintro e f ⟨rfl,a⟩;have b:=a.size;try simp at b)
 go_ret;exact⟨rfl,a⟩
theorem v10_8 (B:Addr) (c:Bool) (w:World) (h:Calls Tryz.prog 133 #[qP (some B)] w fun e w'=>e=qR (qB c)/\Below w.heap.size w w') :
  Calls Tryz.prog 137 #[.func (.func 133) #[] #[qP (some B)]] w fun e w'=>e=qR (qB (!c))/\Below w.heap.size w w':=by
 have d:=qH h;clear h;go_enter Tryz.func137,Tryz.ntmps137;go_wp2_with (go_at_call 133;refine (d.out).mono ?_;rintro e f ⟨rfl,a⟩;have b:=a.size;try simp at b)
 go_ret;exact⟨rfl,a⟩
theorem v10_9 (B:Addr) (c:Bool) (w:World) (h:Calls Tryz.prog 134 #[qP (some B)] w fun e w'=>e=qR (qB c)/\Below w.heap.size w w') :
  Calls Tryz.prog 137 #[.func (.func 134) #[] #[qP (some B)]] w fun e w'=>e=qR (qB (!c))/\Below w.heap.size w w':=by
 have d:=qH h;clear h;go_enter Tryz.func137,Tryz.ntmps137;go_wp2_with (go_at_call 134;refine (d.out).mono ?_;rintro e f ⟨rfl,a⟩;have b:=a.size;try simp at b)
 go_ret;exact⟨rfl,a⟩
theorem Z4c (b n : Nat) (hn : n <= 1000) (cl : Nat -> Value) (conds : Nat -> Bool) (w : World) (hc : ∀ j, j < n -> w.cell? ⟨b, j, none⟩ = some (cl j))
  (hC:∀ k,k<n->(∀ j,j<k->conds j=true)->∀ w1,Below w.heap.size w w1->Calls Tryz.prog 137 #[cl k] w1 fun e w'=>e=qR (qB (!conds k))/\Below w1.heap.size w1 w') (hb:b<w.heap.size) :
  Calls Tryz.prog 162 #[qS (some ⟨b,0,none⟩) n n,.func (.func 137) #[] #[]] w (FoundQ (!decide (∀ j,j<n->conds j=true)) w):=by
 have q:=qH hc;have r:=qH hC;clear hc hC;go_enter Tryz.func162,Tryz.ntmps162;go_wp2
 go_loopw [8] (fun i wr=>∃ k:Nat,k<=n/\i=O qL k/\(∀ j,j<k->conds j=true)/\Below w.heap.size w wr) (fun i _=>n-(intOf i).toNat)
 case atStart=>exact⟨0,Nat.zero_le _,rfl,fun j h=>by omega,qK _ _⟩
 case round =>
  obtain⟨k,t,rfl,a,m⟩:=hrel;by_cases hlt:k<n
  ·have u:=(m.cell (p:=⟨b,k,none⟩) hb).trans (q.out k hlt)
   have s:=r.out k hlt a wr m;have l:=qH a;have c:=qH s;clear a s;have v:=m.size;cases hpl:conds k
   ·have o:Hid (decide (∀ j,j<n->conds j=true)=false):=by
     show decide (∀ j,j<n->conds j=true)=false
     simp only [decide_eq_false_iff_not];intro h;have:=h k hlt;rw [hpl] at this;cases this
    rw [hpl] at c;have d:=qH hpl;clear hpl;go_wp2_with (go_at_call 137;refine (c.out).mono ?_;rintro e w1 ⟨rfl,g⟩;have f:=g.size;try simp at f)
    go_ret;exact⟨k,rfl,by omega,by omega,by rw [o.out];simp,zB2⟩
   ·rw [hpl] at c
    have d:=qH hpl;clear hpl;go_wp2_with (go_at_call 137;refine (c.out).mono ?_;rintro e w1 ⟨rfl,g⟩;have f:=g.size;try simp at f)
    go_roundw
    case rel =>
     refine⟨k+1,by omega,by go_num,fun j hj=>?_,zB2⟩
     by_cases e:j=k
     ·rw [e];exact d.out
     ·exact l.out j (by omega)
    case measure=>simp [intOf];omega
  ·have o:Hid (decide (∀ j,j<n->conds j=true)=true):=by
    show decide (∀ j,j<n->conds j=true)=true
    simp only [decide_eq_true_eq];intro j hj;exact a j (by omega)
   clear a;go_wp2;go_ret;exact⟨-1,rfl,by omega,by omega,by rw [o.out];simp,m⟩
theorem Z2I (b n:Nat) (hn:n<=1000) (cl:Nat->Value) (conds:Nat->Bool) (w:World) (hc:∀ j,j<n->w.cell? ⟨b,j,none⟩=some (cl j))
  (hC:∀ k,k<n->(∀ j,j<k->conds j=true)->∀ w1,Below w.heap.size w w1->Calls Tryz.prog 137 #[cl k] w1 fun e w'=>e=qR (qB (!conds k))/\Below w1.heap.size w1 w') (hb:b<w.heap.size) :
  Calls Tryz.prog 136 #[qS (some ⟨b,0,none⟩) n n,.func (.func 137) #[] #[]] w fun e w'=>e=qR (qB (!decide (∀ j,j<n->conds j=true)))/\Below w.heap.size w w':=by
 have c:=qH (Z4c b n hn cl conds w hc hC hb);clear hc hC;go_enter Tryz.func136,Tryz.ntmps136;go_wp2_with (go_at_call 162;refine Calls.mono c.out ?_;rintro e w1 ⟨r,rfl,f,g,d,a⟩);go_ret;exact⟨by first | rfl | exact Zu d,a⟩
noncomputable def condB (m:Msn):Nat->Bool
 | 0=>sizesB m
 | 1=>waysB m.ways
 | 2=>Zb m.home
 | 3=>rocksB m.rocks
 | 4=>inB m.start 0 100000 && inB m.speed 1 20000
 | 5=>inB m.part 0 500 && inB m.flow 0 5000
 | 6=>inB m.idle 0 1000 && inB m.drive 0 1000
 | 7=>inB m.battery 0 1000000000 && inB m.deadline 0 1000000000
 | 8=>decide (grownV m<=100000)
 | _=>true
def clV (B:Nat):Nat->Value
 | 0=>.func (.func 122) #[] #[qP (some ⟨B,0,none⟩)]
 | 1=>.func (.func 123) #[] #[qP (some ⟨B,0,none⟩)]
 | 2=>.func (.func 125) #[] #[qP (some ⟨B,0,none⟩)]
 | 3=>.func (.func 126) #[] #[qP (some ⟨B,0,none⟩)]
 | 4=>.func (.func 129) #[] #[qP (some ⟨B,0,none⟩)]
 | 5=>.func (.func 131) #[] #[qP (some ⟨B,0,none⟩)]
 | 6=>.func (.func 132) #[] #[qP (some ⟨B,0,none⟩)]
 | 7=>.func (.func 133) #[] #[qP (some ⟨B,0,none⟩)]
 | _=>.func (.func 134) #[] #[qP (some ⟨B,0,none⟩)]
noncomputable def validB (m:Msn):Bool:=(List.range 9).all (condB m)
theorem Z4g (m:Msn):validB m=true↔∀ j,j<9->condB m j=true:=by simp [validB,List.all_eq_true]
theorem Z16 {m:Msn} (h:sizesB m=true):2<=m.ways.length/\m.ways.length<=41/\m.rocks.length<=100:=by simpa [sizesB] using h
structure VMsn (m:Msn):Prop where
 n2:2<=m.ways.length
 n41:m.ways.length<=41
 nr:m.rocks.length<=100
 ways:waysB m.ways=true
 home:Zb m.home=true
 rocks:rocksB m.rocks=true
 start:0<=m.start/\m.start<=100000
 leg:legOk m
 idle:0<=m.idle/\m.idle<=1000
 drive:0<=m.drive/\m.drive<=1000
 battery:0<=m.battery/\m.battery<=1000000000
 deadline:0<=m.deadline/\m.deadline<=1000000000
 grown:grownV m<=100000
theorem Zm (m:Msn):validB m=true↔VMsn m:=by
 rw [Z4g];constructor
 ·intro h
  have x:=h 0 (by omega);have B:=h 1 (by omega);have w:=h 2 (by omega);have z:=h 3 (by omega);have t:=h 4 (by omega)
  have r:=h 5 (by omega);have o:=h 6 (by omega);have u:=h 7 (by omega);have y:=h 8 (by omega)
  simp only [condB,Bool.and_eq_true] at x B w z t r o u y;have s:=Z16 x;have a:=ZQ t.1;have b:=ZQ t.2;have c:=ZQ r.1;have d:=ZQ r.2;exact⟨s.1,s.2.1,s.2.2,B,w,z,a,⟨b.1,b.2,c.1,c.2,d.1,d.2⟩,ZQ o.1,ZQ o.2,ZQ u.1,ZQ u.2,by simpa using y⟩
 ·intro v j hj
  obtain⟨J,C,I,l,n,e,p,⟨G,E,D,F,H,K⟩,A,q,k,g,f⟩:=v
  match j,hj with
  | 0,_=>simp [condB,sizesB];omega
  | 1,_=>exact l
  | 2,_=>exact n
  | 3,_=>exact e
  | 4,_=>simp [condB,inB];omega
  | 5,_=>simp [condB,inB];omega
  | 6,_=>simp [condB,inB];omega
  | 7,_=>simp [condB,inB];omega
  | 8,_=>simpa [condB] using f
theorem ZaN (B:Nat) (m:Msn) (vw vh vr:Value) (w:World) (H:MsnBox w B m vw vh vr) (hm:MsnAt w.heap.size w m vw vh vr) :
  ∀ k,k<9->(∀ j,j<k->condB m j=true)->Calls Tryz.prog 137 #[clV B k] w fun e w'=>e=qR (qB (!condB m k))/\Below w.heap.size w w':=by
 obtain⟨l,o,n⟩:=hm;intro k hk hj
 match k,hk,hj with
 | 0,_,_=>exact v10_1 _ _ w (v1_any B m vw vh vr w H l n)
 | 1,_,hj=>exact v10_2 _ _ w (v2_any B m vw vh vr w H l (by have:=Z16 (hj 0 (by omega));omega))
 | 2,_,_=>exact v10_3 _ _ w (v3_any B m vw vh vr w H o)
 | 3,_,_=>exact v10_4 _ _ w (v4_any B m vw vh vr w H n)
 | 4,_,_=>exact v10_5 _ _ w (v5_any B m vw vh vr w H)
 | 5,_,_=>exact v10_6 _ _ w (v6_any B m vw vh vr w H)
 | 6,_,_=>exact v10_7 _ _ w (v7_any B m vw vh vr w H)
 | 7,_,_=>exact v10_8 _ _ w (v8_any B m vw vh vr w H)
 | 8, _, hj =>
  have s:=Z16 (hj 0 (by omega))
  have g:=hj 4 (by omega)
  have f:=hj 5 (by omega)
  simp only [condB,Bool.and_eq_true] at g f;have a:=ZQ g.1;have b:=ZQ g.2;have c:=ZQ f.1;have d:=ZQ f.2;exact v10_9 _ _ w (v9_any B m vw vh vr w H ⟨b.1,b.2,c.1,c.2,d.1,d.2⟩ a l s.1 s.2.1 (hj 1 (by omega)))
theorem Z0V (m:Msn) (vw vh vr:Value) (w:World) (hm:MsnAt w.heap.size w m vw vh vr) :
  Calls Tryz.prog 74 #[qA (Zc m vw vh vr)] w fun e w'=>e=qR (qB (validB m))/\Below w.heap.size w w':=by
 have n:MsnBox (w.alloc (.cells (Zc m vw vh vr) 26)) w.heap.size m vw vh vr:=Has.new w _ _;have b:Below w.heap.size w (w.alloc (.cells (Zc m vw vh vr) 26)):=(qK _ _).alloc (qN _) _;have f:=qH n;have a:=qH b;have c:=qH hm;clear n b hm;unfold Zc at *;go_enter Tryz.func74,Tryz.ntmps74;go_wp2_with fail;refine Calls.mono (Z2I (w.heap.size+1) 9 (by omega) (clV w.heap.size) (condB m) _ ?hc ?hC ?hb) ?_
 case hb=>simp
 case hc =>
  intro j hj
  match j,hj with
  | 0,_=>simp [go_sem,clV]
  | 1,_=>simp [go_sem,clV]
  | 2,_=>simp [go_sem,clV]
  | 3,_=>simp [go_sem,clV]
  | 4,_=>simp [go_sem,clV]
  | 5,_=>simp [go_sem,clV]
  | 6,_=>simp [go_sem,clV]
  | 7,_=>simp [go_sem,clV]
  | 8,_=>simp [go_sem,clV]
 case hC =>
  intro k hk hj d hB;have l:=(a.out.alloc (by simp) _).trans (hB.mono (by first | omega | (simp;done) | (simp;omega)))
  have o:MsnBox d w.heap.size m vw vh vr:=by
   refine (Has.below f.out ?_ (by simp:w.heap.size<w.heap.size+1))
   exact (((qK _ _).alloc (by simp) _).trans (hB.mono (by first | omega | (simp;done) | (simp;omega))))
  exact ZaN w.heap.size m vw vh vr d o ((c.out.below l).mono l.size) k hk hj
 rintro e d ⟨rfl,g⟩;go_wp2;go_ret;refine⟨Zu ?_,?_⟩
 ·rw [Bool.eq_iff_iff,Z4g];simp
 ·exact (a.out.alloc (by simp) _).trans (g.mono (by first | omega | (simp;done) | (simp;omega)))
def ixB (m:Msn) (i:Int):Bool:=decide (0<=i/\i<m.ways.length)
theorem Z39 {m:Msn} {i:Int} (h:ixB m i=true):∃ k:Nat,i=k/\k<m.ways.length:=by
 have:0<=i/\i<m.ways.length:=by simpa [ixB] using h
 exact⟨i.toNat,by omega,by omega⟩
theorem Z64 {m:Msn} {i:Int} (h:ixB m i=false):i<0\/(0<=i/\(m.ways.length:Int)<=i):=by
 have:¬ (0<=i/\i<m.ways.length):=by simpa [ixB] using h
 omega
theorem Z63 {m:Msn} {k:Nat} (h:k<m.ways.length):ixB m k=true:=by simp [ixB];omega
theorem Z37 (m : Msn) (vw vh vr : Value) (i : Int) (w : World) (hm : MsnAt w.heap.size w m vw vh vr) :
  Calls Tryz.prog 58 #[qA (Zc m vw vh vr),O qL i] w fun e w'=>e=qR (qB (validB m && ixB m i))/\Below w.heap.size w w':=by
 have g:=qH (Z0V m vw vh vr (w.alloc (.cells (Zc m vw vh vr) 26)) ((hm.below ((qK _ _).alloc (qN _) _)).mono (by simp)))
 obtain⟨⟨r,a,q,rfl,_⟩,_,_⟩:=hm;unfold Zc at *;cases h:validB m
 ·rw [h] at g
  have p:=qH h;clear h;go_enter Tryz.func58,Tryz.ntmps58;go_wp2_with (go_at_call 74;refine (g.out).mono ?_;rintro e l ⟨rfl,b⟩;obtain⟨d,f⟩:=bcell b;have c:=b.size;try simp at c)
  go_ret;exact⟨rfl,zB2⟩
 ·rw [h] at g
  have p:=qH h;clear h;cases hi:ixB m i
  ·rcases Z64 hi with j | ⟨j,n⟩
   ·have o:decide (0<=i)=false:=by simp;omega
    clear hi j;go_enter Tryz.func58,Tryz.ntmps58;go_wp2_with (go_at_call 74;refine (g.out).mono ?_;rintro e l ⟨rfl,b⟩;obtain⟨d,f⟩:=bcell b;have c:=b.size;try simp at c)
    go_ret;exact⟨rfl,zB2⟩
   ·have o:decide (0<=i)=true:=by simp;omega
    have t:decide (i<(m.ways.length:Int))=false:=by simp;omega
    clear hi j n;go_enter Tryz.func58,Tryz.ntmps58;go_wp2_with (go_at_call 74;refine (g.out).mono ?_;rintro e l ⟨rfl,b⟩;obtain⟨d,f⟩:=bcell b;have c:=b.size;try simp at c)
    go_ret;exact⟨rfl,zB2⟩
  ·obtain⟨k,rfl,s⟩:=Z39 hi
   clear hi;go_enter Tryz.func58,Tryz.ntmps58;go_wp2_with (go_at_call 74;refine (g.out).mono ?_;rintro e l ⟨rfl,b⟩;obtain⟨d,f⟩:=bcell b;have c:=b.size;try simp at c)
   go_ret;exact⟨rfl,zB2⟩
theorem leg_no (m:Msn) (vw vh vr:Value) (i j:Int) (w:World) (hm:MsnAt w.heap.size w m vw vh vr) (hE:(validB m && ixB m i && ixB m j)=false) :
  Calls Tryz.prog 20 #[qA (Zc m vw vh vr),O qL i,O qL j] w fun e w'=>e=qR (.tuple #[O qL 0,O qL 0,O qL 0,O qL 1])/\Below w.heap.size w w':=by
 have f:=qH (Z37 m vw vh vr i (w.alloc (.cells (Zc m vw vh vr) 26)) ((hm.below ((qK _ _).alloc (qN _) _)).mono (by simp)))
 obtain⟨⟨s,a,r,rfl,_⟩,_,_⟩:=hm;unfold Zc at *;cases h:validB m && ixB m i
 ·rw [h] at f
  have q:=qH h;clear h hE;go_enter Tryz.func20,Tryz.ntmps20;go_wp2_with (go_at_call 58;refine (f.out).mono ?_;rintro e n ⟨rfl,b⟩;obtain⟨d,g⟩:=bcell b;have c:=b.size;try simp at c)
  refine bodyPost_ret (v:=.tuple #[O qL 0,O qL 0,O qL 0,O qL 1]) (by simp [results,Tryz.f20,go_sem]) rfl ⟨rfl,zB2⟩
 ·rw [h] at f hE
  have k:ixB m j=false:=by simpa using hE
  have q:=qH h;clear h hE;rcases Z64 k with l | ⟨l,o⟩
  ·have p:decide (j<0)=true:=by simp;omega
   clear k l;go_enter Tryz.func20,Tryz.ntmps20;go_wp2_with (go_at_call 58;refine (f.out).mono ?_;rintro e n ⟨rfl,b⟩;obtain⟨d,g⟩:=bcell b;have c:=b.size;try simp at c)
   refine bodyPost_ret (v:=.tuple #[O qL 0,O qL 0,O qL 0,O qL 1]) (by simp [results,Tryz.f20,go_sem]) rfl ⟨rfl,zB2⟩
  ·have p:decide (j<0)=false:=by simp;omega
   have t:decide ((m.ways.length:Int)<=j)=true:=by simp;omega
   clear k l o;go_enter Tryz.func20,Tryz.ntmps20;go_wp2_with (go_at_call 58;refine (f.out).mono ?_;rintro e n ⟨rfl,b⟩;obtain⟨d,g⟩:=bcell b;have c:=b.size;try simp at c)
   refine bodyPost_ret (v:=.tuple #[O qL 0,O qL 0,O qL 0,O qL 1]) (by simp [results,Tryz.f20,go_sem]) rfl ⟨rfl,zB2⟩
theorem Z9Y (m:Msn) (vw vh vr:Value) (i j:Nat) (w:World) (hm:MsnAt w.heap.size w m vw vh vr) (hV:validB m=true) (hi:i<m.ways.length) (hj:j<m.ways.length) :
  Calls Tryz.prog 20 #[qA (Zc m vw vh vr),O qL i,O qL j] w fun e w'=>e=qR (.tuple #[O qL (dLeg m i j),O qL (tLeg m i j),O qL (gLeg m i j),O qL 0])/\Below w.heap.size w w':=by
 have z:=Z37 m vw vh vr i (w.alloc (.cells (Zc m vw vh vr) 26)) ((hm.below ((qK _ _).alloc (qN _) _)).mono (by simp))
 rw [hV,Z63 hi] at z;have z:=qH z;obtain⟨⟨Y,a,p,rfl,G⟩,_,_⟩:=hm;obtain⟨b,o,rfl,u,l⟩:∃ b o,a=some ⟨b,o,none⟩/\b<w.heap.size/\∀ j,j<m.ways.length->w.cell? ⟨b,o+j*5,none⟩=some (O qL (wy m.ways j).x)/\w.cell? ⟨b,o+j*5+1,none⟩=some (O qL (wy m.ways j).y)/\w.cell? ⟨b,o+j*5+2,none⟩=some (O qL (wy m.ways j).fix)/\w.cell? ⟨b,o+j*5+3,none⟩=some (O qL (wy m.ways j).wait)/\w.cell? ⟨b,o+j*5+4,none⟩=some (O qL (wy m.ways j).back):=by
  rcases G with L | h
  ·rw [L] at hi;simp at hi
  ·exact h
 clear G;have V:=(Zm m).1 hV;have k:=fun f=>Z6R m (qS (some ⟨b,o,none⟩) m.ways.length (m.ways.length+p)) vh vr (wy m.ways i).x (wy m.ways i).y (wy m.ways j).x (wy m.ways j).y f V.leg (Z0c V.ways hi) (Z0c V.ways hj)
 unfold legVal at k;have s:=qH k;have V':=qH V;obtain⟨J,I,_,_,_⟩:=l i hi;obtain⟨D,E,_,_,_⟩:=l j hj;unfold dLeg tLeg gLeg dLeg;generalize distV (wy m.ways i).x (wy m.ways i).y (wy m.ways j).x (wy m.ways j).y=d at *;generalize lastsV m.speed d=t at *;generalize growthV m.speed m.part m.flow d=g at *;have H:=Has.new w (Zc m (qS (some ⟨b,o,none⟩) m.ways.length (m.ways.length+p)) vh vr) 26;have N:=qH H;have Q:(i:Int)<m.ways.length:=by omega
 have S:(j:Int)<m.ways.length:=by omega
 clear k V l H hV;unfold Zc at *;go_enter Tryz.func20,Tryz.ntmps20;go_wp2_with (go_at_call 58;refine (z.out).mono ?_;rintro e f ⟨rfl,c⟩;obtain⟨B,C⟩:=bcell c;have A:=c.size;try simp at A)
 have K:Below (w.heap.size+1) _ f:=c.mono (by simp)
 have F:=Has.below N.out K (by omega)
 have r:Below w.heap.size w f:=((qK _ w).alloc (qN _) _).trans (c.mono (by simp))
 obtain⟨c0,c1,c2,c3,c4,c5,c6,c7,c8,c9,U⟩:=Z57 (m:=m) (vw:=qS (some ⟨b,o,none⟩) m.ways.length (m.ways.length+p)) (vh:=vh) (vr:=vr) F;have M:=Low.fact (cY r J u);have X:=Low.fact (cY r I u);have R:=Low.fact (cY r D u);have W:=Low.fact (cY r E u);have Z:b<f.heap.size:=by omega
 have z2:w.heap.size<f.heap.size:=by omega
 have i0:(0:Int)<=i:=by omega
 have j0:(0:Int)<=j:=by omega
 clear J I D E F c B C K
 (refine (wpIn_wide (n:=9)).1 ?_;refine Z1O (Zk _) 15 14 10 _ 110 #[O qL 0,O qL 0,O qL 0] rfl rfl rfl (by decide) (by kernel_rfl) (by kernel_rfl) (by kernel_rfl) (by kernel_rfl) (by kernel_rfl) ?hal ?_;(case hal=>(intro a1 f;go_simp));simp only [List.set_cons_succ,List.set_cons_zero,List.take_succ_cons,List.take_zero,List.drop_succ_cons,List.drop_zero];(iterate 15 (apply ZbI;(case hw=>rfl);(case hval=>(intro f hw1;have P:=Low.cells hw1;simp only [lowAt];go_simp;first | done | (first | (go_at_call 59;with_reducible exact (s.out _))) | rfl | exact⟨rfl,rfl⟩));simp only [Act.put,zq4,zr4,zs4]));refine ZcP ?_;intro w2 m2 hw2 hm2 hx2)
 have x0:=Zl hx2 (i:=0) rfl;have x1:=Zl hx2 (i:=1) rfl;have x2:=Zl hx2 (i:=2) rfl;have y0:=Ze hx2 0;have y1:=Ze hx2 1;have y2:=Ze hx2 2;gi_wp2;go_wp2
 go_quiet (fail)
 go_wp2;refine bodyPost_ret (v:=.tuple #[O qL d,O qL t,O qL g,O qL 0]) (by simp [results,Tryz.f20,go_sem]) rfl ⟨rfl,?_⟩
 have T:Below w.heap.size w w2:=r.trans (hw2.out.mono (by omega))
 have q:w.heap.size<=m2:=by omega
 exact Z44 (((T.setCell q _).setCell q _).setCell q _) _
theorem WaysAt.cells {n0:Nat} {W:World} {v:Value} {l:List Wy} (h:WaysAt n0 W v l) (h0:0<l.length):∃ b o cap,v=qS (some ⟨b,o,none⟩) l.length (l.length+cap)/\b<n0/\∀ j,j<l.length ->
  W.cell? ⟨b,o+j*5,none⟩=some (O qL (wy l j).x)/\W.cell? ⟨b,o+j*5+1,none⟩=some (O qL (wy l j).y)/\W.cell? ⟨b,o+j*5+2,none⟩=some (O qL (wy l j).fix)/\W.cell? ⟨b,o+j*5+3,none⟩=some (O qL (wy l j).wait)/\W.cell? ⟨b,o+j*5+4,none⟩=some (O qL (wy l j).back):=by
 obtain⟨_,a,cap,rfl,c⟩:=h;rcases c with h | ⟨b,o,rfl,d,c⟩
 ·rw [h] at h0;simp at h0
 ·exact⟨b,o,cap,rfl,d,c⟩
theorem Zbd (k:Nat) (x y fix wait back:Int):wayB k ⟨x,y,fix,wait,back⟩=(inB x (-300000) 300000 && inB y (-300000) 300000 && inB fix 0 100000 && inB wait 0 100000 && !(decide (fix=0) && decide (0<wait)) && inB back 0 ((k-1:Nat):Int)):=by
 rw [Bool.eq_iff_iff];simp [wayB,inB];omega
theorem Zbq (m : Msn) (vw vh vr : Value) (k : Nat) (w : World) (hw : WaysAt w.heap.size w vw m.ways) (hk : k < m.ways.length) (hk2 : k <= 1000000) :
  Calls Tryz.prog 29 #[qA (Zc m vw vh vr),O qL k] w fun e w'=>e=qR (qB (wayB k (wy m.ways k)))/\Below w.heap.size w w':=by
 obtain⟨b,o,z,rfl,A,v⟩:=hw.cells (by omega)
 obtain⟨x,y,g,a,c,u⟩:∃ x y g a c,wy m.ways k=⟨x,y,g,a,c⟩:=⟨_,_,_,_,_,rfl⟩;obtain⟨s,r,q,l,t⟩:=v k hk;rw [u] at s r q l t ⊢;dsimp only at s r q l t;clear v u hw;rw [Zbd];have j:(k:Int)<m.ways.length:=by omega
 unfold Zc;cases h1:inB x (-300000) 300000
 ·go_enter Tryz.func29,Tryz.ntmps29
  go_wp2_with (go_at_call 68;refine (ZZ _ _ _ _).mono ?_;rintro e w' ⟨rfl,rfl⟩);go_ret;exact⟨rfl,zB2⟩
 cases h2:inB y (-300000) 300000
 ·go_enter Tryz.func29,Tryz.ntmps29
  go_wp2_with (go_at_call 68;refine (ZZ _ _ _ _).mono ?_;rintro e w' ⟨rfl,rfl⟩);go_ret;exact⟨rfl,zB2⟩
 cases h3:inB g 0 100000
 ·go_enter Tryz.func29,Tryz.ntmps29
  go_wp2_with (go_at_call 68;refine (ZZ _ _ _ _).mono ?_;rintro e w' ⟨rfl,rfl⟩);go_ret;exact⟨rfl,zB2⟩
 cases h4:inB a 0 100000
 ·go_enter Tryz.func29,Tryz.ntmps29
  go_wp2_with (go_at_call 68;refine (ZZ _ _ _ _).mono ?_;rintro e w' ⟨rfl,rfl⟩);go_ret;exact⟨rfl,zB2⟩
 have f:=(ZQ h3).1;by_cases hf:g=0
 ·have p : decide (g = 0) = true := by simpa using hf
  by_cases hwt:0<a
  ·have d:decide (0<a)=true:=by simpa using hwt
   have E:(true && true && true && true && !(decide (g=0) && decide (0<a)) && inB c 0 ((k-1:Nat):Int))=false:=by rw [p,d];rfl
   rw [E];clear E p;subst hf;go_enter Tryz.func29,Tryz.ntmps29;go_wp2_with (go_at_call 68;refine (ZZ _ _ _ _).mono ?_;rintro e w' ⟨rfl,rfl⟩);go_ret;exact⟨rfl,zB2⟩
  ·have d:decide (0<a)=false:=by simpa using hwt
   clear hwt;have E:(true && true && true && true && !(decide (g=0) && decide (0<a)) && inB c 0 ((k-1:Nat):Int))=inB c 0 ((k-1:Nat):Int):=by rw [p,d];simp
   rw [E];clear E p;subst hf;cases h5:inB c 0 ((k-1:Nat):Int)
   all_goals
    rcases k with _ | n
    ·simp only [Nat.zero_sub,Int.natCast_zero,Nat.zero_mul,Nat.add_zero] at h5 j s r q l t ⊢
     go_enter Tryz.func29,Tryz.ntmps29;go_wp2_with (go_at_call 68;refine (ZZ _ _ _ _).mono ?_;rintro e w' ⟨rfl,rfl⟩);go_ret;exact⟨rfl,zB2⟩
    ·rcases n with _ | n
     ·simp only [Nat.zero_add,Nat.sub_self,Int.natCast_zero,Int.natCast_one,Nat.one_mul] at h5 j s r q l t ⊢
      go_enter Tryz.func29,Tryz.ntmps29;go_wp2_with (go_at_call 68;refine (ZZ _ _ _ _).mono ?_;rintro e w' ⟨rfl,rfl⟩);go_ret;exact⟨rfl,zB2⟩
     ·have e:((n+1+1-1:Nat):Int)=(n:Int)+1:=by omega
      rw [e] at h5;clear e;go_enter Tryz.func29,Tryz.ntmps29;go_wp2_with (go_at_call 68;refine (ZZ _ _ _ _).mono ?_;rintro e w' ⟨rfl,rfl⟩);go_ret;exact⟨rfl,zB2⟩
 ·have B:(g == 0)=false:=by simpa using hf
  have p:decide (g=0)=false:=by simpa using hf
  clear hf;have E:(true && true && true && true && !(decide (g=0) && decide (0<a)) && inB c 0 ((k-1:Nat):Int))=inB c 0 ((k-1:Nat):Int):=by rw [p];simp
  rw [E];clear E;cases h5:inB c 0 ((k-1:Nat):Int)
  all_goals
   rcases k with _ | n
   ·simp only [Nat.zero_sub,Int.natCast_zero,Nat.zero_mul,Nat.add_zero] at h5 j s r q l t ⊢
    go_enter Tryz.func29,Tryz.ntmps29;go_wp2_with (go_at_call 68;refine (ZZ _ _ _ _).mono ?_;rintro e w' ⟨rfl,rfl⟩);go_ret;exact⟨rfl,zB2⟩
   ·rcases n with _ | n
    ·simp only [Nat.zero_add,Nat.sub_self,Int.natCast_zero,Int.natCast_one,Nat.one_mul] at h5 j s r q l t ⊢
     go_enter Tryz.func29,Tryz.ntmps29;go_wp2_with (go_at_call 68;refine (ZZ _ _ _ _).mono ?_;rintro e w' ⟨rfl,rfl⟩);go_ret;exact⟨rfl,zB2⟩
    ·have e:((n+1+1-1:Nat):Int)=(n:Int)+1:=by omega
     rw [e] at h5;clear e;go_enter Tryz.func29,Tryz.ntmps29;go_wp2_with (go_at_call 68;refine (ZZ _ _ _ _).mono ?_;rintro e w' ⟨rfl,rfl⟩);go_ret;exact⟨rfl,zB2⟩
theorem Z8A (m:Msn) (vw vh vr:Value) (w:World) :
  Calls Tryz.prog 31 #[qA (Zc m vw vh vr)] w fun e w'=>e=qR (qB (inB m.start 0 100000 && inB m.speed 1 20000 && inB m.part 0 500 && inB m.flow 0 5000 && inB m.idle 0 1000 && inB m.drive 0 1000 && inB m.battery 0 1000000000 && inB m.deadline 0 1000000000))/\Below w.heap.size w w':=by
 unfold Zc;cases h1:inB m.start 0 100000
 ·go_enter Tryz.func31,Tryz.ntmps31
  go_wp2_with (go_at_call 68;refine (ZZ _ _ _ _).mono ?_;rintro e w' ⟨rfl,rfl⟩);go_ret;exact⟨rfl,zB2⟩
 cases h2:inB m.speed 1 20000
 ·go_enter Tryz.func31,Tryz.ntmps31
  go_wp2_with (go_at_call 68;refine (ZZ _ _ _ _).mono ?_;rintro e w' ⟨rfl,rfl⟩);go_ret;exact⟨rfl,zB2⟩
 cases h3:inB m.part 0 500
 ·go_enter Tryz.func31,Tryz.ntmps31
  go_wp2_with (go_at_call 68;refine (ZZ _ _ _ _).mono ?_;rintro e w' ⟨rfl,rfl⟩);go_ret;exact⟨rfl,zB2⟩
 cases h4:inB m.flow 0 5000
 ·go_enter Tryz.func31,Tryz.ntmps31
  go_wp2_with (go_at_call 68;refine (ZZ _ _ _ _).mono ?_;rintro e w' ⟨rfl,rfl⟩);go_ret;exact⟨rfl,zB2⟩
 cases h5:inB m.idle 0 1000
 ·go_enter Tryz.func31,Tryz.ntmps31
  go_wp2_with (go_at_call 68;refine (ZZ _ _ _ _).mono ?_;rintro e w' ⟨rfl,rfl⟩);go_ret;exact⟨rfl,zB2⟩
 cases h6:inB m.drive 0 1000
 ·go_enter Tryz.func31,Tryz.ntmps31
  go_wp2_with (go_at_call 68;refine (ZZ _ _ _ _).mono ?_;rintro e w' ⟨rfl,rfl⟩);go_ret;exact⟨rfl,zB2⟩
 cases h7:inB m.battery 0 1000000000
 ·go_enter Tryz.func31,Tryz.ntmps31
  go_wp2_with (go_at_call 68;refine (ZZ _ _ _ _).mono ?_;rintro e w' ⟨rfl,rfl⟩);go_ret;exact⟨rfl,zB2⟩
 go_enter Tryz.func31,Tryz.ntmps31;go_wp2_with (go_at_call 68;refine (ZZ _ _ _ _).mono ?_;rintro e w' ⟨rfl,rfl⟩);go_ret;exact⟨rfl,zB2⟩
theorem Low.tr {a b c:World} (h:Low a b) (k:Low b c):Low a c:=h.out.trans (k.out.mono h.out.size)
theorem Z8r (m:Msn) (vw vh vr:Value) (w:World) (hm:legOk m) (hs:0<=m.start/\m.start<=100000) (hw:WaysAt w.heap.size w vw m.ways) (h2:2<=m.ways.length) (h41:m.ways.length<=41) (hwb:waysB m.ways=true) :
  Calls Tryz.prog 32 #[qA (Zc m vw vh vr)] w fun e w'=>e=qR (O qL (grownV m))/\Below w.heap.size w w':=by
 obtain⟨b,o,p,rfl,B,N⟩:=hw.cells (by omega)
 have D:=qH N;have c:=qH hwb;have z:=qH hm;have H0:Has (w.alloc (.cells (Zc m (qS (some ⟨b,o,none⟩) m.ways.length (m.ways.length+p)) vh vr) 26)) w.heap.size (Zc m (qS (some ⟨b,o,none⟩) m.ways.length (m.ways.length+p)) vh vr) 26:=Has.new w _ _;have H0H:=qH H0;clear N hwb hm H0 hw;unfold Zc;go_enter Tryz.func32,Tryz.ntmps32;go_wp2
 go_loopw [3,4] (fun s i wr=>∃ k:Nat,k+1<=m.ways.length/\i=O qL ((k:Int)+1)/\s=O qL (grownTo m k)/\Has wr w.heap.size (Zc m (qS (some ⟨b,o,none⟩) m.ways.length (m.ways.length+p)) vh vr) 26/\Below w.heap.size w wr) (fun _ i _=>m.ways.length-(intOf i).toNat)
 case atStart=>exact⟨0,by omega,rfl,rfl,H0H.out,(qK _ _).alloc (qN _) _⟩
 case round =>
  obtain⟨k,hk,rfl,rfl,H,g⟩:=hrel;have cc0:=(Zh (m:=m) (vh:=vh) (vr:=vr) H).1;by_cases hlt:(k:Int)+1<(m.ways.length:Int)
  ·have hz:=g.size
   have d:k+1<m.ways.length:=by omega
   have bk:=Z0M c.out d;obtain⟨q,S⟩:∃ q:Nat,(wy m.ways (k+1)).back=q:=⟨_,(Int.toNat_of_nonneg bk.1).symm⟩;rw [S] at bk;have v:q<m.ways.length:=by omega
   have Z:grownTo m (k+1)=grownTo m k+(gLeg m k (k+1)+gLeg m (k+1) q):=by rw [grownTo,S];rfl
   have gb:=Z2D z.out hs c.out k (by omega)
   have g1:=ZW z.out c.out (i:=k) (j:=k+1) (by omega) d
   have g2:=ZW z.out c.out (i:=k+1) (j:=q) d v;obtain⟨m1,m2,U,X,m5,m6⟩:=z.out;obtain⟨y1,y2,y3,y4⟩:=Z0c c.out (j:=k) (by omega)
   obtain⟨x1,V,x3,x4⟩:=Z0c c.out d;obtain⟨r1,r2,r3,r4⟩:=Z0c c.out v;have r:=fun w1=>Z4s (wy m.ways k).x (wy m.ways k).y (wy m.ways (k+1)).x (wy m.ways (k+1)).y w1 y1 y2 y3 y4 x1 V x3 x4
   have u:=fun w1=>Z4s (wy m.ways (k+1)).x (wy m.ways (k+1)).y (wy m.ways q).x (wy m.ways q).y w1 x1 V x3 x4 r1 r2 r3 r4
   have d1:=Z2F c.out (i:=k) (j:=k+1) (by omega) d
   have d2:=Z2F c.out (i:=k+1) (j:=q) d v;have n:=fun w1=>Z3v m (qS (some ⟨b,o,none⟩) m.ways.length (m.ways.length+p)) vh vr (dLeg m k (k+1)) w1 d1.1 d1.2 m1 m2 U X m5 m6
   have l:=fun w1=>Z3v m (qS (some ⟨b,o,none⟩) m.ways.length (m.ways.length+p)) vh vr (dLeg m (k+1) q) w1 d2.1 d2.2 m1 m2 U X m5 m6
   change ∀ w1,Calls _ _ _ _ fun e w'=>e=qR (O qL (dLeg m k (k+1)))/\_ at r
   change ∀ w1,Calls _ _ _ _ fun e w'=>e=qR (O qL (dLeg m (k+1) q))/\_ at u
   change ∀ w1,Calls _ _ _ _ fun e w'=>e=qR (O qL (gLeg m k (k+1)))/\_ at n
   change ∀ w1,Calls _ _ _ _ fun e w'=>e=qR (O qL (gLeg m (k+1) q))/\_ at l
   generalize hd1:dLeg m k (k+1)=l1 at r n;generalize Y:dLeg m (k+1) q=l2 at u l;obtain⟨E,C⟩:∃ E,gLeg m k (k+1)=E:=⟨_,rfl⟩;obtain⟨T,A⟩:∃ T,gLeg m (k+1) q=T:=⟨_,rfl⟩;obtain⟨t,ht⟩:∃ t,grownTo m k=t:=⟨_,rfl⟩;rw [C,A,ht] at Z;rw [ht] at gb ⊢;rw [C] at g1 n;rw [A] at g2 l;have a1:qW qL (t+E)=t+E:=zW2;have a2:qW qL (t+E+T)=t+E+T:=zW2;have a3:qW qL (k:Int)=k:=zW2;obtain⟨u0,u1,_,_,_⟩:=D.out k (by omega)
   obtain⟨p0,p1,_,_,p4⟩:=D.out (k+1) d;obtain⟨v0,v1,_,_,_⟩:=D.out q v;rw [S] at p4;obtain⟨c0,c1,c2,c3,c4,c5,c6,c7,c8,c9,L⟩:=Z57 H;have lu0:=Low.fact (cY g u0 B);have lu1:=Low.fact (cY g u1 B);have R:=Low.fact (cY g p0 B);have G:=Low.fact (cY g p1 B);have F:=Low.fact (cY g p4 B);have K:=Low.fact (cY g v0 B);have M:=Low.fact (cY g v1 B);have hg':=qH Z;have HH:=qH H;have P:=qH r;have I:=qH u;have Q:=qH n;have J:=qH l;have kl:k<m.ways.length:=by omega
   have kl':(k:Int)<(m.ways.length:Int):=by omega
   have k1:(0:Int)<=(k:Int)+1:=by omega
   have k2:((k:Int)+1).toNat=k+1:=by omega
   have ql':(q:Int)<(m.ways.length:Int):=by omega
   clear u0 u1 p0 p1 p4 v0 v1 Z H S C A ht r u n l hd1 Y m1 m2 U X m5 m6 x1 V x3 x4 y1 y2 y3 y4 r1 r2 r3 r4;unfold Zc at *;go_wp2
   (refine Zg (by kernel_rfl) (by kernel_rfl) ?_;(iterate 19 (apply qw3;(case hw=>rfl);(case hval=>(intro w1 hw1 hcx;simp only [Oper.quietAt];go_simp;first | done | (first | (go_at_call 73;with_reducible exact (Low.calls hw1 (P.out _))) | (go_at_call 72;with_reducible exact (Low.calls hw1 (Q.out _)))) | rfl | exact⟨rfl,rfl⟩));simp only [Act.put,zq4,zr4,zs4]));refine wpQuiet_nil ?_;intro w2 hw2)
   obtain⟨f,rfl⟩:∃ f,f=w2:=⟨_,rfl⟩;have a:=hw2;clear hw2;replace c0:=fun w1 (h:Low f w1)=>c0 w1 (Low.tr a h)
   replace c1:=fun w1 (h:Low f w1)=>c1 w1 (Low.tr a h)
   replace c2:=fun w1 (h:Low f w1)=>c2 w1 (Low.tr a h)
   replace c3:=fun w1 (h:Low f w1)=>c3 w1 (Low.tr a h)
   replace c4:=fun w1 (h:Low f w1)=>c4 w1 (Low.tr a h)
   replace c5:=fun w1 (h:Low f w1)=>c5 w1 (Low.tr a h)
   replace c6:=fun w1 (h:Low f w1)=>c6 w1 (Low.tr a h)
   replace c7:=fun w1 (h:Low f w1)=>c7 w1 (Low.tr a h)
   replace c8:=fun w1 (h:Low f w1)=>c8 w1 (Low.tr a h)
   replace c9:=fun w1 (h:Low f w1)=>c9 w1 (Low.tr a h)
   replace L:=fun w1 (h:Low f w1)=>L w1 (Low.tr a h)
   replace R:=fun w1 (h:Low f w1)=>R w1 (Low.tr a h)
   replace G:=fun w1 (h:Low f w1)=>G w1 (Low.tr a h)
   replace F:=fun w1 (h:Low f w1)=>F w1 (Low.tr a h)
   replace K:=fun w1 (h:Low f w1)=>K w1 (Low.tr a h)
   replace M:=fun w1 (h:Low f w1)=>M w1 (Low.tr a h)
   have hza:=a.out.size;go_wp2
   (refine Zg (by kernel_rfl) (by kernel_rfl) ?_;(iterate 23 (apply qw3;(case hw=>rfl);(case hval=>(intro w1 hw1 hcx;simp only [Oper.quietAt];go_simp;first | done | (first | (go_at_call 73;with_reducible exact (Low.calls hw1 (I.out _))) | (go_at_call 72;with_reducible exact (Low.calls hw1 (J.out _)))) | rfl | exact⟨rfl,rfl⟩));simp only [Act.put,zq4,zr4,zs4]));refine wpQuiet_nil ?_;intro w2 hw2)
   have hW:=Low.tr a hw2;go_wp2;go_roundw
   case rel=>exact⟨k+1,by omega,by go_num,by rw [hg'.out,Int.add_assoc],HH.out.below hW.out HH.out.lt,g.trans (hW.out.mono g.size)⟩
   case measure=>simp [intOf];omega
  ·obtain rfl:k=m.ways.length-1:=by omega
   have W:(((m.ways.length-1:Nat):Int))=(m.ways.length:Int)-1:=by omega
   have hd:decide (((m.ways.length-1:Nat):Int)+1<(m.ways.length:Int))=false:=by simp;omega
   clear W;go_wp2;go_ret;exact⟨rfl,g⟩
theorem Z1k {m:Msn} (h:¬ VMsn m):validB m=false:=by
 cases e:validB m
 ·rfl
 ·exact absurd ((Zm m).1 e) h
def limitsB (m:Msn):Bool:=inB m.start 0 100000 && inB m.speed 1 20000 && inB m.part 0 500 && inB m.flow 0 5000 && inB m.idle 0 1000 && inB m.drive 0 1000 && inB m.battery 0 1000000000 && inB m.deadline 0 1000000000
theorem Z3H (m:Msn):limitsB m=true↔(0<=m.start/\m.start<=100000)/\legOk m/\(0<=m.idle/\m.idle<=1000)/\(0<=m.drive/\m.drive<=1000)/\(0<=m.battery/\m.battery<=1000000000)/\(0<=m.deadline/\m.deadline<=1000000000):=by
 simp [limitsB,inB,legOk];omega
theorem VMsn.limits {m:Msn} (v:VMsn m):limitsB m=true:=(Z3H m).2 ⟨v.start,v.leg,v.idle,v.drive,v.battery,v.deadline⟩
theorem Z4Z (m:Msn) (vw vh vr:Value) (w:World) (hm:MsnAt w.heap.size w m vw vh vr) (h:sizesB m=false) :
  Calls Tryz.prog 7 #[qA (Zc m vw vh vr)] w fun e w'=>e=qR (qB (validB m))/\Below w.heap.size w w':=by
 rw [Z1k (fun v=>by
  have:sizesB m=true:=by simp [sizesB];have:=v.n2;have:=v.n41;have:=v.nr;omega
  rw [h] at this;cases this)]
 obtain⟨⟨_,k,a,rfl,_⟩,_,⟨_,j,b,rfl,_⟩⟩:=hm;unfold Zc;by_cases h1:m.ways.length<2
 ·have d:decide ((m.ways.length:Int)<2)=true:=by simp;omega
  clear h;go_enter Tryz.func7,Tryz.ntmps7;go_wp2;go_ret;exact⟨rfl,zB2⟩
 ·have d:decide ((m.ways.length:Int)<2)=false:=by simp;omega
  by_cases h2:41<m.ways.length
  ·have f:decide (41<(m.ways.length:Int))=true:=by simp;omega
   clear h h1 h2;go_enter Tryz.func7,Tryz.ntmps7;go_wp2;go_ret;exact⟨rfl,zB2⟩
  ·have f:decide (41<(m.ways.length:Int))=false:=by simp;omega
   have c:100<m.rocks.length:=by simp [sizesB] at h;omega
   have g:decide (100<(m.rocks.length:Int))=true:=by simp;omega
   clear h h1 h2 c;go_enter Tryz.func7,Tryz.ntmps7;go_wp2;go_ret;exact⟨rfl,zB2⟩
theorem Z50 (m : Msn) (vw vh vr : Value) (w : World) (hm : MsnAt w.heap.size w m vw vh vr) (h : sizesB m = true) :
  Calls Tryz.prog 7 #[qA (Zc m vw vh vr)] w fun e w'=>e=qR (qB (validB m))/\Below w.heap.size w w':=by
 obtain⟨n2,L,nr⟩:=Z16 h;have d1:decide ((m.ways.length:Int)<2)=false:=by simp;omega
 have d2:decide (41<(m.ways.length:Int))=false:=by simp;omega
 have d3:decide (100<(m.rocks.length:Int))=false:=by simp;omega
 have D:=qH hm;have H0:=Has.new w (Zc m vw vh vr) 26;have H0H:=qH H0;obtain⟨_,Z,p,hvw,_⟩:=hm.1;obtain⟨_,K,l,hvr,U⟩:=hm.2.2;subst hvw;subst hvr;have N:=qH U;clear hm H0 h U;unfold Zc;go_enter Tryz.func7,Tryz.ntmps7;go_wp2
 go_loopw [3] (fun i wr=>∃ k:Nat,k<=m.ways.length/\i=O qL k/\(∀ j,j<k->wayB j (wy m.ways j)=true)/\Has wr w.heap.size (Zc m (qS Z m.ways.length (m.ways.length+p)) vh (qS K m.rocks.length (m.rocks.length+l))) 26/\Below w.heap.size w wr) (fun i _=>m.ways.length-(intOf i).toNat)
 case atStart=>exact⟨0,by omega,rfl,fun j hj=>by omega,H0H.out,(qK _ _).alloc (qN _) _⟩
 case round =>
  obtain⟨k,hk,rfl,a,H,I⟩:=hrel;obtain⟨c0,c1,c2,c3,c4,c5,c6,c7,c8,c9,B⟩:=Zh H;have d:=qH a;have HH:=qH H;have hz:=I.size;have Y:=H.lt;by_cases hlt:k<m.ways.length
  ·have T:=Zbq m (qS Z m.ways.length (m.ways.length+p)) vh (qS K m.rocks.length (m.rocks.length+l)) k wr ((D.out.1.below I).mono I.size) hlt (by omega)
   have n:=qH T;clear T a H;unfold Zc at n;cases hpl:wayB k (wy m.ways k)
   ·rw [hpl] at n
    have C:Hid (validB m=false):=Z1k (fun v=>by have:=Z0b v.ways hlt;rw [hpl] at this;cases this)
    have x:=qH hpl;clear hpl;go_wp2_with (go_at_call 29;refine (n.out).mono ?_;rintro e A ⟨rfl,c⟩;obtain⟨hc1,hf1⟩:=bcell c;have z:=c.size;try simp at z)
    go_ret;exact⟨Zu C.out.symm,zB2⟩
   ·rw [hpl] at n
    have x:=qH hpl;clear hpl;go_wp2_with (go_at_call 29;refine (n.out).mono ?_;rintro e A ⟨rfl,c⟩;obtain⟨hc1,hf1⟩:=bcell c;have z:=c.size;try simp at z)
    go_roundw
    case rel =>
     refine⟨k+1,by omega,by go_num,fun j hj=>?_,HH.out.below c Y,zB2⟩
     by_cases e:j=k
     ·rw [e];exact x.out
     ·exact d.out j (by omega)
    case measure=>simp [intOf];omega
  ·obtain rfl:k=m.ways.length:=by omega
   have aa:Hid (waysB m.ways=true):=by
    show waysB m.ways=true
    simp only [waysB,decide_eq_true_eq];exact a
   have ac:=(D.out.2.1.below I).mono I.size;have V:=qH ac;clear ac a H;have P:=fun A hp=>Z2v vh m.home A hp
   have E:=fun A=>Z8A m (qS Z m.ways.length (m.ways.length+p)) vh (qS K m.rocks.length (m.rocks.length+l)) A
   change ∀ A,Calls _ _ _ _ fun e w'=>e=qR (qB (limitsB m))/\_ at E
   have M:=qH P;have y:=qH E;clear P E;unfold Zc at y;go_wp2_with fail;refine (M.out _ V.out).mono ?_;rintro e A ⟨rfl,c⟩;have H1:=HH.out.below c Y;have B1:=I.trans (c.mono hz);have z1:=H1.lt;obtain⟨c0,c1,c2,c3,c4,c5,c6,c7,c8,c9,B⟩:=Zh H1;have H1':=qH H1;clear H1 c;go_wp2_with fail;refine (y.out _).mono ?_;rintro e w2 ⟨rfl,F⟩;have H2:=H1'.out.below F z1;have B2:=B1.trans (F.mono (by omega))
   have z2:=H2.lt;obtain⟨c0,c1,c2,c3,c4,c5,c6,c7,c8,c9,B⟩:=Zh H2;have H2':=qH H2;clear H2 F;cases hh:refValid m.home
   ·have C:Hid (validB m=false):=Z1k (fun v=>by have:=v.home;rw [Z2g,hh] at this;cases this)
    go_wp2;go_ret;exact⟨Zu C.out.symm,B2⟩
   cases hl:limitsB m
   ·have C:Hid (validB m=false):=Z1k (fun v=>by have:=v.limits;rw [hl] at this;cases this)
    go_wp2;go_ret;exact⟨Zu C.out.symm,B2⟩
   obtain⟨J,G,X,Q,S,l6⟩:=(Z3H m).1 hl;have hL:=qH (qI hh (qI J (qI G (qI X (qI Q (qI S l6))))));clear J G X Q S l6;go_wp2
   go_loopw [7] (fun i wr=>∃ k:Nat,k<=m.rocks.length/\i=O qL k/\(∀ j,j<k->Zb (rk m.rocks j)=true)/\Has wr w.heap.size (Zc m (qS Z m.ways.length (m.ways.length+p)) vh (qS K m.rocks.length (m.rocks.length+l))) 26/\Below w.heap.size w wr) (fun i _=>m.rocks.length-(intOf i).toNat)
   case atStart=>exact⟨0,by omega,rfl,fun j hj=>by omega,H2'.out,B2⟩
   case round =>
    obtain⟨k,hk,rfl,a,H,q⟩:=hrel;obtain⟨c0,c1,c2,c3,c4,c5,c6,c7,c8,c9,B⟩:=Zh H;have d:=qH a;have HH3:=qH H;have hz3:=q.size;have ab:=H.lt;clear a H;by_cases hlt:k<m.rocks.length
    ·obtain⟨b,o,rfl,hb,ae⟩:∃ b o,K=some ⟨b,o,none⟩/\b<w.heap.size/\∀ j,j<m.rocks.length->∃ u,w.cell? ⟨b,o+j,none⟩=some u/\Z7 w.heap.size w u (rk m.rocks j):=by
      rcases N.out with h0 | h
      ·rw [h0] at hlt;simp at hlt
      ·exact h
     obtain⟨u,hu,hpu⟩:=ae k hlt;have cu:=cY q hu hb;have s:=qH ((hpu.below q).mono q.size);clear ae hu hpu;cases hpl:refValid (rk m.rocks k)
     ·have C:Hid (validB m=false):=Z1k (fun v=>by have:=(of_decide_eq_true v.rocks) k hlt;rw [Z2g,hpl] at this;cases this)
      go_wp2_with (go_at_call 30;refine (Z2v _ _ _ s.out).mono ?_;rintro e w5 ⟨rfl,f⟩;obtain⟨R,W⟩:=bcell f;have r:=f.size;try simp at r)
      go_ret;exact⟨Zu C.out.symm,zB2⟩
     ·go_wp2_with (go_at_call 30;refine (Z2v _ _ _ s.out).mono ?_;rintro e w5 ⟨rfl,f⟩;obtain⟨R,W⟩:=bcell f;have r:=f.size;try simp at r)
      go_roundw
      case rel =>
       refine⟨k+1,by omega,by go_num,fun j hj=>?_,HH3.out.below f ab,zB2⟩
       by_cases e:j=k
       ·rw [e,Z2g];exact hpl
       ·exact d.out j (by omega)
      case measure=>simp [intOf];omega
    ·obtain rfl:k=m.rocks.length:=by omega
     have hrb:Hid (rocksB m.rocks=true):=by
      show rocksB m.rocks=true
      simp only [rocksB,decide_eq_true_eq];exact d.out
     obtain⟨hh,J,G,X,Q,S,l6⟩:=hL.out;have ad:=Z8r m (qS Z m.ways.length (m.ways.length+p)) vh (qS K m.rocks.length (m.rocks.length+l)) wr G J ((D.out.1.below q).mono q.size) n2 L aa.out;have hv:Hid (validB m=decide (grownV m<=100000)):=by
      show validB m=_
      rw [Bool.eq_iff_iff,Zm,decide_eq_true_iff];exact⟨fun v=>v.grown,fun g=>⟨n2,L,nr,aa.out,by rw [Z2g];exact hh,hrb.out,J,G,X,Q,S,l6,g⟩⟩
     have t:=qH ad;clear ad hh J G X Q S l6;unfold Zc at t;go_wp2_with (go_at_call 32;refine (t.out).mono ?_;rintro e w5 ⟨rfl,f⟩;obtain⟨R,W⟩:=bcell f;have r:=f.size;try simp at r)
     go_ret;exact⟨Zu hv.out.symm,zB2⟩
theorem Z5N (m:Msn) (vw vh vr:Value) (w:World) (hm:MsnAt w.heap.size w m vw vh vr) :
  Calls Tryz.prog 7 #[qA (Zc m vw vh vr)] w fun e w'=>e=qR (qB (validB m))/\Below w.heap.size w w':=by
 cases h:sizesB m
 ·exact Z4Z m vw vh vr w hm h
 ·exact Z50 m vw vh vr w hm h
end
section
attribute [local go_sem] Oper.semAt_some
attribute [local irreducible] wpQuiet
open Go.RowKit Go.Shelf
theorem ZbQ (m:Msn) (vw vh vr:Value) (k:Int) (w:World) :
  Calls Tryz.prog 61 #[qA (Zc m vw vh vr),O qL k] w fun e w'=>e=qR (.func (.func 111) #[] #[qP (some ⟨w.heap.size+1,0,none⟩),qP (some ⟨w.heap.size,0,none⟩)])/\(w.alloc (.cells (Zc m vw vh vr) 26)).alloc (.cells #[O qL k] 3)=w':=by
 unfold Zc;go_enter Tryz.func61,Tryz.ntmps61;go_wp2;go_ret;exact⟨rfl,rfl⟩
def cellN (w:World) (b:Nat):Nat:=match w.cell? ⟨b,0,none⟩ with | some v=>(intOf v).toNat | none=>0
theorem Z7X {w:World} {b:Nat} {k:Nat} (h:w.cell? ⟨b,0,none⟩=some (O qL k)):cellN w b=k:=by unfold cellN;rw [h];simp [intOf]
theorem ZbR (n : Nat) (hn : 1 <= n) (p : Nat -> Prop) (m : Msn) (vw vh vr : Value) (k : Nat) (Bw Bm b o cap : Nat) (W : World) (l : Nat) (hwb : waysB m.ways = true) (hk : k < m.ways.length)
  (hvw:vw=qS (some ⟨b,o,none⟩) m.ways.length (m.ways.length+cap)) (hc:∀ j,j<m.ways.length->W.cell? ⟨b,o+j*5+3+1,none⟩=some (O qL (wy m.ways j).back))
  (p1:p Bw) (p2:p Bm) (p3:p b) (hb:b≠Bw) (hBm:Bm≠Bw) (J Jx:List Nat->World->Prop)
  (hJ:∀ s A B,J s A->MoveM (fun r=>r=Bw) A B->J s B)
  (hY:∀ (pre:List Nat) (x:Nat) W1,J pre W1->pre.length<dep m k+1->W.heap.size<=W1.heap.size->YieldAt Fence.wide (n-1) Tryz.prog l #[O qL (x:Int)] W1 fun e W' =>
   (e=qR (qB true)/\J (pre++[x]) W'/\KeepsP p W1 W')\/(e=qR (qB false)/\Jx (pre++[x]) W'))
  (hB:Boxed W Bw 3 (O qL k)) (HM:Has W Bm (Zc m vw vh vr) 26) (h0:J [] W) :
  CallsIn Fence.wide n Tryz.prog 111 #[.func (.yield l) #[] #[],qP (some ⟨Bw,0,none⟩),qP (some ⟨Bm,0,none⟩)] W fun e W'=>(∃ v,e=qR v) /\
   ((∃ ys,ys=upto (itB m k) (dep m k+1)/\J ys W')\/(∃ pre,(∃ j,j<=dep m k+1/\pre=upto (itB m k) j)/\Jx pre W')):=by
 have R:=qH hc;clear hc;refine callsIn_of_wp Tryz.func111 rfl trivial ?_ rfl;simp only [Tryz.ntmps111,List.size_toArray,List.length_cons,List.length_nil,Nat.reduceAdd,Nat.reduceSub,Array.replicate_succ,Array.replicate_zero,List.push_toArray,List.append_toArray,List.nil_append,List.cons_append];gi_wp2
 gi_loopw [4] (fun _ wr=>∃ j:Nat,j<=dep m k/\J (upto (itB m k) j) wr/\Boxed wr Bw 3 (O qL (itB m k j))/\Has wr Bm (Zc m vw vh vr) 26/\wr.heap[b]?=W.heap[b]?/\W.heap.size<=wr.heap.size)
  (fun _ wr=>cellN wr Bw)
 case atStart=>exact⟨0,Nat.zero_le _,h0,hB,HM,rfl,qN _⟩
 case round =>
  obtain⟨j,Q,F,g,w,t,I⟩:=hrel;have H:=Z0o hwb hk Q;have c1:=g.cell;obtain⟨fn,aa,P,body,hy,hR⟩:=hY _ (itB m k j) _ F (by rw [Zq];omega) I
  have Y:=qH (qI g (qI w t));have hJ':=qH F;have f:=qH hwb;have hB':=qH hB;have HM':=qH HM;have E:=qH Q;clear g w t F hwb hB HM Q;gi_wp2;refine hR.mono ?_;rintro e C (⟨rfl,M,u⟩ | ⟨rfl,L⟩)
  ·obtain⟨g,w,t⟩:=Y.out
   have a:Boxed C Bw 3 (O qL (itB m k j)):=(u.2 Bw p1).trans g;have c:Has C Bm (Zc m vw vh vr) 26:=(u.2 Bm p2).trans w;have d:C.heap[b]?=W.heap[b]?:=(u.2 b p3).trans t;have N:=Nat.le_trans I u.1;have Z:=a.cell;have y:=qH M;clear g w t M u hy hR c1;by_cases hz:itB m k j=0
   ·rw [hz] at Z
    have U:=qH hz;clear hz;have X:=qH (qI a (qI c d));clear a c d;gi_wp2;go_end0;refine⟨⟨_,rfl⟩,.inl ⟨_,rfl,?_⟩⟩;rw [<- Z77 f.out hk E.out U.out,ZB];exact y.out
   ·have V:0<itB m k j:=by omega
    have T:j<dep m k:=by
     rcases Nat.lt_or_ge j (dep m k) with h | h
     ·exact h
     ·exfalso
      have:j=dep m k:=by have:=E.out;omega
      rw [this] at hz;exact hz (Z78 f.out hk)
    have z:=ZcZ f.out hk T;have G:=Z0M f.out H;obtain⟨q,K⟩:∃ q:Nat,(wy m.ways (itB m k j)).back=q:=⟨_,(Int.toNat_of_nonneg G.1).symm⟩;have D:itB m k (j+1)=q:=by show (wy m.ways (itB m k j)).back.toNat=q;rw [K];rfl
    have d1:C.cell? ⟨b,o+itB m k j*5+3+1,none⟩=some (O qL q):=by rw [<- K,World.cell?_of_block d];exact R.out _ H
    have d2:C.cell? ⟨Bm,0,none⟩=some (qS (some ⟨b,o,none⟩) m.ways.length (m.ways.length+cap)):=by rw [<- hvw];exact cX 0 c rfl
    have f3:=a.frozen;have X:=qH (qI a (qI c d));have S:=qH (qI K D);rw [D] at z;rw [K] at G;have hil:(itB m k j:Int)<m.ways.length:=by omega
    clear a c d K D hz;gi_wp2;obtain⟨a,c,d⟩:=X.out;refine⟨⟨j+1,by omega,?_,?_,?_,?_,by simpa [World.setCell] using N⟩,?_⟩
    ·rw [ZB];exact hJ _ _ _ y.out (MoveM.set rfl Z)
    ·rw [S.out.2];exact a.set _
    ·exact (Below.heap_setCell C ⟨Bw,0,none⟩ _ Bm hBm).trans c
    ·exact (Below.heap_setCell C ⟨Bw,0,none⟩ _ b hb).trans d
    ·rw [Z7X (a.set _).cell,Z7X Y.out.1.cell];exact z
  ·gi_wp2
   go_end0;exact⟨⟨_,rfl⟩,.inr ⟨_,⟨j+1,by have:=E.out;omega,(ZB _ _).symm⟩,L⟩⟩
theorem ZbP (n:Nat) (hn:1<=n) (p:Nat->Prop) (m:Msn) (vw vh vr:Value) (k:Nat) (Bw Bm n0:Nat) (w:World) (hwb:waysB m.ways=true) (hk:k<m.ways.length)
  (hw:WaysAt n0 w vw m.ways) (p1:p Bw) (p2:p Bm) (p3:∀ b,b<n0->p b) (hn0:n0<=Bw) (hBm:Bm≠Bw) (hB:Boxed w Bw 3 (O qL k)) (HM:Has w Bm (Zc m vw vh vr) 26) :
  SeqM n Tryz.prog 111 #[qP (some ⟨Bw,0,none⟩),qP (some ⟨Bm,0,none⟩)] (fun x:Nat=>#[O qL (x:Int)]) (fun _=>KeepsP p) (fun _ r=>r=Bw) 0 (dep m k+1)
   (fun ys=>ys=upto (itB m k) (dep m k+1)) (fun pre=>∃ j,j<=dep m k+1/\pre=upto (itB m k) j) w:=fun l J Jx W hW hJ _ hY h0=>by
 have hlt:=hB.lt;obtain⟨hl,a,cap,rfl,hcs⟩:=hw.below (hW.mono (by omega))
 rcases hcs with h | ⟨b,o,rfl,hb,hcs⟩
 ·rw [h] at hk;simp at hk
 ·exact ZbR n hn p m _ vh vr k Bw Bm b o cap W l hwb hk rfl (fun j hj=>(hcs j hj).2.2.2.2) p1 p2 (p3 b hb) (by omega) hBm J Jx hJ
   (fun pre x W1 h1 h2 h3=>hY pre x W1 h1 h2 h3) ((hW.block Bw hB.lt).trans hB) (HM.below hW HM.lt) h0
end
section
attribute [local irreducible] wpQuiet
open Go.RowKit
def fewTo (l:List (List Pt)):Nat->Nat
 | 0=>0
 | k+1=>fewTo l k+(rk l k).length
def fewB (m:Msn):Bool:=decide (m.ways.length<=8) && decide (m.rocks.length<=12) && decide (fewTo m.rocks (min m.rocks.length 13)<=120) && decide (m.home.length<=80)
theorem Zd6 (m : Msn) (vw vh vr : Value) (w : World) (hm : MsnAt w.heap.size w m vw vh vr) :
  Calls Tryz.prog 6 #[qA (Zc m vw vh vr)] w fun e w'=>e=qR (qB (fewB m))/\Below w.heap.size w w':=by
 obtain⟨_,A,n,rfl,_⟩:=hm.1;obtain⟨_,F,p,rfl,_⟩:=hm.2.1;obtain⟨M,x,l,rfl,r⟩:=hm.2.2;have B:=Has.new w (Zc m (qS A m.ways.length (m.ways.length+n)) (qS F m.home.length (m.home.length+p)) (qS x m.rocks.length (m.rocks.length+l))) 26;have y:=qH B;have q:=qH r;clear hm B r;unfold Zc;go_enter Tryz.func6,Tryz.ntmps6;go_wp2
 go_loopw [3,4] (fun s i wr=>∃ k:Nat,k<=m.rocks.length/\k<=13/\i=O qL k/\s=O qL (fewTo m.rocks k:Nat)/\fewTo m.rocks k<=k*70368744177663/\Has wr w.heap.size (Zc m (qS A m.ways.length (m.ways.length+n)) (qS F m.home.length (m.home.length+p)) (qS x m.rocks.length (m.rocks.length+l))) 26/\Below w.heap.size w wr) (fun _ i _=>13-(intOf i).toNat)
 case atStart=>exact⟨0,by omega,by omega,rfl,rfl,by simp [fewTo],y.out,(qK _ _).alloc (qN _) _⟩
 case round =>
  obtain⟨k,U,E,rfl,rfl,K,H,f⟩:=hrel;obtain⟨V,c1,c2,c3,Y,c5,W,X,c8,Z,S⟩:=Zh H;have R:=qH H;clear H;by_cases hlt:k<m.rocks.length
  ·have L:decide ((k:Int)<m.rocks.length)=true:=by simp;omega
   by_cases h13:k<13
   ·have G:decide ((k:Int)<13)=true:=by simp;omega
    obtain⟨b,o,rfl,N,v⟩:∃ b o,x=some ⟨b,o,none⟩/\b<w.heap.size/\∀ j,j<m.rocks.length->∃ u,w.cell? ⟨b,o+j,none⟩=some u/\Z7 w.heap.size w u (rk m.rocks j):=by
     rcases q.out with J | h
     ·rw [J] at hlt;simp at hlt
     ·exact h
    obtain⟨u,C,⟨T,a,Q,rfl,_⟩⟩:=v k hlt;have cu:=cY f C N;have t:fewTo m.rocks (k+1)=fewTo m.rocks k+(rk m.rocks k).length:=rfl;have g:=qH t;clear v C t;go_wp2;go_roundw
    case rel=>exact⟨k+1,by omega,by omega,by go_num,by rw [g.out];go_num,by rw [g.out];omega,R.out,f⟩
    case measure=>simp [intOf];omega
   ·obtain rfl:k=13:=by omega
    have G:decide ((13:Int)<13)=false:=by simp
    have d:Hid (fewB m=false):=by show fewB m=false;simp [fewB];omega
    by_cases g1:m.ways.length<=8
    ·have z:decide ((m.ways.length:Int)<=8)=true:=by simp;omega
     have D:decide ((m.rocks.length:Int)<=12)=false:=by simp;omega
     go_wp2;go_ret;exact⟨Zu d.out.symm,f⟩
    ·have z:decide ((m.ways.length:Int)<=8)=false:=by simp;omega
     go_wp2;go_ret;exact⟨Zu d.out.symm,f⟩
  ·obtain rfl:k=m.rocks.length:=by omega
   have L:decide ((m.rocks.length:Int)<m.rocks.length)=false:=by simp
   have c:min m.rocks.length 13=m.rocks.length:=by omega
   by_cases g1:m.ways.length<=8
   ·have z:decide ((m.ways.length:Int)<=8)=true:=by simp;omega
    by_cases g2:m.rocks.length<=12
    ·have D:decide ((m.rocks.length:Int)<=12)=true:=by simp;omega
     by_cases g3:fewTo m.rocks m.rocks.length<=120
     ·have I:decide (((fewTo m.rocks m.rocks.length:Nat):Int)<=120)=true:=by simp;omega
      have d:Hid (fewB m=decide (m.home.length<=80)):=by show fewB m=_;simp [fewB,c,g1,g2,g3]
      by_cases g4:m.home.length<=80
      ·have P:decide ((m.home.length:Int)<=80)=true:=by simp;omega
       clear c;go_wp2;go_ret;exact⟨Zu (by rw [d.out];simp [g4]),f⟩
      ·have P:decide ((m.home.length:Int)<=80)=false:=by simp;omega
       clear c;go_wp2;go_ret;exact⟨Zu (by rw [d.out];simp [g4]),f⟩
     ·have I:decide (((fewTo m.rocks m.rocks.length:Nat):Int)<=120)=false:=by simp;omega
      have d:Hid (fewB m=false):=by show fewB m=false;simp [fewB,c,g3]
      clear c;go_wp2;go_ret;exact⟨Zu d.out.symm,f⟩
    ·have D:decide ((m.rocks.length:Int)<=12)=false:=by simp;omega
     have d:Hid (fewB m=false):=by show fewB m=false;simp [fewB,g2]
     clear c;go_wp2;go_ret;exact⟨Zu d.out.symm,f⟩
   ·have z:decide ((m.ways.length:Int)<=8)=false:=by simp;omega
    have d:Hid (fewB m=false):=by show fewB m=false;simp [fewB,g1]
    clear c;go_wp2;go_ret;exact⟨Zu d.out.symm,f⟩
end
end Go.Proofs.YthipcinibldgnaaGreat
