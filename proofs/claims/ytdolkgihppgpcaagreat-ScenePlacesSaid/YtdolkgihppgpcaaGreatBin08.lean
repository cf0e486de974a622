/- mission.between | mission.Valid's closures that read numbers alone, the one on home. | mission.Valid's closures on the lists: sizes, ways, rocks. | .. -/
import Derived.BigFrameIn
import Derived.Test.YtdolkgihppgpcaaGreatBin04
import Derived.LoopTactic
set_option maxHeartbeats 800000
namespace Go.Proofs.YtdolkgihppgpcaaGreat
section
attribute [local irreducible] wpQuiet
open Go.RowKit
def legVal (m:Msn) (ax ay bx by':Int):Value:=.agg #[.int .i64 (distV ax ay bx by'),.int .i64 (lastsV m.speed (distV ax ay bx by')),.int .i64 (growthV m.speed m.part m.flow (distV ax ay bx by'))]
theorem Z24 (m:Msn) (vw vh vr:Value) (ax ay:Int) (w:World) :
  Calls Tryz.prog 51 #[.agg (Zc m vw vh vr),.agg #[.int .i64 ax,.int .i64 ay],.agg #[.int .i64 ax,.int .i64 ay]] w fun e w'=>e=.returned (legVal m ax ay ax ay)∧Below w.heap.size w w':=by
 unfold legVal;rw [Z8c,Z3b,Z5l];unfold Zc;go_enter Tryz.func51,Tryz.ntmps51;go_wp2;refine bodyPost_ret (v:=.agg #[.int .i64 0,.int .i64 0,.int .i64 0]) (by simp [results,Tryz.f51,go_sem]) rfl ⟨rfl,zB2⟩
theorem Z6U (m:Msn) (vw vh vr:Value) (ax ay bx by':Int) (w:World) (hm:legOk m) (ha:nearP ax ay) (hb:nearP bx by') (d0:(ax == bx)=false) (hlt:(isqrt ((ax-bx)*(ax-bx)+(ay-by')*(ay-by')).toNat:Int)*isqrt ((ax-bx)*(ax-bx)+(ay-by')*(ay-by')).toNat<((ax-bx)*(ax-bx)+(ay-by')*(ay-by'))) :
  Calls Tryz.prog 51 #[.agg (Zc m vw vh vr),.agg #[.int .i64 ax,.int .i64 ay],.agg #[.int .i64 bx,.int .i64 by']] w fun e w'=>e=.returned (legVal m ax ay bx by')∧Below w.heap.size w w':=by
 obtain⟨m1,m2,m3,m4,m5,m6⟩:=hm;obtain⟨a1,a2,a3,a4⟩:=ha;obtain⟨b1,b2,b3,b4⟩:=hb;have h1:=sq_bd (a:=ax-bx) (m:=600000) (by omega) (by omega)
 have h2:=sq_bd (a:=ay-by') (m:=600000) (by omega) (by omega)
 have p':IntKind.i64.wrap ((ax-bx)*(ax-bx))=(ax-bx)*(ax-bx):=zW2;have q':IntKind.i64.wrap ((ay-by')*(ay-by'))=(ay-by')*(ay-by'):=zW2
 have r':IntKind.i64.wrap ((ax-bx)*(ax-bx)+(ay-by')*(ay-by'))=(ax-bx)*(ax-bx)+(ay-by')*(ay-by'):=zW2
 have db:=Z2H a1 a2 a3 a4 b1 b2 b3 b4;obtain⟨s,hs⟩:∃ s,(ax-bx)*(ax-bx)+(ay-by')*(ay-by')=s:=⟨_,rfl⟩
 rw [hs] at hlt;obtain⟨n,hn⟩:∃ n,distV ax ay bx by'=n:=⟨_,rfl⟩
 have hv:rootV s=isqrt s.toNat:=by simp [rootV,badN];intro h;omega
 have hi:=Z2e (m:=s.toNat) (n:=1000000) (by omega)
 have hq:=(Z03 s.toNat).1;have hmm:IntKind.i64.wrap ((isqrt s.toNat:Int)*isqrt s.toNat)=(isqrt s.toNat:Int)*isqrt s.toNat:=IntWalk.i64_in _ (by
  have:(isqrt s.toNat:Int)*isqrt s.toNat=((isqrt s.toNat*isqrt s.toNat:Nat):Int):=by simp
  omega)
 have hroot:rootUp s=n:=by rw [← hs,← hn];rfl
 unfold legVal;rw [hn];rw [hn] at db;rw [hs] at r' db;obtain⟨_,_,n1,n2⟩:=db;obtain⟨g1,g2,g3,g4,g5,g6⟩:=Z0N (speed:=m.speed) (part:=m.part) (flow:=m.flow) n1 n2 m1 m3 m4 m5 m6;have l:=Z11 n1 n2 m1;have x1:IntKind.i64.wrap (n*m.part)=n*m.part:=zW2;have x2:IntKind.i64.wrap (lastsV m.speed n*m.flow)=lastsV m.speed n*m.flow:=zW2;have x3:IntKind.i64.wrap (100*n)=100*n:=zW2;have c1:=Z0j (a:=n*m.part) (b:=1000) g1 (by omega)
 have c2:=Z0j (a:=lastsV m.speed n*m.flow) (b:=100) g3 (by omega)
 have x4:IntKind.i64.wrap (cdiv (n*m.part) 1000+cdiv (lastsV m.speed n*m.flow) 100)=cdiv (n*m.part) 1000+cdiv (lastsV m.speed n*m.flow) 100:=zW2;have hl:∀ w1,Calls Tryz.prog 102 #[.int .i64 (100*n),.int .i64 m.speed] w1 fun e w'=>e=.returned (.int .i64 (lastsV m.speed n))∧Below w1.heap.size w1 w':=fun w1=>ZX _ _ w1 (by omega) (by omega) (by omega) (by omega)
 have hu1:∀ w1,Calls Tryz.prog 102 #[.int .i64 (n*m.part),.int .i64 1000] w1 fun e w'=>e=.returned (.int .i64 (cdiv (n*m.part) 1000))∧Below w1.heap.size w1 w':=fun w1=>ZX _ _ w1 (by omega) (by omega) (by omega) (by omega)
 have hu2:∀ w1,Calls Tryz.prog 102 #[.int .i64 (lastsV m.speed n*m.flow),.int .i64 100] w1 fun e w'=>e=.returned (.int .i64 (cdiv (lastsV m.speed n*m.flow) 100))∧Below w1.heap.size w1 w':=fun w1=>ZX _ _ w1 (by omega) (by omega) (by omega) (by omega)
 unfold rootUp at hroot;clear h1 h2 hq hi c1 c2;unfold growthV;obtain⟨k0,hk0⟩:∃ k0:Int,(isqrt s.toNat:Int)=k0:=⟨_,rfl⟩;rw [hk0] at hv hmm hroot hlt;clear hk0 g5 g6 hn;unfold Zc;rw [if_pos hlt] at hroot;go_enter Tryz.func51,Tryz.ntmps51;go_wp2_with (first | (go_at_call 101;refine (Z28 _ _).mono ?_;rintro e w5 ⟨rfl,hb5⟩;obtain⟨hc5,hf5⟩:=bcell hb5;have hz5:=hb5.size;try simp at hz5) | (go_at_call 102;refine (hl _).mono ?_;rintro e w6 ⟨rfl,hb6⟩;obtain⟨hc6,hf6⟩:=bcell hb6;have hz6:=hb6.size;try simp at hz6))
 have e5:w6.cell? ⟨w.heap.size,5,none⟩=some (.int .i64 m.part):=by rw [hc6 _ _ (by omega),hc5 _ _ (by simp;omega)];simp [go_sem]
 have e6:w6.cell? ⟨w.heap.size,6,none⟩=some (.int .i64 m.flow):=by rw [hc6 _ _ (by omega),hc5 _ _ (by simp;omega)];simp [go_sem]
 have l5:=Low.fact e5;have l6:=Low.fact e6;have z6:w.heap.size+1+1+1+1≤w6.heap.size:=by omega
 have E6:=hb5.trans (hb6.mono (by simp;omega))
 clear e5 e6 hc5 hc6 hf5 hf6
 (refine (wpIn_wide (n:=9)).1 ?_;refine Zl (Zj _) 14 (by kernel_rfl) (by kernel_rfl) (by kernel_rfl) ?_;simp only [List.take_succ_cons,List.take_zero,List.drop_succ_cons,List.drop_zero];(iterate 14 (apply Zf;(case hw=>rfl);(case hval=>(intro w1 hw1;have hcx:=Low.cells hw1;simp only [Oper.quietAt];go_simp;first | done | (first | (go_at_call 102;with_reducible exact Low.calls hw1 (hu1 _)) | (go_at_call 102;with_reducible exact Low.calls hw1 (hu2 _))) | rfl | exact⟨rfl,rfl⟩));simp only [Act.put,zq4,zr4,zs4]));refine wpQuiet_nil ?_;intro w2 hw2)
 have B:=E6.trans (hw2.mono (by simp;omega))
 obtain⟨hc7,hf7⟩:=bcell B;gi_wp2;go_wp2;refine bodyPost_ret (v:=.agg #[.int .i64 n,.int .i64 (lastsV m.speed n),.int .i64 (cdiv (n*m.part) 1000+cdiv (lastsV m.speed n*m.flow) 100)]) ?_ rfl ⟨rfl,?_⟩
 ·simp [results,Tryz.f51,go_sem,hc7]
 ·refine Below.setCell (Below.setCell (Below.setCell ?_ (by simp;omega) _) (by simp;omega) _) (by simp;omega) _
  refine Below.trans ?_ (B.mono (by simp;omega))
  repeat (first | exact Below.refl _ _ | assumption | apply Below.drew | refine Below.setCell ?_ (by first | omega | (simp;done) | (simp;omega)) _ | refine Below.alloc ?_ (by first | omega | (simp;done) | (simp;omega)) _ | refine Below.call (by assumption) ?_ (by first | omega | (simp;done) | (simp;omega)))
theorem Z6T (m:Msn) (vw vh vr:Value) (ax ay bx by':Int) (w:World) (hm:legOk m) (ha:nearP ax ay) (hb:nearP bx by') (d0:(ax == bx)=false) (hlt:¬ (isqrt ((ax-bx)*(ax-bx)+(ay-by')*(ay-by')).toNat:Int)*isqrt ((ax-bx)*(ax-bx)+(ay-by')*(ay-by')).toNat<((ax-bx)*(ax-bx)+(ay-by')*(ay-by'))) :
  Calls Tryz.prog 51 #[.agg (Zc m vw vh vr),.agg #[.int .i64 ax,.int .i64 ay],.agg #[.int .i64 bx,.int .i64 by']] w fun e w'=>e=.returned (legVal m ax ay bx by')∧Below w.heap.size w w':=by
 obtain⟨m1,m2,m3,m4,m5,m6⟩:=hm;obtain⟨a1,a2,a3,a4⟩:=ha;obtain⟨b1,b2,b3,b4⟩:=hb;have h1:=sq_bd (a:=ax-bx) (m:=600000) (by omega) (by omega)
 have h2:=sq_bd (a:=ay-by') (m:=600000) (by omega) (by omega)
 have p':IntKind.i64.wrap ((ax-bx)*(ax-bx))=(ax-bx)*(ax-bx):=zW2;have q':IntKind.i64.wrap ((ay-by')*(ay-by'))=(ay-by')*(ay-by'):=zW2
 have r':IntKind.i64.wrap ((ax-bx)*(ax-bx)+(ay-by')*(ay-by'))=(ax-bx)*(ax-bx)+(ay-by')*(ay-by'):=zW2
 have db:=Z2H a1 a2 a3 a4 b1 b2 b3 b4;obtain⟨s,hs⟩:∃ s,(ax-bx)*(ax-bx)+(ay-by')*(ay-by')=s:=⟨_,rfl⟩
 rw [hs] at hlt;obtain⟨n,hn⟩:∃ n,distV ax ay bx by'=n:=⟨_,rfl⟩
 have hv:rootV s=isqrt s.toNat:=by simp [rootV,badN];intro h;omega
 have hi:=Z2e (m:=s.toNat) (n:=1000000) (by omega)
 have hq:=(Z03 s.toNat).1;have hmm:IntKind.i64.wrap ((isqrt s.toNat:Int)*isqrt s.toNat)=(isqrt s.toNat:Int)*isqrt s.toNat:=IntWalk.i64_in _ (by
  have:(isqrt s.toNat:Int)*isqrt s.toNat=((isqrt s.toNat*isqrt s.toNat:Nat):Int):=by simp
  omega)
 have hroot:rootUp s=n:=by rw [← hs,← hn];rfl
 unfold legVal;rw [hn];rw [hn] at db;rw [hs] at r' db;obtain⟨_,_,n1,n2⟩:=db;obtain⟨g1,g2,g3,g4,g5,g6⟩:=Z0N (speed:=m.speed) (part:=m.part) (flow:=m.flow) n1 n2 m1 m3 m4 m5 m6;have l:=Z11 n1 n2 m1;have x1:IntKind.i64.wrap (n*m.part)=n*m.part:=zW2;have x2:IntKind.i64.wrap (lastsV m.speed n*m.flow)=lastsV m.speed n*m.flow:=zW2;have x3:IntKind.i64.wrap (100*n)=100*n:=zW2;have c1:=Z0j (a:=n*m.part) (b:=1000) g1 (by omega)
 have c2:=Z0j (a:=lastsV m.speed n*m.flow) (b:=100) g3 (by omega)
 have x4:IntKind.i64.wrap (cdiv (n*m.part) 1000+cdiv (lastsV m.speed n*m.flow) 100)=cdiv (n*m.part) 1000+cdiv (lastsV m.speed n*m.flow) 100:=zW2;have hl:∀ w1,Calls Tryz.prog 102 #[.int .i64 (100*n),.int .i64 m.speed] w1 fun e w'=>e=.returned (.int .i64 (lastsV m.speed n))∧Below w1.heap.size w1 w':=fun w1=>ZX _ _ w1 (by omega) (by omega) (by omega) (by omega)
 have hu1:∀ w1,Calls Tryz.prog 102 #[.int .i64 (n*m.part),.int .i64 1000] w1 fun e w'=>e=.returned (.int .i64 (cdiv (n*m.part) 1000))∧Below w1.heap.size w1 w':=fun w1=>ZX _ _ w1 (by omega) (by omega) (by omega) (by omega)
 have hu2:∀ w1,Calls Tryz.prog 102 #[.int .i64 (lastsV m.speed n*m.flow),.int .i64 100] w1 fun e w'=>e=.returned (.int .i64 (cdiv (lastsV m.speed n*m.flow) 100))∧Below w1.heap.size w1 w':=fun w1=>ZX _ _ w1 (by omega) (by omega) (by omega) (by omega)
 unfold rootUp at hroot;clear h1 h2 hq hi c1 c2;unfold growthV;obtain⟨k0,hk0⟩:∃ k0:Int,(isqrt s.toNat:Int)=k0:=⟨_,rfl⟩;rw [hk0] at hv hmm hroot hlt;clear hk0 g5 g6 hn;unfold Zc;rw [if_neg hlt] at hroot;subst hroot;have d1:decide (k0*k0<s)=false:=by simpa using hlt
 clear hlt;go_enter Tryz.func51,Tryz.ntmps51;go_wp2_with (first | (go_at_call 101;refine (Z28 _ _).mono ?_;rintro e w5 ⟨rfl,hb5⟩;obtain⟨hc5,hf5⟩:=bcell hb5;have hz5:=hb5.size;try simp at hz5) | (go_at_call 102;refine (hl _).mono ?_;rintro e w6 ⟨rfl,hb6⟩;obtain⟨hc6,hf6⟩:=bcell hb6;have hz6:=hb6.size;try simp at hz6))
 have e5:w6.cell? ⟨w.heap.size,5,none⟩=some (.int .i64 m.part):=by rw [hc6 _ _ (by omega),hc5 _ _ (by simp;omega)];simp [go_sem]
 have e6:w6.cell? ⟨w.heap.size,6,none⟩=some (.int .i64 m.flow):=by rw [hc6 _ _ (by omega),hc5 _ _ (by simp;omega)];simp [go_sem]
 have l5:=Low.fact e5;have l6:=Low.fact e6;have z6:w.heap.size+1+1+1+1≤w6.heap.size:=by omega
 have E6:=hb5.trans (hb6.mono (by simp;omega))
 clear e5 e6 hc5 hc6 hf5 hf6
 (refine (wpIn_wide (n:=9)).1 ?_;refine Zl (Zj _) 14 (by kernel_rfl) (by kernel_rfl) (by kernel_rfl) ?_;simp only [List.take_succ_cons,List.take_zero,List.drop_succ_cons,List.drop_zero];(iterate 14 (apply Zf;(case hw=>rfl);(case hval=>(intro w1 hw1;have hcx:=Low.cells hw1;simp only [Oper.quietAt];go_simp;first | done | (first | (go_at_call 102;with_reducible exact Low.calls hw1 (hu1 _)) | (go_at_call 102;with_reducible exact Low.calls hw1 (hu2 _))) | rfl | exact⟨rfl,rfl⟩));simp only [Act.put,zq4,zr4,zs4]));refine wpQuiet_nil ?_;intro w2 hw2)
 have B:=E6.trans (hw2.mono (by simp;omega))
 obtain⟨hc7,hf7⟩:=bcell B;gi_wp2;go_wp2;refine bodyPost_ret (v:=.agg #[.int .i64 k0,.int .i64 (lastsV m.speed k0),.int .i64 (cdiv (k0*m.part) 1000+cdiv (lastsV m.speed k0*m.flow) 100)]) ?_ rfl ⟨rfl,?_⟩
 ·simp [results,Tryz.f51,go_sem,hc7]
 ·refine Below.setCell (Below.setCell (Below.setCell ?_ (by simp;omega) _) (by simp;omega) _) (by simp;omega) _
  refine Below.trans ?_ (B.mono (by simp;omega))
  repeat (first | exact Below.refl _ _ | assumption | apply Below.drew | refine Below.setCell ?_ (by first | omega | (simp;done) | (simp;omega)) _ | refine Below.alloc ?_ (by first | omega | (simp;done) | (simp;omega)) _ | refine Below.call (by assumption) ?_ (by first | omega | (simp;done) | (simp;omega)))
theorem Z6S (m:Msn) (vw vh vr:Value) (ax ay bx by':Int) (w:World) (hm:legOk m) (ha:nearP ax ay) (hb:nearP bx by') (d0:(ax == bx)=true) (d0':(ay == by')=false) (hlt:(isqrt ((ax-bx)*(ax-bx)+(ay-by')*(ay-by')).toNat:Int)*isqrt ((ax-bx)*(ax-bx)+(ay-by')*(ay-by')).toNat<((ax-bx)*(ax-bx)+(ay-by')*(ay-by'))) :
  Calls Tryz.prog 51 #[.agg (Zc m vw vh vr),.agg #[.int .i64 ax,.int .i64 ay],.agg #[.int .i64 bx,.int .i64 by']] w fun e w'=>e=.returned (legVal m ax ay bx by')∧Below w.heap.size w w':=by
 obtain⟨m1,m2,m3,m4,m5,m6⟩:=hm;obtain⟨a1,a2,a3,a4⟩:=ha;obtain⟨b1,b2,b3,b4⟩:=hb;have h1:=sq_bd (a:=ax-bx) (m:=600000) (by omega) (by omega)
 have h2:=sq_bd (a:=ay-by') (m:=600000) (by omega) (by omega)
 have p':IntKind.i64.wrap ((ax-bx)*(ax-bx))=(ax-bx)*(ax-bx):=zW2;have q':IntKind.i64.wrap ((ay-by')*(ay-by'))=(ay-by')*(ay-by'):=zW2
 have r':IntKind.i64.wrap ((ax-bx)*(ax-bx)+(ay-by')*(ay-by'))=(ax-bx)*(ax-bx)+(ay-by')*(ay-by'):=zW2
 have db:=Z2H a1 a2 a3 a4 b1 b2 b3 b4;obtain⟨s,hs⟩:∃ s,(ax-bx)*(ax-bx)+(ay-by')*(ay-by')=s:=⟨_,rfl⟩
 rw [hs] at hlt;obtain⟨n,hn⟩:∃ n,distV ax ay bx by'=n:=⟨_,rfl⟩
 have hv:rootV s=isqrt s.toNat:=by simp [rootV,badN];intro h;omega
 have hi:=Z2e (m:=s.toNat) (n:=1000000) (by omega)
 have hq:=(Z03 s.toNat).1;have hmm:IntKind.i64.wrap ((isqrt s.toNat:Int)*isqrt s.toNat)=(isqrt s.toNat:Int)*isqrt s.toNat:=IntWalk.i64_in _ (by
  have:(isqrt s.toNat:Int)*isqrt s.toNat=((isqrt s.toNat*isqrt s.toNat:Nat):Int):=by simp
  omega)
 have hroot:rootUp s=n:=by rw [← hs,← hn];rfl
 unfold legVal;rw [hn];rw [hn] at db;rw [hs] at r' db;obtain⟨_,_,n1,n2⟩:=db;obtain⟨g1,g2,g3,g4,g5,g6⟩:=Z0N (speed:=m.speed) (part:=m.part) (flow:=m.flow) n1 n2 m1 m3 m4 m5 m6;have l:=Z11 n1 n2 m1;have x1:IntKind.i64.wrap (n*m.part)=n*m.part:=zW2;have x2:IntKind.i64.wrap (lastsV m.speed n*m.flow)=lastsV m.speed n*m.flow:=zW2;have x3:IntKind.i64.wrap (100*n)=100*n:=zW2;have c1:=Z0j (a:=n*m.part) (b:=1000) g1 (by omega)
 have c2:=Z0j (a:=lastsV m.speed n*m.flow) (b:=100) g3 (by omega)
 have x4:IntKind.i64.wrap (cdiv (n*m.part) 1000+cdiv (lastsV m.speed n*m.flow) 100)=cdiv (n*m.part) 1000+cdiv (lastsV m.speed n*m.flow) 100:=zW2;have hl:∀ w1,Calls Tryz.prog 102 #[.int .i64 (100*n),.int .i64 m.speed] w1 fun e w'=>e=.returned (.int .i64 (lastsV m.speed n))∧Below w1.heap.size w1 w':=fun w1=>ZX _ _ w1 (by omega) (by omega) (by omega) (by omega)
 have hu1:∀ w1,Calls Tryz.prog 102 #[.int .i64 (n*m.part),.int .i64 1000] w1 fun e w'=>e=.returned (.int .i64 (cdiv (n*m.part) 1000))∧Below w1.heap.size w1 w':=fun w1=>ZX _ _ w1 (by omega) (by omega) (by omega) (by omega)
 have hu2:∀ w1,Calls Tryz.prog 102 #[.int .i64 (lastsV m.speed n*m.flow),.int .i64 100] w1 fun e w'=>e=.returned (.int .i64 (cdiv (lastsV m.speed n*m.flow) 100))∧Below w1.heap.size w1 w':=fun w1=>ZX _ _ w1 (by omega) (by omega) (by omega) (by omega)
 unfold rootUp at hroot;clear h1 h2 hq hi c1 c2;unfold growthV;obtain⟨k0,hk0⟩:∃ k0:Int,(isqrt s.toNat:Int)=k0:=⟨_,rfl⟩;rw [hk0] at hv hmm hroot hlt;clear hk0 g5 g6 hn;unfold Zc;rw [if_pos hlt] at hroot;go_enter Tryz.func51,Tryz.ntmps51;go_wp2_with (first | (go_at_call 101;refine (Z28 _ _).mono ?_;rintro e w5 ⟨rfl,hb5⟩;obtain⟨hc5,hf5⟩:=bcell hb5;have hz5:=hb5.size;try simp at hz5) | (go_at_call 102;refine (hl _).mono ?_;rintro e w6 ⟨rfl,hb6⟩;obtain⟨hc6,hf6⟩:=bcell hb6;have hz6:=hb6.size;try simp at hz6))
 have e5:w6.cell? ⟨w.heap.size,5,none⟩=some (.int .i64 m.part):=by rw [hc6 _ _ (by omega),hc5 _ _ (by simp;omega)];simp [go_sem]
 have e6:w6.cell? ⟨w.heap.size,6,none⟩=some (.int .i64 m.flow):=by rw [hc6 _ _ (by omega),hc5 _ _ (by simp;omega)];simp [go_sem]
 have l5:=Low.fact e5;have l6:=Low.fact e6;have z6:w.heap.size+1+1+1+1≤w6.heap.size:=by omega
 have E6:=hb5.trans (hb6.mono (by simp;omega))
 clear e5 e6 hc5 hc6 hf5 hf6
 (refine (wpIn_wide (n:=9)).1 ?_;refine Zl (Zj _) 14 (by kernel_rfl) (by kernel_rfl) (by kernel_rfl) ?_;simp only [List.take_succ_cons,List.take_zero,List.drop_succ_cons,List.drop_zero];(iterate 14 (apply Zf;(case hw=>rfl);(case hval=>(intro w1 hw1;have hcx:=Low.cells hw1;simp only [Oper.quietAt];go_simp;first | done | (first | (go_at_call 102;with_reducible exact Low.calls hw1 (hu1 _)) | (go_at_call 102;with_reducible exact Low.calls hw1 (hu2 _))) | rfl | exact⟨rfl,rfl⟩));simp only [Act.put,zq4,zr4,zs4]));refine wpQuiet_nil ?_;intro w2 hw2)
 have B:=E6.trans (hw2.mono (by simp;omega))
 obtain⟨hc7,hf7⟩:=bcell B;gi_wp2;go_wp2;refine bodyPost_ret (v:=.agg #[.int .i64 n,.int .i64 (lastsV m.speed n),.int .i64 (cdiv (n*m.part) 1000+cdiv (lastsV m.speed n*m.flow) 100)]) ?_ rfl ⟨rfl,?_⟩
 ·simp [results,Tryz.f51,go_sem,hc7]
 ·refine Below.setCell (Below.setCell (Below.setCell ?_ (by simp;omega) _) (by simp;omega) _) (by simp;omega) _
  refine Below.trans ?_ (B.mono (by simp;omega))
  repeat (first | exact Below.refl _ _ | assumption | apply Below.drew | refine Below.setCell ?_ (by first | omega | (simp;done) | (simp;omega)) _ | refine Below.alloc ?_ (by first | omega | (simp;done) | (simp;omega)) _ | refine Below.call (by assumption) ?_ (by first | omega | (simp;done) | (simp;omega)))
theorem Z6R (m:Msn) (vw vh vr:Value) (ax ay bx by':Int) (w:World) (hm:legOk m) (ha:nearP ax ay) (hb:nearP bx by') (d0:(ax == bx)=true) (d0':(ay == by')=false) (hlt:¬ (isqrt ((ax-bx)*(ax-bx)+(ay-by')*(ay-by')).toNat:Int)*isqrt ((ax-bx)*(ax-bx)+(ay-by')*(ay-by')).toNat<((ax-bx)*(ax-bx)+(ay-by')*(ay-by'))) :
  Calls Tryz.prog 51 #[.agg (Zc m vw vh vr),.agg #[.int .i64 ax,.int .i64 ay],.agg #[.int .i64 bx,.int .i64 by']] w fun e w'=>e=.returned (legVal m ax ay bx by')∧Below w.heap.size w w':=by
 obtain⟨m1,m2,m3,m4,m5,m6⟩:=hm;obtain⟨a1,a2,a3,a4⟩:=ha;obtain⟨b1,b2,b3,b4⟩:=hb;have h1:=sq_bd (a:=ax-bx) (m:=600000) (by omega) (by omega)
 have h2:=sq_bd (a:=ay-by') (m:=600000) (by omega) (by omega)
 have p':IntKind.i64.wrap ((ax-bx)*(ax-bx))=(ax-bx)*(ax-bx):=zW2;have q':IntKind.i64.wrap ((ay-by')*(ay-by'))=(ay-by')*(ay-by'):=zW2
 have r':IntKind.i64.wrap ((ax-bx)*(ax-bx)+(ay-by')*(ay-by'))=(ax-bx)*(ax-bx)+(ay-by')*(ay-by'):=zW2
 have db:=Z2H a1 a2 a3 a4 b1 b2 b3 b4;obtain⟨s,hs⟩:∃ s,(ax-bx)*(ax-bx)+(ay-by')*(ay-by')=s:=⟨_,rfl⟩
 rw [hs] at hlt;obtain⟨n,hn⟩:∃ n,distV ax ay bx by'=n:=⟨_,rfl⟩
 have hv:rootV s=isqrt s.toNat:=by simp [rootV,badN];intro h;omega
 have hi:=Z2e (m:=s.toNat) (n:=1000000) (by omega)
 have hq:=(Z03 s.toNat).1;have hmm:IntKind.i64.wrap ((isqrt s.toNat:Int)*isqrt s.toNat)=(isqrt s.toNat:Int)*isqrt s.toNat:=IntWalk.i64_in _ (by
  have:(isqrt s.toNat:Int)*isqrt s.toNat=((isqrt s.toNat*isqrt s.toNat:Nat):Int):=by simp
  omega)
 have hroot:rootUp s=n:=by rw [← hs,← hn];rfl
 unfold legVal;rw [hn];rw [hn] at db;rw [hs] at r' db;obtain⟨_,_,n1,n2⟩:=db;obtain⟨g1,g2,g3,g4,g5,g6⟩:=Z0N (speed:=m.speed) (part:=m.part) (flow:=m.flow) n1 n2 m1 m3 m4 m5 m6;have l:=Z11 n1 n2 m1;have x1:IntKind.i64.wrap (n*m.part)=n*m.part:=zW2;have x2:IntKind.i64.wrap (lastsV m.speed n*m.flow)=lastsV m.speed n*m.flow:=zW2;have x3:IntKind.i64.wrap (100*n)=100*n:=zW2;have c1:=Z0j (a:=n*m.part) (b:=1000) g1 (by omega)
 have c2:=Z0j (a:=lastsV m.speed n*m.flow) (b:=100) g3 (by omega)
 have x4:IntKind.i64.wrap (cdiv (n*m.part) 1000+cdiv (lastsV m.speed n*m.flow) 100)=cdiv (n*m.part) 1000+cdiv (lastsV m.speed n*m.flow) 100:=zW2;have hl:∀ w1,Calls Tryz.prog 102 #[.int .i64 (100*n),.int .i64 m.speed] w1 fun e w'=>e=.returned (.int .i64 (lastsV m.speed n))∧Below w1.heap.size w1 w':=fun w1=>ZX _ _ w1 (by omega) (by omega) (by omega) (by omega)
 have hu1:∀ w1,Calls Tryz.prog 102 #[.int .i64 (n*m.part),.int .i64 1000] w1 fun e w'=>e=.returned (.int .i64 (cdiv (n*m.part) 1000))∧Below w1.heap.size w1 w':=fun w1=>ZX _ _ w1 (by omega) (by omega) (by omega) (by omega)
 have hu2:∀ w1,Calls Tryz.prog 102 #[.int .i64 (lastsV m.speed n*m.flow),.int .i64 100] w1 fun e w'=>e=.returned (.int .i64 (cdiv (lastsV m.speed n*m.flow) 100))∧Below w1.heap.size w1 w':=fun w1=>ZX _ _ w1 (by omega) (by omega) (by omega) (by omega)
 unfold rootUp at hroot;clear h1 h2 hq hi c1 c2;unfold growthV;obtain⟨k0,hk0⟩:∃ k0:Int,(isqrt s.toNat:Int)=k0:=⟨_,rfl⟩;rw [hk0] at hv hmm hroot hlt;clear hk0 g5 g6 hn;unfold Zc;rw [if_neg hlt] at hroot;subst hroot;have d1:decide (k0*k0<s)=false:=by simpa using hlt
 clear hlt;go_enter Tryz.func51,Tryz.ntmps51;go_wp2_with (first | (go_at_call 101;refine (Z28 _ _).mono ?_;rintro e w5 ⟨rfl,hb5⟩;obtain⟨hc5,hf5⟩:=bcell hb5;have hz5:=hb5.size;try simp at hz5) | (go_at_call 102;refine (hl _).mono ?_;rintro e w6 ⟨rfl,hb6⟩;obtain⟨hc6,hf6⟩:=bcell hb6;have hz6:=hb6.size;try simp at hz6))
 have e5:w6.cell? ⟨w.heap.size,5,none⟩=some (.int .i64 m.part):=by rw [hc6 _ _ (by omega),hc5 _ _ (by simp;omega)];simp [go_sem]
 have e6:w6.cell? ⟨w.heap.size,6,none⟩=some (.int .i64 m.flow):=by rw [hc6 _ _ (by omega),hc5 _ _ (by simp;omega)];simp [go_sem]
 have l5:=Low.fact e5;have l6:=Low.fact e6;have z6:w.heap.size+1+1+1+1≤w6.heap.size:=by omega
 have E6:=hb5.trans (hb6.mono (by simp;omega))
 clear e5 e6 hc5 hc6 hf5 hf6
 (refine (wpIn_wide (n:=9)).1 ?_;refine Zl (Zj _) 14 (by kernel_rfl) (by kernel_rfl) (by kernel_rfl) ?_;simp only [List.take_succ_cons,List.take_zero,List.drop_succ_cons,List.drop_zero];(iterate 14 (apply Zf;(case hw=>rfl);(case hval=>(intro w1 hw1;have hcx:=Low.cells hw1;simp only [Oper.quietAt];go_simp;first | done | (first | (go_at_call 102;with_reducible exact Low.calls hw1 (hu1 _)) | (go_at_call 102;with_reducible exact Low.calls hw1 (hu2 _))) | rfl | exact⟨rfl,rfl⟩));simp only [Act.put,zq4,zr4,zs4]));refine wpQuiet_nil ?_;intro w2 hw2)
 have B:=E6.trans (hw2.mono (by simp;omega))
 obtain⟨hc7,hf7⟩:=bcell B;gi_wp2;go_wp2;refine bodyPost_ret (v:=.agg #[.int .i64 k0,.int .i64 (lastsV m.speed k0),.int .i64 (cdiv (k0*m.part) 1000+cdiv (lastsV m.speed k0*m.flow) 100)]) ?_ rfl ⟨rfl,?_⟩
 ·simp [results,Tryz.f51,go_sem,hc7]
 ·refine Below.setCell (Below.setCell (Below.setCell ?_ (by simp;omega) _) (by simp;omega) _) (by simp;omega) _
  refine Below.trans ?_ (B.mono (by simp;omega))
  repeat (first | exact Below.refl _ _ | assumption | apply Below.drew | refine Below.setCell ?_ (by first | omega | (simp;done) | (simp;omega)) _ | refine Below.alloc ?_ (by first | omega | (simp;done) | (simp;omega)) _ | refine Below.call (by assumption) ?_ (by first | omega | (simp;done) | (simp;omega)))
theorem Z5b (m:Msn) (vw vh vr:Value) (ax ay bx by':Int) (w:World) (hm:legOk m) (ha:nearP ax ay) (hb:nearP bx by') :
  Calls Tryz.prog 51 #[.agg (Zc m vw vh vr),.agg #[.int .i64 ax,.int .i64 ay],.agg #[.int .i64 bx,.int .i64 by']] w fun e w'=>e=.returned (legVal m ax ay bx by')∧Below w.heap.size w w':=by
 by_cases hlt:(isqrt ((ax-bx)*(ax-bx)+(ay-by')*(ay-by')).toNat:Int)*isqrt ((ax-bx)*(ax-bx)+(ay-by')*(ay-by')).toNat<((ax-bx)*(ax-bx)+(ay-by')*(ay-by'))
 ·by_cases hx:ax=bx
  ·by_cases hy:ay=by'
   ·subst hx;subst hy;exact Z24 m vw vh vr ax ay w
   ·exact Z6S m vw vh vr ax ay bx by' w hm ha hb (by simpa using hx) (by simpa using hy) hlt
  ·exact Z6U m vw vh vr ax ay bx by' w hm ha hb (by simpa using hx) hlt
 ·by_cases hx:ax=bx
  ·by_cases hy:ay=by'
   ·subst hx;subst hy;exact Z24 m vw vh vr ax ay w
   ·exact Z6R m vw vh vr ax ay bx by' w hm ha hb (by simpa using hx) (by simpa using hy) hlt
  ·exact Z6T m vw vh vr ax ay bx by' w hm ha hb (by simpa using hx) hlt
end
section
open Go.RowKit
def MsnBox (W:World) (B:Nat) (m:Msn) (vw vh vr:Value):Prop:=Has W B (Zc m vw vh vr) 26
theorem MsnBox.low {W W':World} {B:Nat} {m:Msn} {vw vh vr:Value} (h:MsnBox W B m vw vh vr) (hb:Low W W'):MsnBox W' B m vw vh vr:=Has.below h hb.out h.lt
theorem v5_any (B : Nat) (m : Msn) (vw vh vr : Value) (w : World) (H : MsnBox w B m vw vh vr) :
  Calls Tryz.prog 84 #[.pointer (some ⟨B,0,none⟩)] w fun e w'=>e=.returned (.bool (inB m.start 0 100000 && inB m.speed 1 20000))∧Below w.heap.size w w':=by
 obtain⟨c0,c1,c2,c3,c4,c5,c6,c7,c8,c9,c10⟩:=Zi H;cases h:inB m.start 0 100000
 ·go_enter Tryz.func84,Tryz.ntmps84
  go_wp2_with (go_at_call 85;refine (ZG _ _ _).mono ?_;rintro e w' ⟨rfl,rfl⟩);go_ret;exact⟨rfl,zB2⟩
 ·cases h2:inB m.speed 1 20000
  ·rcases Z1t h2 with h3 | ⟨h3,h4⟩
   ·have d:decide (1≤m.speed)=false:=by simp;omega
    clear h2 h3;go_enter Tryz.func84,Tryz.ntmps84;go_wp2_with (go_at_call 85;refine (ZG _ _ _).mono ?_;rintro e w' ⟨rfl,rfl⟩);go_ret;exact⟨rfl,zB2⟩
   ·have d:decide (m.speed≤20000)=false:=by simp;omega
    clear h2 h4;go_enter Tryz.func84,Tryz.ntmps84;go_wp2_with (go_at_call 85;refine (ZG _ _ _).mono ?_;rintro e w' ⟨rfl,rfl⟩);go_ret;exact⟨rfl,zB2⟩
  ·obtain⟨h3,h4⟩:=ZN h2
   clear h2;go_enter Tryz.func84,Tryz.ntmps84;go_wp2_with (go_at_call 85;refine (ZG _ _ _).mono ?_;rintro e w' ⟨rfl,rfl⟩);go_ret;exact⟨rfl,zB2⟩
theorem v3_any (B:Nat) (m:Msn) (vw vh vr:Value) (w:World) (H:MsnBox w B m vw vh vr) (hp:Z8 w.heap.size w vh m.home) :
  Calls Tryz.prog 80 #[.pointer (some ⟨B,0,none⟩)] w fun e w'=>e=.returned (.bool (Zb m.home))∧Below w.heap.size w w':=by
 obtain⟨c0,c1,c2,c3,c4,c5,c6,c7,c8,c9,c10⟩:=Zi H;go_enter Tryz.func80,Tryz.ntmps80;go_wp2_with (go_at_call 46;refine (Zo _ _ _ hp).mono ?_;rintro e w1 ⟨rfl,hb1⟩;have hz1:=hb1.size;try simp at hz1)
 go_ret;exact⟨rfl,zB2⟩
theorem v6_any (B:Nat) (m:Msn) (vw vh vr:Value) (w:World) (H:MsnBox w B m vw vh vr) :
  Calls Tryz.prog 86 #[.pointer (some ⟨B,0,none⟩)] w fun e w'=>e=.returned (.bool (inB m.part 0 500 && inB m.flow 0 5000))∧Below w.heap.size w w':=by
 obtain⟨c0,c1,c2,c3,c4,c5,c6,c7,c8,c9,c10⟩:=Zi H;cases h:inB m.part 0 500
 ·go_enter Tryz.func86,Tryz.ntmps86
  go_wp2_with (go_at_call 85;refine (ZG _ _ _).mono ?_;rintro e w' ⟨rfl,rfl⟩);go_ret;exact⟨rfl,zB2⟩
 ·go_enter Tryz.func86,Tryz.ntmps86
  go_wp2_with (go_at_call 85;refine (ZG _ _ _).mono ?_;rintro e w' ⟨rfl,rfl⟩);go_ret;exact⟨rfl,zB2⟩
theorem v7_any (B:Nat) (m:Msn) (vw vh vr:Value) (w:World) (H:MsnBox w B m vw vh vr) :
  Calls Tryz.prog 87 #[.pointer (some ⟨B,0,none⟩)] w fun e w'=>e=.returned (.bool (inB m.idle 0 1000 && inB m.drive 0 1000))∧Below w.heap.size w w':=by
 obtain⟨c0,c1,c2,c3,c4,c5,c6,c7,c8,c9,c10⟩:=Zi H;cases h:inB m.idle 0 1000
 ·go_enter Tryz.func87,Tryz.ntmps87
  go_wp2_with (go_at_call 85;refine (ZG _ _ _).mono ?_;rintro e w' ⟨rfl,rfl⟩);go_ret;exact⟨rfl,zB2⟩
 ·go_enter Tryz.func87,Tryz.ntmps87
  go_wp2_with (go_at_call 85;refine (ZG _ _ _).mono ?_;rintro e w' ⟨rfl,rfl⟩);go_ret;exact⟨rfl,zB2⟩
theorem v8_any (B:Nat) (m:Msn) (vw vh vr:Value) (w:World) (H:MsnBox w B m vw vh vr) :
  Calls Tryz.prog 88 #[.pointer (some ⟨B,0,none⟩)] w fun e w'=>e=.returned (.bool (inB m.battery 0 1000000000 && inB m.deadline 0 1000000000))∧Below w.heap.size w w':=by
 obtain⟨c0,c1,c2,c3,c4,c5,c6,c7,c8,c9,c10⟩:=Zi H;cases h:inB m.battery 0 1000000000
 ·go_enter Tryz.func88,Tryz.ntmps88
  go_wp2_with (go_at_call 85;refine (ZG _ _ _).mono ?_;rintro e w' ⟨rfl,rfl⟩);go_ret;exact⟨rfl,zB2⟩
 ·go_enter Tryz.func88,Tryz.ntmps88
  go_wp2_with (go_at_call 85;refine (ZG _ _ _).mono ?_;rintro e w' ⟨rfl,rfl⟩);go_ret;exact⟨rfl,zB2⟩
def sizesB (m:Msn):Bool:=decide (2≤m.ways.length∧m.ways.length≤41∧m.rocks.length≤100)
theorem v1_any (B : Nat) (m : Msn) (vw vh vr : Value) (w : World) (H : MsnBox w B m vw vh vr) (hw : WaysAt w.heap.size w vw m.ways) (hr : Z7 w.heap.size w vr m.rocks) :
  Calls Tryz.prog 77 #[.pointer (some ⟨B,0,none⟩)] w fun e w'=>e=.returned (.bool (sizesB m))∧Below w.heap.size w w':=by
 obtain⟨c0,c1,c2,c3,c4,c5,c6,c7,c8,c9,c10⟩:=Zi H;obtain⟨_,a1,cap1,rfl,hc1⟩:=hw;obtain⟨_,a2,cap2,rfl,hc2⟩:=hr;clear hc1 hc2;by_cases h1:2≤m.ways.length
 ·by_cases h2:m.ways.length≤41
  ·by_cases h3:m.rocks.length≤100
   ·have e:sizesB m=true:=by simp [sizesB];omega
    have d1:decide (2≤(m.ways.length:Int))=true:=by simp;omega
    have d2:decide ((m.ways.length:Int)≤41)=true:=by simp;omega
    have d3:decide ((m.rocks.length:Int)≤100)=true:=by simp;omega
    rw [e];clear e h1 h2 h3;go_enter Tryz.func77,Tryz.ntmps77;go_wp2;go_ret;exact⟨rfl,zB2⟩
   ·have e:sizesB m=false:=by simp [sizesB];omega
    have d1:decide (2≤(m.ways.length:Int))=true:=by simp;omega
    have d2:decide ((m.ways.length:Int)≤41)=true:=by simp;omega
    have d3:decide ((m.rocks.length:Int)≤100)=false:=by simp;omega
    rw [e];clear e h1 h2 h3;go_enter Tryz.func77,Tryz.ntmps77;go_wp2;go_ret;exact⟨rfl,zB2⟩
  ·have e:sizesB m=false:=by simp [sizesB];omega
   have d1:decide (2≤(m.ways.length:Int))=true:=by simp;omega
   have d2:decide ((m.ways.length:Int)≤41)=false:=by simp;omega
   rw [e];clear e h1 h2;go_enter Tryz.func77,Tryz.ntmps77;go_wp2;go_ret;exact⟨rfl,zB2⟩
 ·have e:sizesB m=false:=by simp [sizesB];omega
  have d1:decide (2≤(m.ways.length:Int))=false:=by simp;omega
  rw [e];clear e h1;go_enter Tryz.func77,Tryz.ntmps77;go_wp2;go_ret;exact⟨rfl,zB2⟩
theorem Z71 (v:Value) (l:List Pt) (w:World) (hp:Z8 w.heap.size w v l) :
  Calls Tryz.prog 83 #[v] w fun e w'=>e=.returned (.bool (!Zb l))∧Below w.heap.size w w':=by
 cases h:Zb l
 ·go_enter Tryz.func83,Tryz.ntmps83
  go_wp2_with (go_at_call 46;refine (Zo _ _ _ hp).mono ?_;rintro e w1 ⟨rfl,hb1⟩;have hz1:=hb1.size;try simp at hz1)
  go_ret;exact⟨rfl,zB2⟩
 ·go_enter Tryz.func83,Tryz.ntmps83
  go_wp2_with (go_at_call 46;refine (Zo _ _ _ hp).mono ?_;rintro e w1 ⟨rfl,hb1⟩;have hz1:=hb1.size;try simp at hz1)
  go_ret;exact⟨rfl,zB2⟩
end
section
attribute [local irreducible] wpQuiet
open Go.RowKit
noncomputable def rocksB (l:List (List Pt)):Bool:=decide (∀ j,j<l.length→Zb (rk l j)=true)
def FoundQ (b:Bool) (w:World) (e:Ending) (w':World):Prop:=∃ r:Int,e=.returned (.int .i64 r)∧-1≤r∧r≤9223372036854775807∧decide (0≤r)=b∧Below w.heap.size w w'
theorem Z2T (v : Value) (l : List (List Pt)) (w : World) (hr : Z7 w.heap.size w v l) :
  Calls Tryz.prog 116 #[v,.func (.func 83) #[] #[]] w (FoundQ (!rocksB l) w):=by
 obtain⟨hl,a,cap,rfl,hc⟩:=hr;go_enter Tryz.func116,Tryz.ntmps116;go_wp2
 go_loopw [8] (fun i wr=>∃ k:Nat,k≤l.length∧i=.int .i64 k∧(∀ j,j<k→Zb (rk l j)=true)∧Below w.heap.size w wr) (fun i _=>l.length-(intOf i).toNat)
 case atStart=>exact⟨0,Nat.zero_le _,rfl,fun j h=>by omega,Below.refl _ _⟩
 case round =>
  obtain⟨k,hk,rfl,hall,hB⟩:=hrel;by_cases hlt:k<l.length
  ·rcases hc with rfl | ⟨b,o,rfl,hb,hc⟩
   ·simp at hlt
   obtain⟨u,hu,hpu⟩:=hc k hlt;have c1:=(hB.cell (p:=⟨b,o+k,none⟩) hb).trans hu;have hpu':=Lib.hid ((hpu.below hB).mono hB.size);have hall':=Lib.hid hall;have hc':=Lib.hid hc;clear hall hc hu hpu;have hz:=hB.size;cases hpl:Zb (rk l k)
   ·have hr:Hid (rocksB l=false):=by
     show rocksB l=false
     simp only [rocksB,decide_eq_false_iff_not];intro h;have:=h k hlt;rw [hpl] at this;cases this
    go_wp2_with (go_at_call 83;refine (Z71 _ _ _ hpu'.out).mono ?_;rintro e w1 ⟨rfl,hb1⟩;have hz1:=hb1.size;try simp at hz1)
    go_ret;exact⟨k,rfl,by omega,by omega,by rw [hr.out];simp,zB2⟩
   ·go_wp2_with (go_at_call 83;refine (Z71 _ _ _ hpu'.out).mono ?_;rintro e w1 ⟨rfl,hb1⟩;have hz1:=hb1.size;try simp at hz1)
    go_roundw
    case rel =>
     refine⟨k+1,by omega,by go_num,fun j hj=>?_,zB2⟩
     by_cases e:j=k
     ·rw [e];exact hpl
     ·exact hall'.out j (by omega)
    case measure=>simp [intOf];omega
  ·have hr:Hid (rocksB l=true):=by
    show rocksB l=true
    simp only [rocksB,decide_eq_true_eq];intro j hj;exact hall j (by omega)
   clear hall;go_wp2;go_ret;exact⟨-1,rfl,by omega,by omega,by rw [hr.out];simp,hB⟩
theorem Z1O (v:Value) (l:List (List Pt)) (w:World) (hr:Z7 w.heap.size w v l) :
  Calls Tryz.prog 82 #[v,.func (.func 83) #[] #[]] w fun e w'=>e=.returned (.bool (!rocksB l))∧Below w.heap.size w w':=by
 go_enter Tryz.func82,Tryz.ntmps82;go_wp2_with (go_at_call 116;refine (Z2T _ _ _ hr).mono ?_;rintro e w1 ⟨r,rfl,r1,r2,r3,hb⟩);go_ret;exact⟨by first | rfl | exact ZB r3,hb⟩
theorem v4_any (B:Nat) (m:Msn) (vw vh vr:Value) (w:World) (H:MsnBox w B m vw vh vr) (hr:Z7 w.heap.size w vr m.rocks) :
  Calls Tryz.prog 81 #[.pointer (some ⟨B,0,none⟩)] w fun e w'=>e=.returned (.bool (rocksB m.rocks))∧Below w.heap.size w w':=by
 obtain⟨c0,c1,c2,c3,c4,c5,c6,c7,c8,c9,c10⟩:=Zi H;go_enter Tryz.func81,Tryz.ntmps81;go_wp2_with (go_at_call 82;refine (Z1O _ _ _ hr).mono ?_;rintro e w1 ⟨rfl,hb1⟩;have hz1:=hb1.size;try simp at hz1)
 go_ret;exact⟨ZB (by simp),zB2⟩
theorem v2_any (B : Nat) (m : Msn) (vw vh vr : Value) (w : World) (H : MsnBox w B m vw vh vr) (hw : WaysAt w.heap.size w vw m.ways) (hn : m.ways.length ≤ 1000000) :
  Calls Tryz.prog 78 #[.pointer (some ⟨B,0,none⟩)] w fun e w'=>e=.returned (.bool (waysB m.ways))∧Below w.heap.size w w':=by
 obtain⟨c0,c1,c2,c3,c4,c5,c6,c7,c8,c9,c10⟩:=Zi H;obtain⟨hl,a,cap,rfl,hc⟩:=hw;clear c1 c2 c3 c4 c5 c6 c7 c8 c9 c10;go_enter Tryz.func78,Tryz.ntmps78;go_wp2
 go_loopw [7] (fun i wr=>∃ k:Nat,k≤m.ways.length∧i=.int .i64 k∧(∀ j,j<k→wayB j (wy m.ways j)=true)∧Below w.heap.size w wr) (fun i _=>m.ways.length-(intOf i).toNat)
 case atStart=>exact⟨0,Nat.zero_le _,rfl,fun j h=>by omega,Below.refl _ _⟩
 case round =>
  obtain⟨k,hk,rfl,hall,hB⟩:=hrel;by_cases hlt:k<m.ways.length
  ·rcases hc with h0 | ⟨b,o,rfl,hb,hc⟩
   ·rw [h0] at hlt;simp at hlt
   obtain⟨u0,u1,u2,u3,u4⟩:=hc k hlt;have x0:=(hB.cell (p:=⟨b,o+k*5,none⟩) hb).trans u0;have x1:=(hB.cell (p:=⟨b,o+k*5+1,none⟩) hb).trans u1;have x2:=(hB.cell (p:=⟨b,o+k*5+2,none⟩) hb).trans u2;have x3:=(hB.cell (p:=⟨b,o+k*5+3,none⟩) hb).trans u3;have x4:=(hB.cell (p:=⟨b,o+k*5+4,none⟩) hb).trans u4;have hall':=Lib.hid hall;have hc':=Lib.hid hc;clear hall hc u0 u1 u2 u3 u4;have hz:=hB.size;have hw1:=fun w1=>Z7J k (wy m.ways k) w1 (by omega)
   unfold wyVal at hw1;have hw1':=Lib.hid hw1;clear hw1;cases hpl:wayB k (wy m.ways k)
   ·have hr:Hid (waysB m.ways=false):=by
     show waysB m.ways=false
     simp only [waysB,decide_eq_false_iff_not];intro h;have:=h k hlt;rw [hpl] at this;cases this
    go_wp2_with (go_at_call 79;refine (hw1'.out _).mono ?_;rintro e w1 ⟨rfl,hb1⟩;have hz1:=hb1.size;try simp at hz1)
    go_ret;exact⟨ZB hr.out.symm,zB2⟩
   ·go_wp2_with (go_at_call 79;refine (hw1'.out _).mono ?_;rintro e w1 ⟨rfl,hb1⟩;have hz1:=hb1.size;try simp at hz1)
    go_roundw
    case rel =>
     refine⟨k+1,by omega,by go_num,fun j hj=>?_,zB2⟩
     by_cases e:j=k
     ·rw [e];exact hpl
     ·exact hall'.out j (by omega)
    case measure=>simp [intOf];omega
  ·have hr:Hid (waysB m.ways=true):=by
    show waysB m.ways=true
    simp only [waysB,decide_eq_true_eq];intro j hj;exact hall j (by omega)
   clear hall;go_wp2;go_ret;exact⟨ZB hr.out.symm,hB⟩
set_option maxRecDepth 4000 in
theorem Z7V (m:Msn) (vw vh vr:Value) (w:World) (hm:legOk m) (hs:0≤m.start∧m.start≤100000) (hw:WaysAt w.heap.size w vw m.ways) (h2:2≤m.ways.length) (h41:m.ways.length≤41) (hwb:waysB m.ways=true) :
  Calls Tryz.prog 90 #[.agg (Zc m vw vh vr)] w fun e w'=>e=.returned (.int .i64 (grownV m))∧Below w.heap.size w w':=by
 obtain⟨hl,a,cap,rfl,hc⟩:=hw;obtain⟨b,o,rfl,hb,hc2⟩:∃ b o,a=some ⟨b,o,none⟩∧b<w.heap.size∧∀ j,j<m.ways.length→w.cell? ⟨b,o+j*5,none⟩=some (.int .i64 (wy m.ways j).x)∧w.cell? ⟨b,o+j*5+1,none⟩=some (.int .i64 (wy m.ways j).y)∧w.cell? ⟨b,o+j*5+2,none⟩=some (.int .i64 (wy m.ways j).fix)∧w.cell? ⟨b,o+j*5+3,none⟩=some (.int .i64 (wy m.ways j).wait)∧w.cell? ⟨b,o+j*5+4,none⟩=some (.int .i64 (wy m.ways j).back):=by
  rcases hc with h0 | h
  ·rw [h0] at h2;simp at h2
  ·exact h
 have hcH:=Lib.hid hc2;have hwbH:=Lib.hid hwb;have hmH:=Lib.hid hm;clear hc hc2 hwb hm;have hsz0:w.heap.size<(w.alloc (.cells #[] 0)).heap.size:=by simp
 have H0:Has (w.alloc (.cells (Zc m (.slice (some ⟨b,o,none⟩) m.ways.length (m.ways.length+cap)) vh vr) 26)) w.heap.size (Zc m (.slice (some ⟨b,o,none⟩) m.ways.length (m.ways.length+cap)) vh vr) 26:=Has.new w _ _;have H0H:=Lib.hid H0;clear H0 hsz0;unfold Zc;go_enter Tryz.func90,Tryz.ntmps90;go_wp2
 go_loopw [3,12] (fun s i wr=>∃ k:Nat,k≤m.ways.length-1∧i=.int .i64 k∧s=.int .i64 (grownTo m k)∧Has wr w.heap.size (Zc m (.slice (some ⟨b,o,none⟩) m.ways.length (m.ways.length+cap)) vh vr) 26∧Below w.heap.size w wr) (fun _ i _=>m.ways.length-1-(intOf i).toNat)
 case atStart=>exact⟨0,Nat.zero_le _,rfl,rfl,H0H.out,(Below.refl _ _).alloc (Nat.le_refl _) _⟩
 case round =>
  obtain⟨k,hk,rfl,rfl,H,hB⟩:=hrel;have hmsn:(((m.ways.length-1:Nat):Int))=(m.ways.length:Int)-1:=by omega
  have hms:=Lib.hid hmsn;clear hmsn;by_cases hlt:(k:Int)<(m.ways.length:Int)-1
  ·have hz:=hB.size
   have hlt':k+1<m.ways.length:=by omega
   have bk:=Z0v hwbH.out hlt';obtain⟨q,hq⟩:∃ q:Nat,(wy m.ways (k+1)).back=q:=⟨_,(Int.toNat_of_nonneg bk.1).symm⟩;rw [hq] at bk;have hql:q<m.ways.length:=by omega
   have hg:grownTo m (k+1)=grownTo m k+(gLeg m k (k+1)+gLeg m (k+1) q):=by rw [grownTo,hq];rfl
   have gb:=Z3i hmH.out hs hwbH.out k (by omega)
   have g1:=Z01 hmH.out hwbH.out (i:=k) (j:=k+1) (by omega) hlt'
   have g2:=Z01 hmH.out hwbH.out (i:=k+1) (j:=q) hlt' hql;have hl1:=fun w1=>Z5b m (.slice (some ⟨b,o,none⟩) m.ways.length (m.ways.length+cap)) vh vr (wy m.ways k).x (wy m.ways k).y (wy m.ways (k+1)).x (wy m.ways (k+1)).y w1 hmH.out (Z0f hwbH.out (by omega)) (Z0f hwbH.out hlt')
   have hl2:=fun w1=>Z5b m (.slice (some ⟨b,o,none⟩) m.ways.length (m.ways.length+cap)) vh vr (wy m.ways (k+1)).x (wy m.ways (k+1)).y (wy m.ways q).x (wy m.ways q).y w1 hmH.out (Z0f hwbH.out hlt') (Z0f hwbH.out hql)
   obtain⟨e1,he1⟩:∃ e1,gLeg m k (k+1)=e1:=⟨_,rfl⟩;obtain⟨e2,he2⟩:∃ e2,gLeg m (k+1) q=e2:=⟨_,rfl⟩;obtain⟨t,ht⟩:∃ t,grownTo m k=t:=⟨_,rfl⟩;rw [he1,he2,ht] at hg;rw [ht] at gb ⊢;rw [he1] at g1;rw [he2] at g2;unfold gLeg dLeg at he1 he2;unfold legVal at hl1 hl2;rw [he1] at hl1;rw [he2] at hl2;have a1:IntKind.i64.wrap (e1+e2)=e1+e2:=zW2;have a2:IntKind.i64.wrap (t+(e1+e2))=t+(e1+e2):=zW2;obtain⟨u0,u1,_,_,_⟩:=hcH.out k (by omega)
   obtain⟨p0,p1,p2,p3,p4⟩:=hcH.out (k+1) hlt';obtain⟨v0,v1,_,_,_⟩:=hcH.out q hql;rw [hq] at p4;have ar:o+(k+1)*5=o+5+k*5:=by omega
   rw [ar] at p0 p1 p2 p3 p4;obtain⟨W2,hW2⟩:∃ W2,wr.alloc (.cells #[.int .i64 (wy m.ways (k+1)).x,.int .i64 (wy m.ways (k+1)).y,.int .i64 (wy m.ways (k+1)).fix,.int .i64 (wy m.ways (k+1)).wait,.int .i64 (q:Int)] 52)=W2:=⟨_,rfl⟩;have hA:Below wr.heap.size wr W2:=by rw [← hW2];exact (Below.refl _ wr).alloc (Nat.le_refl _) _
   have H2:=H.below hA H.lt;have N2:Has W2 wr.heap.size #[.int .i64 (wy m.ways (k+1)).x,.int .i64 (wy m.ways (k+1)).y,.int .i64 (wy m.ways (k+1)).fix,.int .i64 (wy m.ways (k+1)).wait,.int .i64 (q:Int)] 52:=by rw [← hW2];exact Has.new wr _ _
   have hB2:Below w.heap.size w W2:=hB.trans (hA.mono hB.size);obtain⟨c0,c1,c2,c3,c4,c5,c6,c7,c8,c9,c10⟩:=Z7u H2;have n0:=Low.fact (N2.cell (i:=0) rfl);have n1:=Low.fact (N2.cell (i:=1) rfl);have n4:=Low.fact (N2.cell (i:=4) rfl);have lu0:=Low.fact ((hB2.cell (p:=⟨b,o+k*5,none⟩) hb).trans u0);have lu1:=Low.fact ((hB2.cell (p:=⟨b,o+k*5+1,none⟩) hb).trans u1);have lv0:=Low.fact ((hB2.cell (p:=⟨b,o+q*5,none⟩) hb).trans v0);have lv1:=Low.fact ((hB2.cell (p:=⟨b,o+q*5+1,none⟩) hb).trans v1);have p0':=(hB.cell (p:=⟨b,o+5+k*5,none⟩) hb).trans p0;have p1':=(hB.cell (p:=⟨b,o+5+k*5+1,none⟩) hb).trans p1;have p2':=(hB.cell (p:=⟨b,o+5+k*5+2,none⟩) hb).trans p2;have p3':=(hB.cell (p:=⟨b,o+5+k*5+3,none⟩) hb).trans p3;have p4':=(hB.cell (p:=⟨b,o+5+k*5+4,none⟩) hb).trans p4;have hz2:=hA.size;have hW2':=Lib.hid hW2;have hg':=Lib.hid hg;have HH:=Lib.hid H2;have hHl:w.heap.size+1≤wr.heap.size:=H.lt;have hl1':=Lib.hid hl1;have hl2':=Lib.hid hl2;clear u0 u1 p0 p1 p2 p3 p4 v0 v1 ar hg hW2 N2 H2 H hq he1 he2 ht hl1 hl2;unfold Zc at *;go_wp2;rw [hW2'.out];have kl:k<m.ways.length:=by omega
   have kl':(k:Int)<(m.ways.length:Int):=by omega
   have ql':(q:Int)<(m.ways.length:Int):=by omega
   (refine Zh (by kernel_rfl) (by kernel_rfl) ?_;(iterate 27 (apply Zf;(case hw=>rfl);(case hval=>(intro w1 hw1;have hcx:=Low.cells hw1;simp only [Oper.quietAt];go_simp;first | done | (first | (go_at_call 51;with_reducible exact Low.calls hw1 (hl1'.out _)) | (go_at_call 51;with_reducible exact Low.calls hw1 (hl2'.out _))) | rfl | exact⟨rfl,rfl⟩));simp only [Act.put,zq4,zr4,zs4]));refine wpQuiet_nil ?_;intro w2 hw2)
   go_wp2;go_roundw
   case rel=>exact⟨k+1,by omega,by go_num,by rw [hg'.out],HH.out.below hw2.out (by omega),hB2.trans (hw2.out.mono hB2.size)⟩
   case measure=>simp [intOf];omega
  ·obtain rfl:k=m.ways.length-1:=by omega
   go_wp2;go_ret;exact⟨rfl,hB⟩
end
end Go.Proofs.YtdolkgihppgpcaaGreat
