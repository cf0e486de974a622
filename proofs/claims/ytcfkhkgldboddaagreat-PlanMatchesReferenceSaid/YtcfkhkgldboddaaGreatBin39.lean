/- landfallref32.Corridor. (Printed by tools/mkrcorridor.py.) -/
import Derived.Test.YtcfkhkgldboddaaGreatBin32
namespace Go.Proofs.YtcfkhkgldboddaaGreat
open Go.RowKit
attribute [local irreducible] wpQuiet
theorem Z1T {a b:Pt} {u v:Int} (h:Z4 a=false∨Z4 b=false∨radOk u=false∨radOk v=false):corE a u b v=1∧corL a u b v=[]:=by
 have e:corE a u b v=1:=if_neg (by rintro ⟨h1,h2,h3,h4⟩;rcases h with h | h | h | h <;> simp_all)
 exact⟨e,if_neg (by rw [e];omega)⟩
theorem Z1P {n:Nat} {d:Pt} (h:n≤100000) (hd:Z4 d=true):shE (Z5 n) d=if allPl (mvL d (Z5 n))=true then 0 else 3:=if_pos ⟨Z0s (Z0N h),hd⟩
theorem ZbA {a b:Pt} {n m:Nat} (h1:allPl (mvL a (Z5 n))=true) (h2:allPl (mvL b (Z5 m))=true):∀ k,k<(mvL a (Z5 n)++mvL b (Z5 m)).length→far6 (nth (mvL a (Z5 n)++mvL b (Z5 m)) k):=by
 intro k hk;have h:=nth_mem' hk;rw [Z1j] at h1 h2;have hp:Z4 (nth (mvL a (Z5 n)++mvL b (Z5 m)) k)=true:=by
  rcases List.mem_append.1 h with h | h
  ·exact h1 _ h
  ·exact h2 _ h
 rw [ZT] at hp;unfold far6;omega
theorem Z6U (a:Pt) (n:Nat):0<(mvL a (Z5 n)).length:=by
 rw [ZQ];exact (Z0G (oct0 n (octK n))).some (by simp [oct0])
theorem Z8.addr {n0:Nat} {W:World} {v:Value} {l:List Pt} (h:Z8 n0 W v l) (h0:0<l.length):∃ b o cap,v=.slice (some ⟨b,o,none⟩) l.length (l.length+cap)∧b<n0∧∀ j u,(Za l)[j]?=some u→W.cell? ((⟨b,o,none⟩:Addr).add j)=some u:=by
 obtain⟨_,a,cap,e,hc⟩:=h;rcases hc with rfl | ⟨b,o,rfl,hb,hc⟩
 ·simp at h0
 ·exact⟨b,o,cap,e,hb,Z3T hc⟩
set_option linter.unusedSimpArgs false in
set_option maxRecDepth 8000 in
set_option maxHeartbeats 4000000 in
theorem Z4u (a b:Pt) (u v:Int) (w:World) :
  Calls Tryz.prog 123 #[.agg #[.int .i64 a.x,.int .i64 a.y],.int .i64 u,.agg #[.int .i64 b.x,.int .i64 b.y],.int .i64 v] w fun e w'=>∃ r,e=.returned (.tuple #[r,.int .i64 (corE a u b v)])∧Z8 w'.heap.size w' r (corL a u b v)∧Below w.heap.size w w'∧NewI w.heap.size r:=by
 have NA:=(Has.new w #[.int .i64 a.x,.int .i64 a.y] 41).below ((Below.refl (w.heap.size+1) _).alloc (by simp) (.cells #[.int .i64 b.x,.int .i64 b.y] 41)) (by omega)
 have NB:=Has.new (w.alloc (.cells #[.int .i64 a.x,.int .i64 a.y] 41)) #[.int .i64 b.x,.int .i64 b.y] 41;rw [World.size_alloc] at NB;have hs:((w.alloc (.cells #[.int .i64 a.x,.int .i64 a.y] 41)).alloc (.cells #[.int .i64 b.x,.int .i64 b.y] 41)).heap.size=w.heap.size+2:=by simp
 have HA:=Lib.hid (((Below.refl w.heap.size w).alloc (Nat.le_refl _) (.cells #[.int .i64 a.x,.int .i64 a.y] 41)).alloc (by first | omega | (simp;done) | (simp;omega)) (.cells #[.int .i64 b.x,.int .i64 b.y] 41))
 have hcell:=Lib.hid (fun w' (B:Below ((w.alloc (.cells #[.int .i64 a.x,.int .i64 a.y] 41)).alloc (.cells #[.int .i64 b.x,.int .i64 b.y] 41)).heap.size ((w.alloc (.cells #[.int .i64 a.x,.int .i64 a.y] 41)).alloc (.cells #[.int .i64 b.x,.int .i64 b.y] 41)) w')=>(show w'.cell? ⟨w.heap.size,0,none⟩=some (.int .i64 a.x)∧w'.cell? ⟨w.heap.size,1,none⟩=some (.int .i64 a.y)∧w'.cell? ⟨w.heap.size+1,0,none⟩=some (.int .i64 b.x)∧w'.cell? ⟨w.heap.size+1,1,none⟩=some (.int .i64 b.y) from
  ⟨(NA.below B (by omega)).cell (i:=0) rfl,(NA.below B (by omega)).cell (i:=1) rfl,(NB.below B (by omega)).cell (i:=0) rfl,(NB.below B (by omega)).cell (i:=1) rfl⟩))
 have HF:=Lib.hid (fun w' (B:Below ((w.alloc (.cells #[.int .i64 a.x,.int .i64 a.y] 41)).alloc (.cells #[.int .i64 b.x,.int .i64 b.y] 41)).heap.size ((w.alloc (.cells #[.int .i64 a.x,.int .i64 a.y] 41)).alloc (.cells #[.int .i64 b.x,.int .i64 b.y] 41)) w')=>HA.out.trans (B.mono HA.out.size))
 have B0:=Lib.hid (Below.refl ((w.alloc (.cells #[.int .i64 a.x,.int .i64 a.y] 41)).alloc (.cells #[.int .i64 b.x,.int .i64 b.y] 41)).heap.size ((w.alloc (.cells #[.int .i64 a.x,.int .i64 a.y] 41)).alloc (.cells #[.int .i64 b.x,.int .i64 b.y] 41)));obtain⟨c0,c1,c2,c3⟩:=hcell.out _ B0.out;clear NA NB hs;have fa:=fun w1=>Z04 a.x a.y w1
 have fb:=fun w1=>Z04 b.x b.y w1
 have fu:=fun w1=>Z30 u w1
 have fv:=fun w1=>Z30 v w1
 cases ha:Z4 a
 all_goals rw [show placeB a.x a.y=_ from ha] at fa
 all_goals cases hb:Z4 b
 all_goals rw [show placeB b.x b.y=_ from hb] at fb
 all_goals have fa:=Lib.hid fa
 all_goals have fb:=Lib.hid fb
 case false.false =>
  obtain⟨e1,e2⟩:=Z1T (a:=a) (b:=b) (u:=u) (v:=v) (.inl ha);have HE:=Lib.hid e1;have HL:=Lib.hid e2;clear e1 e2 ha hb;go_enter Tryz.func123,Tryz.ntmps123;go_wp2_with fail;refine (fa.out _).mono ?_;rintro e w1 ⟨rfl,b1⟩;have B1:=zAi B0 b1;clear b1 c0 c1 c2 c3;obtain⟨c0,c1,c2,c3⟩:=hcell.out _ B1.out;go_wp2_with fail;refine (fb.out _).mono ?_;rintro e w2 ⟨rfl,b2⟩;have B2:=zAi B1 b2;clear b2 c0 c1 c2 c3;obtain⟨c0,c1,c2,c3⟩:=hcell.out _ B2.out;go_wp2;go_ret2;exact⟨.slice none 0 0,by rw [HE.out];rfl,by rw [HL.out];exact Z8.nil _ _,HF.out _ B2.out,NewI.nil _⟩
 case false.true =>
  obtain⟨e1,e2⟩:=Z1T (a:=a) (b:=b) (u:=u) (v:=v) (.inl ha);have HE:=Lib.hid e1;have HL:=Lib.hid e2;clear e1 e2 ha hb;go_enter Tryz.func123,Tryz.ntmps123;go_wp2_with fail;refine (fa.out _).mono ?_;rintro e w1 ⟨rfl,b1⟩;have B1:=zAi B0 b1;clear b1 c0 c1 c2 c3;obtain⟨c0,c1,c2,c3⟩:=hcell.out _ B1.out;go_wp2_with fail;refine (fb.out _).mono ?_;rintro e w2 ⟨rfl,b2⟩;have B2:=zAi B1 b2;clear b2 c0 c1 c2 c3;obtain⟨c0,c1,c2,c3⟩:=hcell.out _ B2.out;go_wp2;go_ret2;exact⟨.slice none 0 0,by rw [HE.out];rfl,by rw [HL.out];exact Z8.nil _ _,HF.out _ B2.out,NewI.nil _⟩
 case true.false =>
  obtain⟨e1,e2⟩:=Z1T (a:=a) (b:=b) (u:=u) (v:=v) (.inr (.inl hb));have HE:=Lib.hid e1;have HL:=Lib.hid e2;clear e1 e2 ha hb;go_enter Tryz.func123,Tryz.ntmps123;go_wp2_with fail;refine (fa.out _).mono ?_;rintro e w1 ⟨rfl,b1⟩;have B1:=zAi B0 b1;clear b1 c0 c1 c2 c3;obtain⟨c0,c1,c2,c3⟩:=hcell.out _ B1.out;go_wp2_with fail;refine (fb.out _).mono ?_;rintro e w2 ⟨rfl,b2⟩;have B2:=zAi B1 b2;clear b2 c0 c1 c2 c3;obtain⟨c0,c1,c2,c3⟩:=hcell.out _ B2.out;go_wp2;go_ret2;exact⟨.slice none 0 0,by rw [HE.out];rfl,by rw [HL.out];exact Z8.nil _ _,HF.out _ B2.out,NewI.nil _⟩
 cases hu:radOk u
 ·obtain⟨e1,e2⟩:=Z1T (a:=a) (b:=b) (u:=u) (v:=v) (.inr (.inr (.inl hu)))
  rw [hu] at fu;have fu:=Lib.hid fu;have HE:=Lib.hid e1;have HL:=Lib.hid e2;clear e1 e2 ha hb hu;go_enter Tryz.func123,Tryz.ntmps123;go_wp2_with fail;refine (fa.out _).mono ?_;rintro e w1 ⟨rfl,b1⟩;have B1:=zAi B0 b1;clear b1 c0 c1 c2 c3;obtain⟨c0,c1,c2,c3⟩:=hcell.out _ B1.out;go_wp2_with fail;refine (fb.out _).mono ?_;rintro e w2 ⟨rfl,b2⟩;have B2:=zAi B1 b2;clear b2 c0 c1 c2 c3;obtain⟨c0,c1,c2,c3⟩:=hcell.out _ B2.out;go_wp2_with fail;refine (fu.out _).mono ?_;rintro e w3 ⟨rfl,b3⟩;have B3:=zAi B2 b3;clear b3 c0 c1 c2 c3;obtain⟨c0,c1,c2,c3⟩:=hcell.out _ B3.out;go_wp2;go_ret2;exact⟨.slice none 0 0,by rw [HE.out];rfl,by rw [HL.out];exact Z8.nil _ _,HF.out _ B3.out,NewI.nil _⟩
 rw [hu] at fu;cases hv:radOk v
 ·obtain⟨e1,e2⟩:=Z1T (a:=a) (b:=b) (u:=u) (v:=v) (.inr (.inr (.inr hv)))
  rw [hv] at fv;have fv:=Lib.hid fv;have HE:=Lib.hid e1;have HL:=Lib.hid e2;clear e1 e2 ha hb hu hv;have fu:=Lib.hid fu;go_enter Tryz.func123,Tryz.ntmps123;go_wp2_with fail;refine (fa.out _).mono ?_;rintro e w1 ⟨rfl,b1⟩;have B1:=zAi B0 b1;clear b1 c0 c1 c2 c3;obtain⟨c0,c1,c2,c3⟩:=hcell.out _ B1.out;go_wp2_with fail;refine (fb.out _).mono ?_;rintro e w2 ⟨rfl,b2⟩;have B2:=zAi B1 b2;clear b2 c0 c1 c2 c3;obtain⟨c0,c1,c2,c3⟩:=hcell.out _ B2.out;go_wp2_with fail;refine (fu.out _).mono ?_;rintro e w3 ⟨rfl,b3⟩;have B3:=zAi B2 b3;clear b3 c0 c1 c2 c3;obtain⟨c0,c1,c2,c3⟩:=hcell.out _ B3.out;go_wp2_with fail;refine (fv.out _).mono ?_;rintro e w4 ⟨rfl,b4⟩;have B4:=zAi B3 b4;clear b4 c0 c1 c2 c3;obtain⟨c0,c1,c2,c3⟩:=hcell.out _ B4.out;go_wp2;go_ret2;exact⟨.slice none 0 0,by rw [HE.out];rfl,by rw [HL.out];exact Z8.nil _ _,HF.out _ B4.out,NewI.nil _⟩
 rw [hv] at fv;have fu:=Lib.hid fu;have fv:=Lib.hid fv;have r1:0≤u∧u≤100000:=by simpa [radOk] using hu
 have r2:0≤v∧v≤100000:=by simpa [radOk] using hv
 obtain⟨n,rfl⟩:∃ n:Nat,u=n:=⟨u.toNat,by omega⟩
 obtain⟨m,rfl⟩:∃ m:Nat,v=m:=⟨v.toNat,by omega⟩
 have n1:n≤100000:=by omega
 have n2:m≤100000:=by omega
 have hE:corE a n b m=if allPl (mvL a (Z5 n))=true∧allPl (mvL b (Z5 m))=true then 0 else 3:=if_pos ⟨ha,hb,hu,hv⟩
 have hL:corL a n b m=if corE a n b m=0 then corH a n b m else []:=rfl
 have g3:=fun w1=>Z35 a n w1 n1
 have g4:=fun w1=>Z35 b m w1 n2
 rw [Z1P n1 ha] at g3;rw [Z1P n2 hb] at g4;have k3:shL (Z5 n) a=if shE (Z5 n) a=0 then mvL a (Z5 n) else []:=rfl
 have k4:shL (Z5 m) b=if shE (Z5 m) b=0 then mvL b (Z5 m) else []:=rfl
 rw [Z1P n1 ha] at k3;rw [Z1P n2 hb] at k4;clear r1 r2 ha hb hu hv;have HLD:=Lib.hid (And.intro (Z0k n) (Z0k m));have HFC:=Lib.hid (fun h1 h2=>ZbA (a:=a) (n:=n) (b:=b) (m:=m) h1 h2)
 have HPD:=Lib.hid (And.intro (Z6U a n) (Z6U b m));have HC:Hid (hullP (mvL a (Z5 n)++mvL b (Z5 m))=corH a n b m):=rfl;cases t1:allPl (mvL a (Z5 n))
 all_goals cases t2:allPl (mvL b (Z5 m))
 all_goals rw [t1] at g3 k3 hE
 all_goals rw [t2] at g4 k4 hE
 all_goals simp only [Bool.false_eq_true,false_and,and_false,and_true,if_true,if_false,true_and,Int.reduceEq] at g3 k3 g4 k4 hE
 all_goals rw [hE] at hL
 all_goals simp only [Int.reduceEq,if_true,if_false] at hL
 all_goals rw [k3] at g3
 all_goals rw [k4] at g4
 case false.false =>
  clear t1 t2 k3 k4;have HE:=Lib.hid hE;have HL:=Lib.hid hL;have g3:=Lib.hid g3;have g4:=Lib.hid g4;clear hE hL;go_enter Tryz.func123,Tryz.ntmps123;go_wp2_with fail;refine (fa.out _).mono ?_;rintro e w1 ⟨rfl,b1⟩;have B1:=zAi B0 b1;clear b1 c0 c1 c2 c3;obtain⟨c0,c1,c2,c3⟩:=hcell.out _ B1.out;go_wp2_with fail;refine (fb.out _).mono ?_;rintro e w2 ⟨rfl,b2⟩;have B2:=zAi B1 b2;clear b2 c0 c1 c2 c3;obtain⟨c0,c1,c2,c3⟩:=hcell.out _ B2.out;go_wp2_with fail;refine (fu.out _).mono ?_;rintro e w3 ⟨rfl,b3⟩;have B3:=zAi B2 b3;clear b3 c0 c1 c2 c3;obtain⟨c0,c1,c2,c3⟩:=hcell.out _ B3.out;go_wp2_with fail;refine (fv.out _).mono ?_;rintro e w4 ⟨rfl,b4⟩;have B4:=zAi B3 b4;clear b4 c0 c1 c2 c3;obtain⟨c0,c1,c2,c3⟩:=hcell.out _ B4.out;go_wp2_with fail;refine (g3.out _).mono ?_;rintro e w5 ⟨v5,rfl,p5,b5⟩;have B5:=zAi B4 b5;have P5:=Lib.hid p5;obtain⟨a5,d5,hv5⟩:=p5.len;subst hv5;clear p5 b5 c0 c1 c2 c3;obtain⟨c0,c1,c2,c3⟩:=hcell.out _ B5.out;go_wp2_with fail;refine (g4.out _).mono ?_;rintro e w6 ⟨v6,rfl,p6,b6⟩;have B6:=zAi B5 b6;have P6:=Lib.hid p6;have Q6:=Lib.hid ((P5.out.below b6).mono b6.size);obtain⟨a6,d6,hv6⟩:=p6.len;subst hv6;clear p6 P5 b6 c0 c1 c2 c3;go_wp2;go_ret2;exact⟨.slice none 0 0,by rw [HE.out];rfl,by rw [HL.out];exact Z8.nil _ _,HF.out _ B6.out,NewI.nil _⟩
 case false.true =>
  clear t1 t2 k3 k4;have HE:=Lib.hid hE;have HL:=Lib.hid hL;have g3:=Lib.hid g3;have g4:=Lib.hid g4;clear hE hL;go_enter Tryz.func123,Tryz.ntmps123;go_wp2_with fail;refine (fa.out _).mono ?_;rintro e w1 ⟨rfl,b1⟩;have B1:=zAi B0 b1;clear b1 c0 c1 c2 c3;obtain⟨c0,c1,c2,c3⟩:=hcell.out _ B1.out;go_wp2_with fail;refine (fb.out _).mono ?_;rintro e w2 ⟨rfl,b2⟩;have B2:=zAi B1 b2;clear b2 c0 c1 c2 c3;obtain⟨c0,c1,c2,c3⟩:=hcell.out _ B2.out;go_wp2_with fail;refine (fu.out _).mono ?_;rintro e w3 ⟨rfl,b3⟩;have B3:=zAi B2 b3;clear b3 c0 c1 c2 c3;obtain⟨c0,c1,c2,c3⟩:=hcell.out _ B3.out;go_wp2_with fail;refine (fv.out _).mono ?_;rintro e w4 ⟨rfl,b4⟩;have B4:=zAi B3 b4;clear b4 c0 c1 c2 c3;obtain⟨c0,c1,c2,c3⟩:=hcell.out _ B4.out;go_wp2_with fail;refine (g3.out _).mono ?_;rintro e w5 ⟨v5,rfl,p5,b5⟩;have B5:=zAi B4 b5;have P5:=Lib.hid p5;obtain⟨a5,d5,hv5⟩:=p5.len;subst hv5;clear p5 b5 c0 c1 c2 c3;obtain⟨c0,c1,c2,c3⟩:=hcell.out _ B5.out;go_wp2_with fail;refine (g4.out _).mono ?_;rintro e w6 ⟨v6,rfl,p6,b6⟩;have B6:=zAi B5 b6;have P6:=Lib.hid p6;have Q6:=Lib.hid ((P5.out.below b6).mono b6.size);obtain⟨a6,d6,hv6⟩:=p6.len;subst hv6;clear p6 P5 b6 c0 c1 c2 c3;go_wp2;go_ret2;exact⟨.slice none 0 0,by rw [HE.out];rfl,by rw [HL.out];exact Z8.nil _ _,HF.out _ B6.out,NewI.nil _⟩
 case true.false =>
  clear t1 t2 k3 k4;have HE:=Lib.hid hE;have HL:=Lib.hid hL;have g3:=Lib.hid g3;have g4:=Lib.hid g4;clear hE hL;go_enter Tryz.func123,Tryz.ntmps123;go_wp2_with fail;refine (fa.out _).mono ?_;rintro e w1 ⟨rfl,b1⟩;have B1:=zAi B0 b1;clear b1 c0 c1 c2 c3;obtain⟨c0,c1,c2,c3⟩:=hcell.out _ B1.out;go_wp2_with fail;refine (fb.out _).mono ?_;rintro e w2 ⟨rfl,b2⟩;have B2:=zAi B1 b2;clear b2 c0 c1 c2 c3;obtain⟨c0,c1,c2,c3⟩:=hcell.out _ B2.out;go_wp2_with fail;refine (fu.out _).mono ?_;rintro e w3 ⟨rfl,b3⟩;have B3:=zAi B2 b3;clear b3 c0 c1 c2 c3;obtain⟨c0,c1,c2,c3⟩:=hcell.out _ B3.out;go_wp2_with fail;refine (fv.out _).mono ?_;rintro e w4 ⟨rfl,b4⟩;have B4:=zAi B3 b4;clear b4 c0 c1 c2 c3;obtain⟨c0,c1,c2,c3⟩:=hcell.out _ B4.out;go_wp2_with fail;refine (g3.out _).mono ?_;rintro e w5 ⟨v5,rfl,p5,b5⟩;have B5:=zAi B4 b5;have P5:=Lib.hid p5;obtain⟨a5,d5,hv5⟩:=p5.len;subst hv5;clear p5 b5 c0 c1 c2 c3;obtain⟨c0,c1,c2,c3⟩:=hcell.out _ B5.out;go_wp2_with fail;refine (g4.out _).mono ?_;rintro e w6 ⟨v6,rfl,p6,b6⟩;have B6:=zAi B5 b6;have P6:=Lib.hid p6;have Q6:=Lib.hid ((P5.out.below b6).mono b6.size);obtain⟨a6,d6,hv6⟩:=p6.len;subst hv6;clear p6 P5 b6 c0 c1 c2 c3;go_wp2;go_ret2;exact⟨.slice none 0 0,by rw [HE.out];rfl,by rw [HL.out];exact Z8.nil _ _,HF.out _ B6.out,NewI.nil _⟩
 case true.true =>
  have H12:=Lib.hid (And.intro t1 t2);clear t1 t2 k3 k4;have HE:=Lib.hid hE;have HL:=Lib.hid hL;have g3:=Lib.hid g3;have g4:=Lib.hid g4;clear hE hL;go_enter Tryz.func123,Tryz.ntmps123;go_wp2_with fail;refine (fa.out _).mono ?_;rintro e w1 ⟨rfl,b1⟩;have B1:=zAi B0 b1;clear b1 c0 c1 c2 c3;obtain⟨c0,c1,c2,c3⟩:=hcell.out _ B1.out;go_wp2_with fail;refine (fb.out _).mono ?_;rintro e w2 ⟨rfl,b2⟩;have B2:=zAi B1 b2;clear b2 c0 c1 c2 c3;obtain⟨c0,c1,c2,c3⟩:=hcell.out _ B2.out;go_wp2_with fail;refine (fu.out _).mono ?_;rintro e w3 ⟨rfl,b3⟩;have B3:=zAi B2 b3;clear b3 c0 c1 c2 c3;obtain⟨c0,c1,c2,c3⟩:=hcell.out _ B3.out;go_wp2_with fail;refine (fv.out _).mono ?_;rintro e w4 ⟨rfl,b4⟩;have B4:=zAi B3 b4;clear b4 c0 c1 c2 c3;obtain⟨c0,c1,c2,c3⟩:=hcell.out _ B4.out;go_wp2_with fail;refine (g3.out _).mono ?_;rintro e w5 ⟨v5,rfl,p5,b5⟩;have B5:=zAi B4 b5;have P5:=Lib.hid p5;obtain⟨a5,d5,hv5⟩:=p5.len;subst hv5;clear p5 b5 c0 c1 c2 c3;obtain⟨c0,c1,c2,c3⟩:=hcell.out _ B5.out;go_wp2_with fail;refine (g4.out _).mono ?_;rintro e w6 ⟨v6,rfl,p6,b6⟩;have B6:=zAi B5 b6;have P6:=Lib.hid p6;have Q6:=Lib.hid ((P5.out.below b6).mono b6.size);obtain⟨a6,d6,hv6⟩:=p6.len;subst hv6;clear p6 P5 b6 c0 c1 c2 c3;obtain⟨i0,hi,hz0',hz1',hz2'⟩:=info_parts ptInfo;have hl1:(mvL a (Z5 n)).length≤8:=by rw [ZQ];exact HLD.out.1
  have hl2:(mvL b (Z5 m)).length≤8:=by rw [ZQ];exact HLD.out.2
  obtain⟨bp,op,cp,hp1,hp2,hp3⟩:=Q6.out.addr HPD.out.1;obtain⟨bq,oq,cq,hq1,hq2,hq3⟩:=P6.out.addr HPD.out.2;simp only [Value.slice.injEq] at hp1 hq1;obtain⟨hp1,_,hp4⟩:=hp1;obtain⟨hq1,_,hq4⟩:=hq1;subst hp1;subst hq1;obtain rfl:d5=cp:=by omega
  obtain rfl:d6=cq:=by omega
  clear hp4 hq4 hp2;have HQ3:=Lib.hid (And.intro hq2 hq3);have HP3:=Lib.hid hp3;clear hq3 hp3;have R6:=Lib.hid (World.ownsRow_nil w6 w6.heap.size 41 2);go_wp2_with (first | (at_builtin;refine wpList_append_own _ rfl _ _ 23 rfl w6.heap.size 41 i0 (.agg #[.int .i64 0,.int .i64 0]) 2 16 Tryz.underlying23 hi hz0' hz1' hz2' rfl (by decide) _ _ _ rfl R6.out ⟨bp,op,none⟩ (mvL a (Z5 n)).length ((mvL a (Z5 n)).length+d5) (Za (mvL a (Z5 n))) rfl (Zr _) HP3.out (Z01 _) (by unfold maxLen;omega) (by omega) (by omega) ?_;intro v7 w7 hown7 hgrow7 _;have A7:=Lib.hid ((Below.refl w6.heap.size w6).grown hgrow7 (Nat.le_refl _) (fun j ej=>(R6.out.lt j ej).1));have R7:=Lib.hid hown7;have z7:=A7.out.size;clear hgrow7 hown7) | (at_builtin;refine wpList_append_own _ rfl _ _ 23 rfl w6.heap.size 41 i0 (.agg #[.int .i64 0,.int .i64 0]) 2 16 Tryz.underlying23 hi hz0' hz1' hz2' rfl (by decide) _ _ _ rfl R7.out ⟨bq,oq,none⟩ (mvL b (Z5 m)).length ((mvL b (Z5 m)).length+d6) (Za (mvL b (Z5 m))) rfl (Zr _) (fun j u hu=>by have h:=HQ3.out.2 j u hu;exact (A7.out.cell (p:=(⟨bq,oq,none⟩:Addr).add j) (by have:=HQ3.out.1;unfold Addr.add;split <;> simpa using this)).trans h) (Z01 _) (by unfold maxLen;omega) (by omega) (by omega) ?_;intro v8 w8 hown8 hgrow8 _;have A8:=Lib.hid (A7.out.grown hgrow8 (by omega) (fun j ej=>(R7.out.lt j ej).1));have R8:=Lib.hid hown8;have z8:=A8.out.size;clear hgrow8 hown8))
  have p8:=Z8.own (l:=mvL a (Z5 n)++mvL b (Z5 m)) (by rw [Zu];exact R8.out) (by rw [List.length_append];omega)
  have f9:=Z4i _ (mvL a (Z5 n)++mvL b (Z5 m)) _ p8 (HFC.out H12.out.1 H12.out.2) (by rw [List.length_append];omega)
  rw [HC.out] at f9;refine f9.mono ?_;rintro e w9 ⟨v9,rfl,p9,b9,n9⟩;have B9:=Lib.hid (B6.out.trans ((A8.out.trans (b9.mono z8)).mono B6.out.size));have P9:=Lib.hid p9;have N9:=Lib.hid (n9.mono (HF.out _ (B6.out.trans (A8.out.mono B6.out.size))).size);clear n9;obtain⟨a9,d9,hv9⟩:=p9.len;subst hv9;clear p9 b9 f9 p8;go_wp2;go_ret2;exact⟨_,by rw [HE.out];rfl,by rw [HL.out];exact P9.out,HF.out _ B9.out,N9.out⟩
theorem Z4v (a b:Pt) (u v:Int) (w:World) :
  Calls Tryz.prog 123 #[.agg #[.int .i64 a.x,.int .i64 a.y],.int .i64 u,.agg #[.int .i64 b.x,.int .i64 b.y],.int .i64 v] w fun e w'=>∃ r,e=.returned (.tuple #[r,.int .i64 (corE a u b v)])∧Z8 w'.heap.size w' r (corL a u b v)∧Below w.heap.size w w' :=
 (Z4u a b u v w).mono fun e w' h=>by obtain⟨r,h1,h2,h3,-⟩:=h;exact⟨r,h1,h2,h3⟩
end Go.Proofs.YtcfkhkgldboddaaGreat
