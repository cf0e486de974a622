/- spread.Corridor. (Printed by tools/mkcorridor.py.) -/
import Derived.Test.YthipcinibldgnaaGreatBin23
open Go.Value renaming int->O
open Go.Obj renaming cells->qC
open Go.IntKind renaming i64->qL
open Go.Lib renaming hid->qH
namespace Go.Proofs.YthipcinibldgnaaGreat
open Go.RowKit
attribute [local irreducible] wpQuiet
attribute [local irreducible] hulE hulL
theorem Zas (l m:List Pt):catTo [l,m] [l,m].length=l++m:=by show ([]++rk [l,m] 0)++rk [l,m] 1=_;simp [rk]
theorem Z57 {a b:Pt} {u v:Int} (h:Z3 a=false\/Z3 b=false\/radOk u=false\/radOk v=false):corE a u b v=1/\corL a u b v=[]:=by
 have e:corE a u b v=1:=if_neg (by rintro ⟨h1,h2,h3,h4⟩;rcases h with h | h | h | h <;> simp_all)
 exact⟨e,if_neg (by rw [e];omega)⟩
theorem Z2O {n:Nat} {d:Pt} (h:n<=100000) (hd:Z3 d=true):shE (Z4 n) d=if allPl (mvL d (Z4 n))=true then 0 else 3:=if_pos ⟨Z0V (Z1C h),hd⟩
set_option linter.unusedSimpArgs false in
set_option maxRecDepth 8000 in
set_option maxHeartbeats 4000000 in
theorem Z2I (a b:Pt) (u v:Int) (w:World) :
  Calls Tryz.prog 44 #[.agg #[O qL a.x,O qL a.y],O qL u,.agg #[O qL b.x,O qL b.y],O qL v] w fun e w'=>∃ r,e=.returned (.tuple #[r,O qL (corE a u b v)])/\Z7 w'.heap.size w' r (corL a u b v)/\Below w.heap.size w w'/\NewI w.heap.size r:=by
 have NA:=(Has.new w #[O qL a.x,O qL a.y] 36).below ((Below.refl (w.heap.size+1) _).alloc (by simp) (qC #[O qL b.x,O qL b.y] 36)) (by omega)
 have NB:=Has.new (w.alloc (qC #[O qL a.x,O qL a.y] 36)) #[O qL b.x,O qL b.y] 36;rw [World.size_alloc] at NB;have hs:((w.alloc (qC #[O qL a.x,O qL a.y] 36)).alloc (qC #[O qL b.x,O qL b.y] 36)).heap.size=w.heap.size+2:=by simp
 have HA:=qH (((Below.refl w.heap.size w).alloc (Nat.le_refl _) (qC #[O qL a.x,O qL a.y] 36)).alloc (by first | omega | (simp;done) | (simp;omega)) (qC #[O qL b.x,O qL b.y] 36))
 have hcell:=qH (fun w' (B:Below ((w.alloc (qC #[O qL a.x,O qL a.y] 36)).alloc (qC #[O qL b.x,O qL b.y] 36)).heap.size ((w.alloc (qC #[O qL a.x,O qL a.y] 36)).alloc (qC #[O qL b.x,O qL b.y] 36)) w')=>(show w'.cell? ⟨w.heap.size,0,none⟩=some (O qL a.x)/\w'.cell? ⟨w.heap.size,1,none⟩=some (O qL a.y)/\w'.cell? ⟨w.heap.size+1,0,none⟩=some (O qL b.x)/\w'.cell? ⟨w.heap.size+1,1,none⟩=some (O qL b.y) from
  ⟨(NA.below B (by omega)).cell (i:=0) rfl,(NA.below B (by omega)).cell (i:=1) rfl,(NB.below B (by omega)).cell (i:=0) rfl,(NB.below B (by omega)).cell (i:=1) rfl⟩))
 have HF:=qH (fun w' (B:Below ((w.alloc (qC #[O qL a.x,O qL a.y] 36)).alloc (qC #[O qL b.x,O qL b.y] 36)).heap.size ((w.alloc (qC #[O qL a.x,O qL a.y] 36)).alloc (qC #[O qL b.x,O qL b.y] 36)) w')=>HA.out.trans (B.mono HA.out.size))
 have B0:=qH (Below.refl ((w.alloc (qC #[O qL a.x,O qL a.y] 36)).alloc (qC #[O qL b.x,O qL b.y] 36)).heap.size ((w.alloc (qC #[O qL a.x,O qL a.y] 36)).alloc (qC #[O qL b.x,O qL b.y] 36)));clear NA NB hs;have fa:=fun w1=>Z44 a.x a.y w1
 have fb:=fun w1=>Z44 b.x b.y w1
 have fu:=fun w1=>Z36 u w1
 have fv:=fun w1=>Z36 v w1
 cases ha:Z3 a
 ·obtain⟨e1,e2⟩:=Z57 (a:=a) (b:=b) (u:=u) (v:=v) (.inl ha)
  have HE:=qH e1;have HL:=qH e2;clear e1 e2;rw [show placeB a.x a.y=false from ha] at fa
  have fa:=qH fa;clear ha;go_enter Tryz.func44,Tryz.ntmps44;go_wp2_with fail;refine (fa.out _).mono ?_;rintro e w1 ⟨rfl,b1⟩;have B1:=zAf B0 b1;clear b1;go_wp2;go_ret2;exact⟨.slice none 0 0,by rw [HE.out];rfl,by rw [HL.out];exact Z7.nil _ _,HF.out _ B1.out,NewI.nil _⟩
 rw [show placeB a.x a.y=true from ha] at fa
 cases hb:Z3 b
 ·obtain⟨e1,e2⟩:=Z57 (a:=a) (b:=b) (u:=u) (v:=v) (.inr (.inl hb))
  have HE:=qH e1;have HL:=qH e2;clear e1 e2;have fa:=qH fa;rw [show placeB b.x b.y=false from hb] at fb
  have fb:=qH fb;clear ha hb;go_enter Tryz.func44,Tryz.ntmps44;go_wp2_with fail;refine (fa.out _).mono ?_;rintro e w1 ⟨rfl,b1⟩;have B1:=zAf B0 b1;clear b1;obtain⟨c0,c1,c2,c3⟩:=hcell.out _ B1.out;go_wp2_with fail;refine (fb.out _).mono ?_;rintro e w2 ⟨rfl,b2⟩;have B2:=zAf B1 b2;clear b2;go_wp2;go_ret2;exact⟨.slice none 0 0,by rw [HE.out];rfl,by rw [HL.out];exact Z7.nil _ _,HF.out _ B2.out,NewI.nil _⟩
 rw [show placeB b.x b.y=true from hb] at fb
 cases hu:radOk u
 ·obtain⟨e1,e2⟩:=Z57 (a:=a) (b:=b) (u:=u) (v:=v) (.inr (.inr (.inl hu)))
  have HE:=qH e1;have HL:=qH e2;clear e1 e2;have fa:=qH fa;have fb:=qH fb;rw [show radOk u=false from hu] at fu
  have fu:=qH fu;clear ha hb hu;go_enter Tryz.func44,Tryz.ntmps44;go_wp2_with fail;refine (fa.out _).mono ?_;rintro e w1 ⟨rfl,b1⟩;have B1:=zAf B0 b1;clear b1;obtain⟨c0,c1,c2,c3⟩:=hcell.out _ B1.out;go_wp2_with fail;refine (fb.out _).mono ?_;rintro e w2 ⟨rfl,b2⟩;have B2:=zAf B1 b2;clear b2 c0 c1 c2 c3;obtain⟨c0,c1,c2,c3⟩:=hcell.out _ B2.out;go_wp2_with fail;refine (fu.out _).mono ?_;rintro e w3 ⟨rfl,b3⟩;have B3:=zAf B2 b3;clear b3;go_wp2;go_ret2;exact⟨.slice none 0 0,by rw [HE.out];rfl,by rw [HL.out];exact Z7.nil _ _,HF.out _ B3.out,NewI.nil _⟩
 rw [show radOk u=true from hu] at fu
 cases hv:radOk v
 ·obtain⟨e1,e2⟩:=Z57 (a:=a) (b:=b) (u:=u) (v:=v) (.inr (.inr (.inr (hv))))
  have HE:=qH e1;have HL:=qH e2;clear e1 e2;have fa:=qH fa;have fb:=qH fb;have fu:=qH fu;rw [show radOk v=false from hv] at fv
  have fv:=qH fv;clear ha hb hu hv;go_enter Tryz.func44,Tryz.ntmps44;go_wp2_with fail;refine (fa.out _).mono ?_;rintro e w1 ⟨rfl,b1⟩;have B1:=zAf B0 b1;clear b1;obtain⟨c0,c1,c2,c3⟩:=hcell.out _ B1.out;go_wp2_with fail;refine (fb.out _).mono ?_;rintro e w2 ⟨rfl,b2⟩;have B2:=zAf B1 b2;clear b2 c0 c1 c2 c3;obtain⟨c0,c1,c2,c3⟩:=hcell.out _ B2.out;go_wp2_with fail;refine (fu.out _).mono ?_;rintro e w3 ⟨rfl,b3⟩;have B3:=zAf B2 b3;clear b3 c0 c1 c2 c3;obtain⟨c0,c1,c2,c3⟩:=hcell.out _ B3.out;go_wp2_with fail;refine (fv.out _).mono ?_;rintro e w4 ⟨rfl,b4⟩;have B4:=zAf B3 b4;clear b4;go_wp2;go_ret2;exact⟨.slice none 0 0,by rw [HE.out];rfl,by rw [HL.out];exact Z7.nil _ _,HF.out _ B4.out,NewI.nil _⟩
 rw [show radOk v=true from hv] at fv
 have fa:=qH fa;have fb:=qH fb;have fu:=qH fu;have fv:=qH fv;have r1:0<=u/\u<=100000:=by simpa [radOk] using hu
 have r2:0<=v/\v<=100000:=by simpa [radOk] using hv
 obtain⟨n,rfl⟩:∃ n:Nat,u=n:=⟨u.toNat,by omega⟩
 obtain⟨m,rfl⟩:∃ m:Nat,v=m:=⟨v.toNat,by omega⟩
 have n1:n<=100000:=by omega
 have n2:m<=100000:=by omega
 have hE:corE a n b m=if allPl (mvL a (Z4 n))=true/\allPl (mvL b (Z4 m))=true then 0 else 3:=if_pos ⟨ha,hb,hu,hv⟩
 have hL:corL a n b m=if corE a n b m=0 then corH a n b m else []:=rfl
 have g1:=fun w1=>Z3p n w1 n1
 have g2:=fun w1=>Z3p m w1 n2
 have g3:=fun x w1 h=>Z0R x (Z4 n) a w1 h
 have g4:=fun x w1 h=>Z0R x (Z4 m) b w1 h
 rw [Z2O n1 ha] at g3;rw [Z2O n2 hb] at g4;have k3:shL (Z4 n) a=if shE (Z4 n) a=0 then mvL a (Z4 n) else []:=rfl
 have k4:shL (Z4 m) b=if shE (Z4 m) b=0 then mvL b (Z4 m) else []:=rfl
 rw [Z2O n1 ha] at k3;rw [Z2O n2 hb] at k4;clear r1 r2 ha hb hu hv;have HLD:=qH (And.intro (Z13 n) (Z13 m));have HUL:=qH (fun h1 h2=>Zbc (a:=a) (u:=n) (b:=b) (v:=m) h1 h2)
 have gs:=qH (fun x ls w1 h=>Z6n x ls w1 h)
 cases t1:allPl (mvL a (Z4 n))
 ·rw [t1] at g3 k3 hE
  rw [if_neg (by simp)] at hE
  rw [hE,if_neg (by omega)] at hL
  rw [if_neg (by simp)] at g3
  rw [if_neg (by simp)] at k3
  rw [k3] at g3;clear t1 k3 k4 HUL;have HE:=qH hE;have HL:=qH hL;have g1:=qH g1;have g2:=qH g2;have g3:=qH g3;have g4:=qH g4;clear hE hL;go_enter Tryz.func44,Tryz.ntmps44;go_wp2_with fail;refine (fa.out _).mono ?_;rintro e w1 ⟨rfl,b1⟩;have B1:=zAf B0 b1;clear b1;obtain⟨c0,c1,c2,c3⟩:=hcell.out _ B1.out;go_wp2_with fail;refine (fb.out _).mono ?_;rintro e w2 ⟨rfl,b2⟩;have B2:=zAf B1 b2;clear b2 c0 c1 c2 c3;obtain⟨c0,c1,c2,c3⟩:=hcell.out _ B2.out;go_wp2_with fail;refine (fu.out _).mono ?_;rintro e w3 ⟨rfl,b3⟩;have B3:=zAf B2 b3;clear b3 c0 c1 c2 c3;obtain⟨c0,c1,c2,c3⟩:=hcell.out _ B3.out;go_wp2_with fail;refine (fv.out _).mono ?_;rintro e w4 ⟨rfl,b4⟩;have B4:=zAf B3 b4;clear b4 c0 c1 c2 c3;obtain⟨c0,c1,c2,c3⟩:=hcell.out _ B4.out;go_wp2_with fail;refine (g1.out _).mono ?_;rintro e w5 ⟨v5,rfl,p5,b5⟩;have B5:=zAf B4 b5;have P5:=qH p5;obtain⟨a5,d5,hv5⟩:=p5.len;subst hv5;clear p5 b5 c0 c1 c2 c3;obtain⟨c0,c1,c2,c3⟩:=hcell.out _ B5.out;go_wp2_with fail;refine (g2.out _).mono ?_;rintro e w6 ⟨v6,rfl,p6,b6⟩;have B6:=zAf B5 b6;have P6:=qH p6;have Q6:=qH ((P5.out.below b6).mono b6.size);obtain⟨a6,d6,hv6⟩:=p6.len;subst hv6;clear p6 P5 b6 c0 c1 c2 c3;obtain⟨c0,c1,c2,c3⟩:=hcell.out _ B6.out;go_wp2_with fail;refine (g3.out _ _ Q6.out).mono ?_;rintro e w7 ⟨v7,rfl,p7,b7⟩;have B7:=zAf B6 b7;have P7:=qH p7;have Q7:=qH ((P6.out.below b7).mono b7.size);obtain⟨a7,d7,hv7⟩:=p7.len;subst hv7;clear p7 Q6 P6 b7 c0 c1 c2 c3;obtain⟨c0,c1,c2,c3⟩:=hcell.out _ B7.out;go_wp2;go_ret2;exact⟨.slice none 0 0,by rw [HE.out];rfl,by rw [HL.out];exact Z7.nil _ _,HF.out _ B7.out,NewI.nil _⟩
 rw [t1,if_pos rfl] at g3;rw [t1,if_pos rfl,if_pos rfl] at k3;rw [k3] at g3;rw [t1] at hE;cases t2:allPl (mvL b (Z4 m))
 ·rw [t2] at g4 k4 hE
  rw [if_neg (by simp)] at hE
  rw [hE,if_neg (by omega)] at hL
  rw [if_neg (by simp)] at g4
  rw [if_neg (by simp)] at k4
  rw [k4] at g4;clear t1 t2 k3 k4 HUL;have HE:=qH hE;have HL:=qH hL;have g1:=qH g1;have g2:=qH g2;have g3:=qH g3;have g4:=qH g4;clear hE hL;go_enter Tryz.func44,Tryz.ntmps44;go_wp2_with fail;refine (fa.out _).mono ?_;rintro e w1 ⟨rfl,b1⟩;have B1:=zAf B0 b1;clear b1;obtain⟨c0,c1,c2,c3⟩:=hcell.out _ B1.out;go_wp2_with fail;refine (fb.out _).mono ?_;rintro e w2 ⟨rfl,b2⟩;have B2:=zAf B1 b2;clear b2 c0 c1 c2 c3;obtain⟨c0,c1,c2,c3⟩:=hcell.out _ B2.out;go_wp2_with fail;refine (fu.out _).mono ?_;rintro e w3 ⟨rfl,b3⟩;have B3:=zAf B2 b3;clear b3 c0 c1 c2 c3;obtain⟨c0,c1,c2,c3⟩:=hcell.out _ B3.out;go_wp2_with fail;refine (fv.out _).mono ?_;rintro e w4 ⟨rfl,b4⟩;have B4:=zAf B3 b4;clear b4 c0 c1 c2 c3;obtain⟨c0,c1,c2,c3⟩:=hcell.out _ B4.out;go_wp2_with fail;refine (g1.out _).mono ?_;rintro e w5 ⟨v5,rfl,p5,b5⟩;have B5:=zAf B4 b5;have P5:=qH p5;obtain⟨a5,d5,hv5⟩:=p5.len;subst hv5;clear p5 b5 c0 c1 c2 c3;obtain⟨c0,c1,c2,c3⟩:=hcell.out _ B5.out;go_wp2_with fail;refine (g2.out _).mono ?_;rintro e w6 ⟨v6,rfl,p6,b6⟩;have B6:=zAf B5 b6;have P6:=qH p6;have Q6:=qH ((P5.out.below b6).mono b6.size);obtain⟨a6,d6,hv6⟩:=p6.len;subst hv6;clear p6 P5 b6 c0 c1 c2 c3;obtain⟨c0,c1,c2,c3⟩:=hcell.out _ B6.out;go_wp2_with fail;refine (g3.out _ _ Q6.out).mono ?_;rintro e w7 ⟨v7,rfl,p7,b7⟩;have B7:=zAf B6 b7;have P7:=qH p7;have Q7:=qH ((P6.out.below b7).mono b7.size);obtain⟨a7,d7,hv7⟩:=p7.len;subst hv7;clear p7 Q6 P6 b7 c0 c1 c2 c3;obtain⟨c0,c1,c2,c3⟩:=hcell.out _ B7.out;go_wp2_with fail;refine (g4.out _ _ Q7.out).mono ?_;rintro e w8 ⟨v8,rfl,p8,b8⟩;have B8:=zAf B7 b8;have P8:=qH p8;have Q8:=qH ((P7.out.below b8).mono b8.size);obtain⟨a8,d8,hv8⟩:=p8.len;subst hv8;clear p8 Q7 P7 b8 c0 c1 c2 c3;go_wp2;go_ret2;exact⟨.slice none 0 0,by rw [HE.out];rfl,by rw [HL.out];exact Z7.nil _ _,HF.out _ B8.out,NewI.nil _⟩
 ·rw [t2,if_pos rfl] at g4
  rw [t2,if_pos rfl,if_pos rfl] at k4;rw [k4] at g4;rw [t2,if_pos (by simp)] at hE
  rw [hE,if_pos rfl] at hL;have HU:=qH (HUL.out t1 t2);clear t1 t2 k3 k4 HUL;have HE:=qH hE;have HL:=qH hL;have g1:=qH g1;have g2:=qH g2;have g3:=qH g3;have g4:=qH g4;clear hE hL;go_enter Tryz.func44,Tryz.ntmps44;go_wp2_with fail;refine (fa.out _).mono ?_;rintro e w1 ⟨rfl,b1⟩;have B1:=zAf B0 b1;clear b1;obtain⟨c0,c1,c2,c3⟩:=hcell.out _ B1.out;go_wp2_with fail;refine (fb.out _).mono ?_;rintro e w2 ⟨rfl,b2⟩;have B2:=zAf B1 b2;clear b2 c0 c1 c2 c3;obtain⟨c0,c1,c2,c3⟩:=hcell.out _ B2.out;go_wp2_with fail;refine (fu.out _).mono ?_;rintro e w3 ⟨rfl,b3⟩;have B3:=zAf B2 b3;clear b3 c0 c1 c2 c3;obtain⟨c0,c1,c2,c3⟩:=hcell.out _ B3.out;go_wp2_with fail;refine (fv.out _).mono ?_;rintro e w4 ⟨rfl,b4⟩;have B4:=zAf B3 b4;clear b4 c0 c1 c2 c3;obtain⟨c0,c1,c2,c3⟩:=hcell.out _ B4.out;go_wp2_with fail;refine (g1.out _).mono ?_;rintro e w5 ⟨v5,rfl,p5,b5⟩;have B5:=zAf B4 b5;have P5:=qH p5;obtain⟨a5,d5,hv5⟩:=p5.len;subst hv5;clear p5 b5 c0 c1 c2 c3;obtain⟨c0,c1,c2,c3⟩:=hcell.out _ B5.out;go_wp2_with fail;refine (g2.out _).mono ?_;rintro e w6 ⟨v6,rfl,p6,b6⟩;have B6:=zAf B5 b6;have P6:=qH p6;have Q6:=qH ((P5.out.below b6).mono b6.size);obtain⟨a6,d6,hv6⟩:=p6.len;subst hv6;clear p6 P5 b6 c0 c1 c2 c3;obtain⟨c0,c1,c2,c3⟩:=hcell.out _ B6.out;go_wp2_with fail;refine (g3.out _ _ Q6.out).mono ?_;rintro e w7 ⟨v7,rfl,p7,b7⟩;have B7:=zAf B6 b7;have P7:=qH p7;have Q7:=qH ((P6.out.below b7).mono b7.size);obtain⟨a7,d7,hv7⟩:=p7.len;subst hv7;clear p7 Q6 P6 b7 c0 c1 c2 c3;obtain⟨c0,c1,c2,c3⟩:=hcell.out _ B7.out;go_wp2_with fail;refine (g4.out _ _ Q7.out).mono ?_;rintro e w8 ⟨v8,rfl,p8,b8⟩;have B8:=zAf B7 b8;have P8:=qH p8;have Q8:=qH ((P7.out.below b8).mono b8.size);obtain⟨a8,d8,hv8⟩:=p8.len;subst hv8;clear p8 Q7 P7 b8 c0 c1 c2 c3;have A8:=qH ((Below.refl w8.heap.size w8).alloc (Nat.le_refl _) (qC #[.slice a7 (mvL a (Z4 n)).length ((mvL a (Z4 n)).length+d7),.slice a8 (mvL b (Z4 m)).length ((mvL b (Z4 m)).length+d8)] 23));go_wp2_with fail;have f9:=gs.out _ [mvL a (Z4 n),mvL b (Z4 m)] _ (Z95 _ rfl Q8.out P8.out) (by simp) (fun j=>by match j with | 0=>(show (mvL a (Z4 n)).length<=_;rw [Z0k];have:=HLD.out.1;omega) | 1=>(show (mvL b (Z4 m)).length<=_;rw [Z0k];have:=HLD.out.2;omega) | j+2=>(show ([]:List Pt).length<=_;simp))
  rw [Zas,HU.out.1,HU.out.2] at f9;refine f9.mono ?_;rintro e w9 ⟨v9,rfl,p9,b9,n9⟩;have B9:=qH (B8.out.trans ((A8.out.trans (b9.mono A8.out.size)).mono B8.out.size));have P9:=qH p9;have N9:=qH (n9.mono (Nat.le_trans (HF.out _ B8.out).size A8.out.size));obtain⟨a9,d9,hv9⟩:=p9.len;subst hv9;clear p9 b9 f9 n9;go_wp2;go_ret2;exact⟨_,by rw [HE.out];rfl,by rw [HL.out];exact P9.out,HF.out _ B9.out,N9.out⟩
theorem Z0s (a b:Pt) (u v:Int) (w:World) :
  Calls Tryz.prog 44 #[.agg #[O qL a.x,O qL a.y],O qL u,.agg #[O qL b.x,O qL b.y],O qL v] w fun e w'=>∃ r,e=.returned (.tuple #[r,O qL (corE a u b v)])/\Z7 w'.heap.size w' r (corL a u b v)/\Below w.heap.size w w':=(Z2I a b u v w).mono fun _ _ ⟨u,a,b,c,_⟩=>⟨u,a,b,c⟩
end Go.Proofs.YthipcinibldgnaaGreat
