/- mission.Valid: the conditions in order; mission.Valid, has. | mission.Valid, has. | mission.has, Leg. | The reference's way, limits, grown. | The r .. -/
import Derived.LoopTactic
import Derived.Test.YtcfkhkgldboddaaGreatBin09
import Derived.Test.YtcfkhkgldboddaaGreatBin10
set_option maxRecDepth 4000
set_option maxHeartbeats 1600000
namespace Go.Proofs.YtcfkhkgldboddaaGreat
section
attribute [local irreducible] wpQuiet
open Go.RowKit
theorem v9_any (B:Nat) (m:Msn) (vw vh vr:Value) (w:World) (H:MsnBox w B m vw vh vr) (hm:legOk m) (hs:0≤m.start∧m.start≤100000) (hw:WaysAt w.heap.size w vw m.ways) (h2:2≤m.ways.length) (h41:m.ways.length≤41) (hwb:waysB m.ways=true) :
  Calls Tryz.prog 89 #[.pointer (some ⟨B,0,none⟩)] w fun e w'=>e=.returned (.bool (decide (grownV m≤100000)))∧Below w.heap.size w w':=by
 obtain⟨c0,c1,c2,c3,c4,c5,c6,c7,c8,c9,c10⟩:=Zh H;have hg:=Z9i m vw vh vr w hm hs hw h2 h41 hwb;have hg':=Lib.hid hg;clear hg hm hs hw h2 h41 hwb;unfold Zc at hg';go_enter Tryz.func89,Tryz.ntmps89;go_wp2_with (go_at_call 90;refine (hg'.out).mono ?_;rintro e w1 ⟨rfl,hb1⟩;have hz1:=hb1.size;try simp at hz1)
 go_ret;exact⟨rfl,zB2⟩
theorem v10_1 (B:Addr) (c:Bool) (w:World) (h:Calls Tryz.prog 77 #[.pointer (some B)] w fun e w'=>e=.returned (.bool c)∧Below w.heap.size w w') :
  Calls Tryz.prog 92 #[.func (.func 77) #[] #[.pointer (some B)]] w fun e w'=>e=.returned (.bool (!c))∧Below w.heap.size w w':=by
 have h':=Lib.hid h;clear h;go_enter Tryz.func92,Tryz.ntmps92;go_wp2_with (go_at_call 77;refine (h'.out).mono ?_;rintro e w1 ⟨rfl,hb1⟩;have hz1:=hb1.size;try simp at hz1)
 go_ret;exact⟨rfl,hb1⟩
theorem v10_2 (B:Addr) (c:Bool) (w:World) (h:Calls Tryz.prog 78 #[.pointer (some B)] w fun e w'=>e=.returned (.bool c)∧Below w.heap.size w w') :
  Calls Tryz.prog 92 #[.func (.func 78) #[] #[.pointer (some B)]] w fun e w'=>e=.returned (.bool (!c))∧Below w.heap.size w w':=by
 have h':=Lib.hid h;clear h;go_enter Tryz.func92,Tryz.ntmps92;go_wp2_with (go_at_call 78;refine (h'.out).mono ?_;rintro e w1 ⟨rfl,hb1⟩;have hz1:=hb1.size;try simp at hz1)
 go_ret;exact⟨rfl,hb1⟩
theorem v10_3 (B:Addr) (c:Bool) (w:World) (h:Calls Tryz.prog 80 #[.pointer (some B)] w fun e w'=>e=.returned (.bool c)∧Below w.heap.size w w') :
  Calls Tryz.prog 92 #[.func (.func 80) #[] #[.pointer (some B)]] w fun e w'=>e=.returned (.bool (!c))∧Below w.heap.size w w':=by
 have h':=Lib.hid h;clear h;go_enter Tryz.func92,Tryz.ntmps92;go_wp2_with (go_at_call 80;refine (h'.out).mono ?_;rintro e w1 ⟨rfl,hb1⟩;have hz1:=hb1.size;try simp at hz1)
 go_ret;exact⟨rfl,hb1⟩
theorem v10_4 (B:Addr) (c:Bool) (w:World) (h:Calls Tryz.prog 81 #[.pointer (some B)] w fun e w'=>e=.returned (.bool c)∧Below w.heap.size w w') :
  Calls Tryz.prog 92 #[.func (.func 81) #[] #[.pointer (some B)]] w fun e w'=>e=.returned (.bool (!c))∧Below w.heap.size w w':=by
 have h':=Lib.hid h;clear h;go_enter Tryz.func92,Tryz.ntmps92;go_wp2_with (go_at_call 81;refine (h'.out).mono ?_;rintro e w1 ⟨rfl,hb1⟩;have hz1:=hb1.size;try simp at hz1)
 go_ret;exact⟨rfl,hb1⟩
theorem v10_5 (B:Addr) (c:Bool) (w:World) (h:Calls Tryz.prog 84 #[.pointer (some B)] w fun e w'=>e=.returned (.bool c)∧Below w.heap.size w w') :
  Calls Tryz.prog 92 #[.func (.func 84) #[] #[.pointer (some B)]] w fun e w'=>e=.returned (.bool (!c))∧Below w.heap.size w w':=by
 have h':=Lib.hid h;clear h;go_enter Tryz.func92,Tryz.ntmps92;go_wp2_with (go_at_call 84;refine (h'.out).mono ?_;rintro e w1 ⟨rfl,hb1⟩;have hz1:=hb1.size;try simp at hz1)
 go_ret;exact⟨rfl,hb1⟩
theorem v10_6 (B:Addr) (c:Bool) (w:World) (h:Calls Tryz.prog 86 #[.pointer (some B)] w fun e w'=>e=.returned (.bool c)∧Below w.heap.size w w') :
  Calls Tryz.prog 92 #[.func (.func 86) #[] #[.pointer (some B)]] w fun e w'=>e=.returned (.bool (!c))∧Below w.heap.size w w':=by
 have h':=Lib.hid h;clear h;go_enter Tryz.func92,Tryz.ntmps92;go_wp2_with (go_at_call 86;refine (h'.out).mono ?_;rintro e w1 ⟨rfl,hb1⟩;have hz1:=hb1.size;try simp at hz1)
 go_ret;exact⟨rfl,hb1⟩
theorem v10_7 (B:Addr) (c:Bool) (w:World) (h:Calls Tryz.prog 87 #[.pointer (some B)] w fun e w'=>e=.returned (.bool c)∧Below w.heap.size w w') :
  Calls Tryz.prog 92 #[.func (.func 87) #[] #[.pointer (some B)]] w fun e w'=>e=.returned (.bool (!c))∧Below w.heap.size w w':=by
 have h':=Lib.hid h;clear h;go_enter Tryz.func92,Tryz.ntmps92;go_wp2_with (go_at_call 87;refine (h'.out).mono ?_;rintro e w1 ⟨rfl,hb1⟩;have hz1:=hb1.size;try simp at hz1)
 go_ret;exact⟨rfl,hb1⟩
theorem v10_8 (B:Addr) (c:Bool) (w:World) (h:Calls Tryz.prog 88 #[.pointer (some B)] w fun e w'=>e=.returned (.bool c)∧Below w.heap.size w w') :
  Calls Tryz.prog 92 #[.func (.func 88) #[] #[.pointer (some B)]] w fun e w'=>e=.returned (.bool (!c))∧Below w.heap.size w w':=by
 have h':=Lib.hid h;clear h;go_enter Tryz.func92,Tryz.ntmps92;go_wp2_with (go_at_call 88;refine (h'.out).mono ?_;rintro e w1 ⟨rfl,hb1⟩;have hz1:=hb1.size;try simp at hz1)
 go_ret;exact⟨rfl,hb1⟩
theorem v10_9 (B:Addr) (c:Bool) (w:World) (h:Calls Tryz.prog 89 #[.pointer (some B)] w fun e w'=>e=.returned (.bool c)∧Below w.heap.size w w') :
  Calls Tryz.prog 92 #[.func (.func 89) #[] #[.pointer (some B)]] w fun e w'=>e=.returned (.bool (!c))∧Below w.heap.size w w':=by
 have h':=Lib.hid h;clear h;go_enter Tryz.func92,Tryz.ntmps92;go_wp2_with (go_at_call 89;refine (h'.out).mono ?_;rintro e w1 ⟨rfl,hb1⟩;have hz1:=hb1.size;try simp at hz1)
 go_ret;exact⟨rfl,hb1⟩
theorem Z3D (b n : Nat) (hn : n ≤ 1000) (cl : Nat → Value) (conds : Nat → Bool) (w : World) (hc : ∀ j, j < n → w.cell? ⟨b, j, none⟩ = some (cl j))
  (hC:∀ k,k<n→(∀ j,j<k→conds j=true)→∀ w1,Below w.heap.size w w1→Calls Tryz.prog 92 #[cl k] w1 fun e w'=>e=.returned (.bool (!conds k))∧Below w1.heap.size w1 w') (hb:b<w.heap.size) :
  Calls Tryz.prog 129 #[.slice (some ⟨b,0,none⟩) n n,.func (.func 92) #[] #[]] w (FoundQ (!decide (∀ j,j<n→conds j=true)) w):=by
 have hcH:=Lib.hid hc;have hCH:=Lib.hid hC;clear hc hC;go_enter Tryz.func129,Tryz.ntmps129;go_wp2
 go_loopw [8] (fun i wr=>∃ k:Nat,k≤n∧i=.int .i64 k∧(∀ j,j<k→conds j=true)∧Below w.heap.size w wr) (fun i _=>n-(intOf i).toNat)
 case atStart=>exact⟨0,Nat.zero_le _,rfl,fun j h=>by omega,Below.refl _ _⟩
 case round =>
  obtain⟨k,hk,rfl,hall,hB⟩:=hrel;by_cases hlt:k<n
  ·have c1:=(hB.cell (p:=⟨b,k,none⟩) hb).trans (hcH.out k hlt)
   have hv:=hCH.out k hlt hall wr hB;have hall':=Lib.hid hall;have hv':=Lib.hid hv;clear hall hv;have hz:=hB.size;cases hpl:conds k
   ·have hr:Hid (decide (∀ j,j<n→conds j=true)=false):=by
     show decide (∀ j,j<n→conds j=true)=false
     simp only [decide_eq_false_iff_not];intro h;have:=h k hlt;rw [hpl] at this;cases this
    rw [hpl] at hv';have hpl':=Lib.hid hpl;clear hpl;go_wp2_with (go_at_call 92;refine (hv'.out).mono ?_;rintro e w1 ⟨rfl,hb1⟩;have hz1:=hb1.size;try simp at hz1)
    go_ret;exact⟨k,rfl,by omega,by omega,by rw [hr.out];simp,zB2⟩
   ·rw [hpl] at hv'
    have hpl':=Lib.hid hpl;clear hpl;go_wp2_with (go_at_call 92;refine (hv'.out).mono ?_;rintro e w1 ⟨rfl,hb1⟩;have hz1:=hb1.size;try simp at hz1)
    go_roundw
    case rel =>
     refine⟨k+1,by omega,by go_num,fun j hj=>?_,zB2⟩
     by_cases e:j=k
     ·rw [e];exact hpl'.out
     ·exact hall'.out j (by omega)
    case measure=>simp [intOf];omega
  ·have hr:Hid (decide (∀ j,j<n→conds j=true)=true):=by
    show decide (∀ j,j<n→conds j=true)=true
    simp only [decide_eq_true_eq];intro j hj;exact hall j (by omega)
   clear hall;go_wp2;go_ret;exact⟨-1,rfl,by omega,by omega,by rw [hr.out];simp,hB⟩
theorem Z2m (b n:Nat) (hn:n≤1000) (cl:Nat→Value) (conds:Nat→Bool) (w:World) (hc:∀ j,j<n→w.cell? ⟨b,j,none⟩=some (cl j))
  (hC:∀ k,k<n→(∀ j,j<k→conds j=true)→∀ w1,Below w.heap.size w w1→Calls Tryz.prog 92 #[cl k] w1 fun e w'=>e=.returned (.bool (!conds k))∧Below w1.heap.size w1 w') (hb:b<w.heap.size) :
  Calls Tryz.prog 91 #[.slice (some ⟨b,0,none⟩) n n,.func (.func 92) #[] #[]] w fun e w'=>e=.returned (.bool (!decide (∀ j,j<n→conds j=true)))∧Below w.heap.size w w':=by
 have hI:=Lib.hid (Z3D b n hn cl conds w hc hC hb);clear hc hC;go_enter Tryz.func91,Tryz.ntmps91;go_wp2_with (go_at_call 129;refine Calls.mono hI.out ?_;rintro e w1 ⟨r,rfl,r1,r2,r3,hb1⟩);go_ret;exact⟨by first | rfl | exact Zq r3,hb1⟩
noncomputable def condB (m:Msn):Nat→Bool
 | 0=>sizesB m
 | 1=>waysB m.ways
 | 2=>Zb m.home
 | 3=>rocksB m.rocks
 | 4=>inB m.start 0 100000 && inB m.speed 1 20000
 | 5=>inB m.part 0 500 && inB m.flow 0 5000
 | 6=>inB m.idle 0 1000 && inB m.drive 0 1000
 | 7=>inB m.battery 0 1000000000 && inB m.deadline 0 1000000000
 | 8=>decide (grownV m≤100000)
 | _=>true
def clV (B:Nat):Nat→Value
 | 0=>.func (.func 77) #[] #[.pointer (some ⟨B,0,none⟩)]
 | 1=>.func (.func 78) #[] #[.pointer (some ⟨B,0,none⟩)]
 | 2=>.func (.func 80) #[] #[.pointer (some ⟨B,0,none⟩)]
 | 3=>.func (.func 81) #[] #[.pointer (some ⟨B,0,none⟩)]
 | 4=>.func (.func 84) #[] #[.pointer (some ⟨B,0,none⟩)]
 | 5=>.func (.func 86) #[] #[.pointer (some ⟨B,0,none⟩)]
 | 6=>.func (.func 87) #[] #[.pointer (some ⟨B,0,none⟩)]
 | 7=>.func (.func 88) #[] #[.pointer (some ⟨B,0,none⟩)]
 | _=>.func (.func 89) #[] #[.pointer (some ⟨B,0,none⟩)]
noncomputable def validB (m:Msn):Bool:=(List.range 9).all (condB m)
theorem Z3H (m:Msn):validB m=true↔∀ j,j<9→condB m j=true:=by simp [validB,List.all_eq_true]
theorem Z0O {m:Msn} (h:sizesB m=true):2≤m.ways.length∧m.ways.length≤41∧m.rocks.length≤100:=by simpa [sizesB] using h
structure VMsn (m:Msn):Prop where
 n2:2≤m.ways.length
 n41:m.ways.length≤41
 nr:m.rocks.length≤100
 ways:waysB m.ways=true
 home:Zb m.home=true
 rocks:rocksB m.rocks=true
 start:0≤m.start∧m.start≤100000
 leg:legOk m
 idle:0≤m.idle∧m.idle≤1000
 drive:0≤m.drive∧m.drive≤1000
 battery:0≤m.battery∧m.battery≤1000000000
 deadline:0≤m.deadline∧m.deadline≤1000000000
 grown:grownV m≤100000
theorem Zn (m:Msn):validB m=true↔VMsn m:=by
 rw [Z3H];constructor
 ·intro h
  have h0:=h 0 (by omega);have h1:=h 1 (by omega);have h2:=h 2 (by omega);have h3:=h 3 (by omega);have h4:=h 4 (by omega)
  have h5:=h 5 (by omega);have h6:=h 6 (by omega);have h7:=h 7 (by omega);have h8:=h 8 (by omega)
  simp only [condB,Bool.and_eq_true] at h0 h1 h2 h3 h4 h5 h6 h7 h8;have s:=Z0O h0;have a:=ZH h4.1;have b:=ZH h4.2;have c:=ZH h5.1;have d:=ZH h5.2;exact⟨s.1,s.2.1,s.2.2,h1,h2,h3,a,⟨b.1,b.2,c.1,c.2,d.1,d.2⟩,ZH h6.1,ZH h6.2,ZH h7.1,ZH h7.2,by simpa using h8⟩
 ·intro v j hj
  obtain⟨n2,n41,nr,ways,home,rocks,start,⟨l1,l2,l3,l4,l5,l6⟩,idle,drive,battery,deadline,grown⟩:=v
  match j,hj with
  | 0,_=>simp [condB,sizesB];omega
  | 1,_=>exact ways
  | 2,_=>exact home
  | 3,_=>exact rocks
  | 4,_=>simp [condB,inB];omega
  | 5,_=>simp [condB,inB];omega
  | 6,_=>simp [condB,inB];omega
  | 7,_=>simp [condB,inB];omega
  | 8,_=>simpa [condB] using grown
theorem Z9J (B:Nat) (m:Msn) (vw vh vr:Value) (w:World) (H:MsnBox w B m vw vh vr) (hm:MsnAt w.heap.size w m vw vh vr) :
  ∀ k,k<9→(∀ j,j<k→condB m j=true)→Calls Tryz.prog 92 #[clV B k] w fun e w'=>e=.returned (.bool (!condB m k))∧Below w.heap.size w w':=by
 obtain⟨hw,hh,hr⟩:=hm;intro k hk hj
 match k,hk,hj with
 | 0,_,_=>exact v10_1 _ _ w (v1_any B m vw vh vr w H hw hr)
 | 1,_,hj=>exact v10_2 _ _ w (v2_any B m vw vh vr w H hw (by have:=Z0O (hj 0 (by omega));omega))
 | 2,_,_=>exact v10_3 _ _ w (v3_any B m vw vh vr w H hh)
 | 3,_,_=>exact v10_4 _ _ w (v4_any B m vw vh vr w H hr)
 | 4,_,_=>exact v10_5 _ _ w (v5_any B m vw vh vr w H)
 | 5,_,_=>exact v10_6 _ _ w (v6_any B m vw vh vr w H)
 | 6,_,_=>exact v10_7 _ _ w (v7_any B m vw vh vr w H)
 | 7,_,_=>exact v10_8 _ _ w (v8_any B m vw vh vr w H)
 | 8, _, hj =>
  have s:=Z0O (hj 0 (by omega))
  have h4:=hj 4 (by omega)
  have h5:=hj 5 (by omega)
  simp only [condB,Bool.and_eq_true] at h4 h5;have a:=ZH h4.1;have b:=ZH h4.2;have c:=ZH h5.1;have d:=ZH h5.2;exact v10_9 _ _ w (v9_any B m vw vh vr w H ⟨b.1,b.2,c.1,c.2,d.1,d.2⟩ a hw s.1 s.2.1 (hj 1 (by omega)))
theorem Z0H (m:Msn) (vw vh vr:Value) (w:World) (hm:MsnAt w.heap.size w m vw vh vr) :
  Calls Tryz.prog 42 #[.agg (Zc m vw vh vr)] w fun e w'=>e=.returned (.bool (validB m))∧Below w.heap.size w w':=by
 have HB:MsnBox (w.alloc (.cells (Zc m vw vh vr) 26)) w.heap.size m vw vh vr:=Has.new w _ _;have hB1:Below w.heap.size w (w.alloc (.cells (Zc m vw vh vr) 26)):=(Below.refl _ _).alloc (Nat.le_refl _) _;have HB':=Lib.hid HB;have hB1':=Lib.hid hB1;have hm':=Lib.hid hm;clear HB hB1 hm;unfold Zc at *;go_enter Tryz.func42,Tryz.ntmps42;go_wp2_with fail;refine Calls.mono (Z2m (w.heap.size+1) 9 (by omega) (clV w.heap.size) (condB m) _ ?hc ?hC ?hb) ?_
 case hb=>simp
 case hc =>
  intro j hj
  match j,hj with
  | 0,_=>simp [go_sem,clV]
  | 1,_=>simp [go_sem,clV]
  | 2,_=>simp [go_sem,clV]
  | 3,_=>simp [go_sem,clV]
  | 4,_=>simp [go_sem,clV]
  | 5,_=>simp [go_sem,clV]
  | 6,_=>simp [go_sem,clV]
  | 7,_=>simp [go_sem,clV]
  | 8,_=>simp [go_sem,clV]
 case hC =>
  intro k hk hj w1 hB;have b1:=(hB1'.out.alloc (by simp) _).trans (hB.mono (by first | omega | (simp;done) | (simp;omega)))
  have h1:MsnBox w1 w.heap.size m vw vh vr:=by
   refine (Has.below HB'.out ?_ (by simp:w.heap.size<w.heap.size+1))
   exact (((Below.refl _ _).alloc (by simp) _).trans (hB.mono (by first | omega | (simp;done) | (simp;omega))))
  exact Z9J w.heap.size m vw vh vr w1 h1 ((hm'.out.below b1).mono b1.size) k hk hj
 rintro e w1 ⟨rfl,hb1⟩;go_wp2;go_ret;refine⟨Zq ?_,?_⟩
 ·rw [Bool.eq_iff_iff,Z3H];simp
 ·exact (hB1'.out.alloc (by simp) _).trans (hb1.mono (by first | omega | (simp;done) | (simp;omega)))
def ixB (m:Msn) (i:Int):Bool:=decide (0≤i∧i<m.ways.length)
theorem Z2Q {m:Msn} {i:Int} (h:ixB m i=true):∃ k:Nat,i=k∧k<m.ways.length:=by
 have:0≤i∧i<m.ways.length:=by simpa [ixB] using h
 exact⟨i.toNat,by omega,by omega⟩
theorem Z5c {m:Msn} {i:Int} (h:ixB m i=false):i<0∨(0≤i∧(m.ways.length:Int)≤i):=by
 have:¬ (0≤i∧i<m.ways.length):=by simpa [ixB] using h
 omega
theorem Z5b {m:Msn} {k:Nat} (h:k<m.ways.length):ixB m k=true:=by simp [ixB];omega
theorem Z2O (m : Msn) (vw vh vr : Value) (i : Int) (w : World) (hm : MsnAt w.heap.size w m vw vh vr) :
  Calls Tryz.prog 98 #[.agg (Zc m vw vh vr),.int .i64 i] w fun e w'=>e=.returned (.bool (validB m && ixB m i))∧Below w.heap.size w w':=by
 have hv:=Lib.hid (Z0H m vw vh vr (w.alloc (.cells (Zc m vw vh vr) 26)) ((hm.below ((Below.refl _ _).alloc (Nat.le_refl _) _)).mono (by simp)))
 obtain⟨⟨hl,a,cap,rfl,_⟩,_,_⟩:=hm;unfold Zc at *;cases h:validB m
 ·rw [h] at hv
  have h':=Lib.hid h;clear h;go_enter Tryz.func98,Tryz.ntmps98;go_wp2_with (go_at_call 42;refine (hv.out).mono ?_;rintro e w1 ⟨rfl,hb1⟩;obtain⟨hc1,hf1⟩:=bcell hb1;have hz1:=hb1.size;try simp at hz1)
  go_ret;exact⟨rfl,zB2⟩
 ·rw [h] at hv
  have h':=Lib.hid h;clear h;cases hi:ixB m i
  ·rcases Z5c hi with h1 | ⟨h1,h2⟩
   ·have d1:decide (0≤i)=false:=by simp;omega
    clear hi h1;go_enter Tryz.func98,Tryz.ntmps98;go_wp2_with (go_at_call 42;refine (hv.out).mono ?_;rintro e w1 ⟨rfl,hb1⟩;obtain⟨hc1,hf1⟩:=bcell hb1;have hz1:=hb1.size;try simp at hz1)
    go_ret;exact⟨rfl,zB2⟩
   ·have d1:decide (0≤i)=true:=by simp;omega
    have d2:decide (i<(m.ways.length:Int))=false:=by simp;omega
    clear hi h1 h2;go_enter Tryz.func98,Tryz.ntmps98;go_wp2_with (go_at_call 42;refine (hv.out).mono ?_;rintro e w1 ⟨rfl,hb1⟩;obtain⟨hc1,hf1⟩:=bcell hb1;have hz1:=hb1.size;try simp at hz1)
    go_ret;exact⟨rfl,zB2⟩
  ·obtain⟨k,rfl,hk⟩:=Z2Q hi
   clear hi;go_enter Tryz.func98,Tryz.ntmps98;go_wp2_with (go_at_call 42;refine (hv.out).mono ?_;rintro e w1 ⟨rfl,hb1⟩;obtain⟨hc1,hf1⟩:=bcell hb1;have hz1:=hb1.size;try simp at hz1)
   go_ret;exact⟨rfl,zB2⟩
theorem leg_no (m:Msn) (vw vh vr:Value) (i j:Int) (w:World) (hm:MsnAt w.heap.size w m vw vh vr) (hE:(validB m && ixB m i && ixB m j)=false) :
  Calls Tryz.prog 53 #[.agg (Zc m vw vh vr),.int .i64 i,.int .i64 j] w fun e w'=>e=.returned (.tuple #[.int .i64 0,.int .i64 0,.int .i64 0,.int .i64 1])∧Below w.heap.size w w':=by
 have hv:=Lib.hid (Z2O m vw vh vr i (w.alloc (.cells (Zc m vw vh vr) 26)) ((hm.below ((Below.refl _ _).alloc (Nat.le_refl _) _)).mono (by simp)))
 obtain⟨⟨hl,a,cap,rfl,_⟩,_,_⟩:=hm;unfold Zc at *;cases h:validB m && ixB m i
 ·rw [h] at hv
  have h':=Lib.hid h;clear h hE;go_enter Tryz.func53,Tryz.ntmps53;go_wp2_with (go_at_call 98;refine (hv.out).mono ?_;rintro e w1 ⟨rfl,hb1⟩;obtain⟨hc1,hf1⟩:=bcell hb1;have hz1:=hb1.size;try simp at hz1)
  refine bodyPost_ret (v:=.tuple #[.int .i64 0,.int .i64 0,.int .i64 0,.int .i64 1]) (by simp [results,Tryz.f53,go_sem]) rfl ⟨rfl,zB2⟩
 ·rw [h] at hv hE
  have hj:ixB m j=false:=by simpa using hE
  have h':=Lib.hid h;clear h hE;rcases Z5c hj with h1 | ⟨h1,h2⟩
  ·have d1:decide (j<0)=true:=by simp;omega
   clear hj h1;go_enter Tryz.func53,Tryz.ntmps53;go_wp2_with (go_at_call 98;refine (hv.out).mono ?_;rintro e w1 ⟨rfl,hb1⟩;obtain⟨hc1,hf1⟩:=bcell hb1;have hz1:=hb1.size;try simp at hz1)
   refine bodyPost_ret (v:=.tuple #[.int .i64 0,.int .i64 0,.int .i64 0,.int .i64 1]) (by simp [results,Tryz.f53,go_sem]) rfl ⟨rfl,zB2⟩
  ·have d1:decide (j<0)=false:=by simp;omega
   have d2:decide ((m.ways.length:Int)≤j)=true:=by simp;omega
   clear hj h1 h2;go_enter Tryz.func53,Tryz.ntmps53;go_wp2_with (go_at_call 98;refine (hv.out).mono ?_;rintro e w1 ⟨rfl,hb1⟩;obtain⟨hc1,hf1⟩:=bcell hb1;have hz1:=hb1.size;try simp at hz1)
   refine bodyPost_ret (v:=.tuple #[.int .i64 0,.int .i64 0,.int .i64 0,.int .i64 1]) (by simp [results,Tryz.f53,go_sem]) rfl ⟨rfl,zB2⟩
theorem Z8U (m:Msn) (vw vh vr:Value) (i j:Nat) (w:World) (hm:MsnAt w.heap.size w m vw vh vr) (hV:validB m=true) (hi:i<m.ways.length) (hj:j<m.ways.length) :
  Calls Tryz.prog 53 #[.agg (Zc m vw vh vr),.int .i64 i,.int .i64 j] w fun e w'=>e=.returned (.tuple #[.int .i64 (dLeg m i j),.int .i64 (tLeg m i j),.int .i64 (gLeg m i j),.int .i64 0])∧Below w.heap.size w w':=by
 have hv:=Z2O m vw vh vr i (w.alloc (.cells (Zc m vw vh vr) 26)) ((hm.below ((Below.refl _ _).alloc (Nat.le_refl _) _)).mono (by simp))
 rw [hV,Z5b hi] at hv;have hv:=Lib.hid hv;obtain⟨⟨hl,a,cap,rfl,hc⟩,_,_⟩:=hm;obtain⟨b,o,rfl,hb,hc2⟩:∃ b o,a=some ⟨b,o,none⟩∧b<w.heap.size∧∀ j,j<m.ways.length→w.cell? ⟨b,o+j*5,none⟩=some (.int .i64 (wy m.ways j).x)∧w.cell? ⟨b,o+j*5+1,none⟩=some (.int .i64 (wy m.ways j).y)∧w.cell? ⟨b,o+j*5+2,none⟩=some (.int .i64 (wy m.ways j).fix)∧w.cell? ⟨b,o+j*5+3,none⟩=some (.int .i64 (wy m.ways j).wait)∧w.cell? ⟨b,o+j*5+4,none⟩=some (.int .i64 (wy m.ways j).back):=by
  rcases hc with h0 | h
  ·rw [h0] at hi;simp at hi
  ·exact h
 clear hc;have V:=(Zn m).1 hV;have hl1:=fun w1=>Z66 m (.slice (some ⟨b,o,none⟩) m.ways.length (m.ways.length+cap)) vh vr (wy m.ways i).x (wy m.ways i).y (wy m.ways j).x (wy m.ways j).y w1 V.leg (ZG V.ways hi) (ZG V.ways hj)
 unfold legVal at hl1;have hl1':=Lib.hid hl1;have V':=Lib.hid V;obtain⟨u0,u1,_,_,_⟩:=hc2 i hi;obtain⟨v0,v1,_,_,_⟩:=hc2 j hj;unfold dLeg tLeg gLeg dLeg;generalize distV (wy m.ways i).x (wy m.ways i).y (wy m.ways j).x (wy m.ways j).y=d at *;generalize lastsV m.speed d=t at *;generalize growthV m.speed m.part m.flow d=g at *;have HH:=Has.new w (Zc m (.slice (some ⟨b,o,none⟩) m.ways.length (m.ways.length+cap)) vh vr) 26;have H':=Lib.hid HH;have hk1:(i:Int)<m.ways.length:=by omega
 have hk2:(j:Int)<m.ways.length:=by omega
 clear hl1 V hc2 HH hV;unfold Zc at *;go_enter Tryz.func53,Tryz.ntmps53;go_wp2_with (go_at_call 98;refine (hv.out).mono ?_;rintro e w1 ⟨rfl,hb1⟩;obtain⟨hc1,hf1⟩:=bcell hb1;have hz1:=hb1.size;try simp at hz1)
 have B1:Below (w.heap.size+1) _ w1:=hb1.mono (by simp)
 have H1:=Has.below H'.out B1 (by omega)
 have W1:Below w.heap.size w w1:=((Below.refl _ w).alloc (Nat.le_refl _) _).trans (hb1.mono (by simp))
 obtain⟨c0,c1,c2,c3,c4,c5,c6,c7,c8,c9,c10⟩:=Z0T (m:=m) (vw:=.slice (some ⟨b,o,none⟩) m.ways.length (m.ways.length+cap)) (vh:=vh) (vr:=vr) H1;have lu0:=Low.fact ((W1.cell (p:=⟨b,o+i*5,none⟩) hb).trans u0);have lu1:=Low.fact ((W1.cell (p:=⟨b,o+i*5+1,none⟩) hb).trans u1);have lv0:=Low.fact ((W1.cell (p:=⟨b,o+j*5,none⟩) hb).trans v0);have lv1:=Low.fact ((W1.cell (p:=⟨b,o+j*5+1,none⟩) hb).trans v1);have z1:b<w1.heap.size:=by omega
 have z2:w.heap.size<w1.heap.size:=by omega
 have i0:(0:Int)≤i:=by omega
 have j0:(0:Int)≤j:=by omega
 clear u0 u1 v0 v1 H1 hb1 hc1 hf1 B1
 (refine (wpIn_wide (n:=9)).1 ?_;refine Z1w (Zt _) 15 14 10 _ 134 #[.int .i64 0,.int .i64 0,.int .i64 0] rfl rfl rfl (by decide) (by kernel_rfl) (by kernel_rfl) (by kernel_rfl) (by kernel_rfl) (by kernel_rfl) ?hal ?_;(case hal=>(intro a1 w1;go_simp));simp only [List.set_cons_succ,List.set_cons_zero,List.take_succ_cons,List.take_zero,List.drop_succ_cons,List.drop_zero];(iterate 15 (apply Zan;(case hw=>rfl);(case hval=>(intro w1 hw1;have hcx:=Low.cells hw1;simp only [lowAt];go_simp;first | done | (first | (go_at_call 100;with_reducible exact (hl1'.out _))) | rfl | exact⟨rfl,rfl⟩));simp only [Act.put,zq4,zr4,zs4]));refine Zbi ?_;intro w2 m2 hw2 hm2 hx2)
 have x0:=Zk hx2 (i:=0) rfl;have x1:=Zk hx2 (i:=1) rfl;have x2:=Zk hx2 (i:=2) rfl;have y0:=Zf hx2 0;have y1:=Zf hx2 1;have y2:=Zf hx2 2;gi_wp2;go_wp2
 go_quiet (fail)
 go_wp2;refine bodyPost_ret (v:=.tuple #[.int .i64 d,.int .i64 t,.int .i64 g,.int .i64 0]) (by simp [results,Tryz.f53,go_sem]) rfl ⟨rfl,?_⟩
 have Bf:Below w.heap.size w w2:=W1.trans (hw2.out.mono (by omega))
 have hm3:w.heap.size≤m2:=by omega
 exact Z6s (((Bf.setCell hm3 _).setCell hm3 _).setCell hm3 _) _
theorem WaysAt.cells {n0:Nat} {W:World} {v:Value} {l:List Wy} (h:WaysAt n0 W v l) (h0:0<l.length):∃ b o cap,v=.slice (some ⟨b,o,none⟩) l.length (l.length+cap)∧b<n0∧∀ j,j<l.length →
  W.cell? ⟨b,o+j*5,none⟩=some (.int .i64 (wy l j).x)∧W.cell? ⟨b,o+j*5+1,none⟩=some (.int .i64 (wy l j).y)∧W.cell? ⟨b,o+j*5+2,none⟩=some (.int .i64 (wy l j).fix)∧W.cell? ⟨b,o+j*5+3,none⟩=some (.int .i64 (wy l j).wait)∧W.cell? ⟨b,o+j*5+4,none⟩=some (.int .i64 (wy l j).back):=by
 obtain⟨_,a,cap,rfl,hc⟩:=h;rcases hc with h | ⟨b,o,rfl,hb,hc⟩
 ·rw [h] at h0;simp at h0
 ·exact⟨b,o,cap,rfl,hb,hc⟩
theorem Za0 (k:Nat) (x y fix wait back:Int):wayB k ⟨x,y,fix,wait,back⟩=(inB x (-300000) 300000 && inB y (-300000) 300000 && inB fix 0 100000 && inB wait 0 100000 && !(decide (fix=0) && decide (0<wait)) && inB back 0 ((k-1:Nat):Int)):=by
 rw [Bool.eq_iff_iff];simp [wayB,inB];omega
theorem Za5 (m : Msn) (vw vh vr : Value) (k : Nat) (w : World) (hw : WaysAt w.heap.size w vw m.ways) (hk : k < m.ways.length) (hk2 : k ≤ 1000000) :
  Calls Tryz.prog 37 #[.agg (Zc m vw vh vr),.int .i64 k] w fun e w'=>e=.returned (.bool (wayB k (wy m.ways k)))∧Below w.heap.size w w':=by
 obtain⟨b,o,cap,rfl,hb,hc⟩:=hw.cells (by omega)
 obtain⟨x,y,fix,wait,back,hy⟩:∃ x y fix wait back,wy m.ways k=⟨x,y,fix,wait,back⟩:=⟨_,_,_,_,_,rfl⟩;obtain⟨u0,u1,u2,u3,u4⟩:=hc k hk;rw [hy] at u0 u1 u2 u3 u4 ⊢;dsimp only at u0 u1 u2 u3 u4;clear hc hy hw;rw [Za0];have hkk:(k:Int)<m.ways.length:=by omega
 unfold Zc;cases h1:inB x (-300000) 300000
 ·go_enter Tryz.func37,Tryz.ntmps37
  go_wp2_with (go_at_call 65;refine (ZM _ _ _ _).mono ?_;rintro e w' ⟨rfl,rfl⟩);go_ret;exact⟨rfl,zB2⟩
 cases h2:inB y (-300000) 300000
 ·go_enter Tryz.func37,Tryz.ntmps37
  go_wp2_with (go_at_call 65;refine (ZM _ _ _ _).mono ?_;rintro e w' ⟨rfl,rfl⟩);go_ret;exact⟨rfl,zB2⟩
 cases h3:inB fix 0 100000
 ·go_enter Tryz.func37,Tryz.ntmps37
  go_wp2_with (go_at_call 65;refine (ZM _ _ _ _).mono ?_;rintro e w' ⟨rfl,rfl⟩);go_ret;exact⟨rfl,zB2⟩
 cases h4:inB wait 0 100000
 ·go_enter Tryz.func37,Tryz.ntmps37
  go_wp2_with (go_at_call 65;refine (ZM _ _ _ _).mono ?_;rintro e w' ⟨rfl,rfl⟩);go_ret;exact⟨rfl,zB2⟩
 have f:=(ZH h3).1;by_cases hf:fix=0
 ·have d1 : decide (fix = 0) = true := by simpa using hf
  by_cases hwt:0<wait
  ·have d:decide (0<wait)=true:=by simpa using hwt
   have E:(true && true && true && true && !(decide (fix=0) && decide (0<wait)) && inB back 0 ((k-1:Nat):Int))=false:=by rw [d1,d];rfl
   rw [E];clear E d1;subst hf;go_enter Tryz.func37,Tryz.ntmps37;go_wp2_with (go_at_call 65;refine (ZM _ _ _ _).mono ?_;rintro e w' ⟨rfl,rfl⟩);go_ret;exact⟨rfl,zB2⟩
  ·have d:decide (0<wait)=false:=by simpa using hwt
   clear hwt;have E:(true && true && true && true && !(decide (fix=0) && decide (0<wait)) && inB back 0 ((k-1:Nat):Int))=inB back 0 ((k-1:Nat):Int):=by rw [d1,d];simp
   rw [E];clear E d1;subst hf;cases h5:inB back 0 ((k-1:Nat):Int)
   all_goals
    rcases k with _ | n
    ·simp only [Nat.zero_sub,Int.natCast_zero,Nat.zero_mul,Nat.add_zero] at h5 hkk u0 u1 u2 u3 u4 ⊢
     go_enter Tryz.func37,Tryz.ntmps37;go_wp2_with (go_at_call 65;refine (ZM _ _ _ _).mono ?_;rintro e w' ⟨rfl,rfl⟩);go_ret;exact⟨rfl,zB2⟩
    ·rcases n with _ | n
     ·simp only [Nat.zero_add,Nat.sub_self,Int.natCast_zero,Int.natCast_one,Nat.one_mul] at h5 hkk u0 u1 u2 u3 u4 ⊢
      go_enter Tryz.func37,Tryz.ntmps37;go_wp2_with (go_at_call 65;refine (ZM _ _ _ _).mono ?_;rintro e w' ⟨rfl,rfl⟩);go_ret;exact⟨rfl,zB2⟩
     ·have e:((n+1+1-1:Nat):Int)=(n:Int)+1:=by omega
      rw [e] at h5;clear e;go_enter Tryz.func37,Tryz.ntmps37;go_wp2_with (go_at_call 65;refine (ZM _ _ _ _).mono ?_;rintro e w' ⟨rfl,rfl⟩);go_ret;exact⟨rfl,zB2⟩
 ·have d0:(fix == 0)=false:=by simpa using hf
  have d1:decide (fix=0)=false:=by simpa using hf
  clear hf;have E:(true && true && true && true && !(decide (fix=0) && decide (0<wait)) && inB back 0 ((k-1:Nat):Int))=inB back 0 ((k-1:Nat):Int):=by rw [d1];simp
  rw [E];clear E;cases h5:inB back 0 ((k-1:Nat):Int)
  all_goals
   rcases k with _ | n
   ·simp only [Nat.zero_sub,Int.natCast_zero,Nat.zero_mul,Nat.add_zero] at h5 hkk u0 u1 u2 u3 u4 ⊢
    go_enter Tryz.func37,Tryz.ntmps37;go_wp2_with (go_at_call 65;refine (ZM _ _ _ _).mono ?_;rintro e w' ⟨rfl,rfl⟩);go_ret;exact⟨rfl,zB2⟩
   ·rcases n with _ | n
    ·simp only [Nat.zero_add,Nat.sub_self,Int.natCast_zero,Int.natCast_one,Nat.one_mul] at h5 hkk u0 u1 u2 u3 u4 ⊢
     go_enter Tryz.func37,Tryz.ntmps37;go_wp2_with (go_at_call 65;refine (ZM _ _ _ _).mono ?_;rintro e w' ⟨rfl,rfl⟩);go_ret;exact⟨rfl,zB2⟩
    ·have e:((n+1+1-1:Nat):Int)=(n:Int)+1:=by omega
     rw [e] at h5;clear e;go_enter Tryz.func37,Tryz.ntmps37;go_wp2_with (go_at_call 65;refine (ZM _ _ _ _).mono ?_;rintro e w' ⟨rfl,rfl⟩);go_ret;exact⟨rfl,zB2⟩
theorem Z7D (m:Msn) (vw vh vr:Value) (w:World) :
  Calls Tryz.prog 39 #[.agg (Zc m vw vh vr)] w fun e w'=>e=.returned (.bool (inB m.start 0 100000 && inB m.speed 1 20000 && inB m.part 0 500 && inB m.flow 0 5000 && inB m.idle 0 1000 && inB m.drive 0 1000 && inB m.battery 0 1000000000 && inB m.deadline 0 1000000000))∧Below w.heap.size w w':=by
 unfold Zc;cases h1:inB m.start 0 100000
 ·go_enter Tryz.func39,Tryz.ntmps39
  go_wp2_with (go_at_call 65;refine (ZM _ _ _ _).mono ?_;rintro e w' ⟨rfl,rfl⟩);go_ret;exact⟨rfl,zB2⟩
 cases h2:inB m.speed 1 20000
 ·go_enter Tryz.func39,Tryz.ntmps39
  go_wp2_with (go_at_call 65;refine (ZM _ _ _ _).mono ?_;rintro e w' ⟨rfl,rfl⟩);go_ret;exact⟨rfl,zB2⟩
 cases h3:inB m.part 0 500
 ·go_enter Tryz.func39,Tryz.ntmps39
  go_wp2_with (go_at_call 65;refine (ZM _ _ _ _).mono ?_;rintro e w' ⟨rfl,rfl⟩);go_ret;exact⟨rfl,zB2⟩
 cases h4:inB m.flow 0 5000
 ·go_enter Tryz.func39,Tryz.ntmps39
  go_wp2_with (go_at_call 65;refine (ZM _ _ _ _).mono ?_;rintro e w' ⟨rfl,rfl⟩);go_ret;exact⟨rfl,zB2⟩
 cases h5:inB m.idle 0 1000
 ·go_enter Tryz.func39,Tryz.ntmps39
  go_wp2_with (go_at_call 65;refine (ZM _ _ _ _).mono ?_;rintro e w' ⟨rfl,rfl⟩);go_ret;exact⟨rfl,zB2⟩
 cases h6:inB m.drive 0 1000
 ·go_enter Tryz.func39,Tryz.ntmps39
  go_wp2_with (go_at_call 65;refine (ZM _ _ _ _).mono ?_;rintro e w' ⟨rfl,rfl⟩);go_ret;exact⟨rfl,zB2⟩
 cases h7:inB m.battery 0 1000000000
 ·go_enter Tryz.func39,Tryz.ntmps39
  go_wp2_with (go_at_call 65;refine (ZM _ _ _ _).mono ?_;rintro e w' ⟨rfl,rfl⟩);go_ret;exact⟨rfl,zB2⟩
 go_enter Tryz.func39,Tryz.ntmps39;go_wp2_with (go_at_call 65;refine (ZM _ _ _ _).mono ?_;rintro e w' ⟨rfl,rfl⟩);go_ret;exact⟨rfl,zB2⟩
theorem Low.tr {a b c:World} (h:Low a b) (k:Low b c):Low a c:=h.out.trans (k.out.mono h.out.size)
theorem Z7p (m:Msn) (vw vh vr:Value) (w:World) (hm:legOk m) (hs:0≤m.start∧m.start≤100000) (hw:WaysAt w.heap.size w vw m.ways) (h2:2≤m.ways.length) (h41:m.ways.length≤41) (hwb:waysB m.ways=true) :
  Calls Tryz.prog 40 #[.agg (Zc m vw vh vr)] w fun e w'=>e=.returned (.int .i64 (grownV m))∧Below w.heap.size w w':=by
 obtain⟨b,o,cap,rfl,hb,hc2⟩:=hw.cells (by omega)
 have hcH:=Lib.hid hc2;have hwbH:=Lib.hid hwb;have hmH:=Lib.hid hm;have H0:Has (w.alloc (.cells (Zc m (.slice (some ⟨b,o,none⟩) m.ways.length (m.ways.length+cap)) vh vr) 26)) w.heap.size (Zc m (.slice (some ⟨b,o,none⟩) m.ways.length (m.ways.length+cap)) vh vr) 26:=Has.new w _ _;have H0H:=Lib.hid H0;clear hc2 hwb hm H0 hw;unfold Zc;go_enter Tryz.func40,Tryz.ntmps40;go_wp2
 go_loopw [3,4] (fun s i wr=>∃ k:Nat,k+1≤m.ways.length∧i=.int .i64 ((k:Int)+1)∧s=.int .i64 (grownTo m k)∧Has wr w.heap.size (Zc m (.slice (some ⟨b,o,none⟩) m.ways.length (m.ways.length+cap)) vh vr) 26∧Below w.heap.size w wr) (fun _ i _=>m.ways.length-(intOf i).toNat)
 case atStart=>exact⟨0,by omega,rfl,rfl,H0H.out,(Below.refl _ _).alloc (Nat.le_refl _) _⟩
 case round =>
  obtain⟨k,hk,rfl,rfl,H,hB⟩:=hrel;have cc0:=(Zh (m:=m) (vh:=vh) (vr:=vr) H).1;by_cases hlt:(k:Int)+1<(m.ways.length:Int)
  ·have hz:=hB.size
   have hlt':k+1<m.ways.length:=by omega
   have bk:=Z0i hwbH.out hlt';obtain⟨q,hq⟩:∃ q:Nat,(wy m.ways (k+1)).back=q:=⟨_,(Int.toNat_of_nonneg bk.1).symm⟩;rw [hq] at bk;have hql:q<m.ways.length:=by omega
   have hg:grownTo m (k+1)=grownTo m k+(gLeg m k (k+1)+gLeg m (k+1) q):=by rw [grownTo,hq];rfl
   have gb:=Z2f hmH.out hs hwbH.out k (by omega)
   have g1:=Z03 hmH.out hwbH.out (i:=k) (j:=k+1) (by omega) hlt'
   have g2:=Z03 hmH.out hwbH.out (i:=k+1) (j:=q) hlt' hql;obtain⟨m1,m2,m3,m4,m5,m6⟩:=hmH.out;obtain⟨y1,y2,y3,y4⟩:=ZG hwbH.out (j:=k) (by omega)
   obtain⟨x1,x2,x3,x4⟩:=ZG hwbH.out hlt';obtain⟨r1,r2,r3,r4⟩:=ZG hwbH.out hql;have hl1:=fun w1=>Z0K (wy m.ways k).x (wy m.ways k).y (wy m.ways (k+1)).x (wy m.ways (k+1)).y w1 y1 y2 y3 y4 x1 x2 x3 x4
   have hl2:=fun w1=>Z0K (wy m.ways (k+1)).x (wy m.ways (k+1)).y (wy m.ways q).x (wy m.ways q).y w1 x1 x2 x3 x4 r1 r2 r3 r4
   have d1:=Z0V hwbH.out (i:=k) (j:=k+1) (by omega) hlt'
   have d2:=Z0V hwbH.out (i:=k+1) (j:=q) hlt' hql;have hh1:=fun w1=>Z0P m (.slice (some ⟨b,o,none⟩) m.ways.length (m.ways.length+cap)) vh vr (dLeg m k (k+1)) w1 d1.1 d1.2 m1 m2 m3 m4 m5 m6
   have hh2:=fun w1=>Z0P m (.slice (some ⟨b,o,none⟩) m.ways.length (m.ways.length+cap)) vh vr (dLeg m (k+1) q) w1 d2.1 d2.2 m1 m2 m3 m4 m5 m6
   change ∀ w1,Calls _ _ _ _ fun e w'=>e=.returned (.int .i64 (dLeg m k (k+1)))∧_ at hl1
   change ∀ w1,Calls _ _ _ _ fun e w'=>e=.returned (.int .i64 (dLeg m (k+1) q))∧_ at hl2
   change ∀ w1,Calls _ _ _ _ fun e w'=>e=.returned (.int .i64 (gLeg m k (k+1)))∧_ at hh1
   change ∀ w1,Calls _ _ _ _ fun e w'=>e=.returned (.int .i64 (gLeg m (k+1) q))∧_ at hh2
   generalize hd1:dLeg m k (k+1)=l1 at hl1 hh1;generalize hd2:dLeg m (k+1) q=l2 at hl2 hh2;obtain⟨e1,he1⟩:∃ e1,gLeg m k (k+1)=e1:=⟨_,rfl⟩;obtain⟨e2,he2⟩:∃ e2,gLeg m (k+1) q=e2:=⟨_,rfl⟩;obtain⟨t,ht⟩:∃ t,grownTo m k=t:=⟨_,rfl⟩;rw [he1,he2,ht] at hg;rw [ht] at gb ⊢;rw [he1] at g1 hh1;rw [he2] at g2 hh2;have a1:IntKind.i64.wrap (t+e1)=t+e1:=zW2;have a2:IntKind.i64.wrap (t+e1+e2)=t+e1+e2:=zW2;have a3:IntKind.i64.wrap (k:Int)=k:=zW2;obtain⟨u0,u1,_,_,_⟩:=hcH.out k (by omega)
   obtain⟨p0,p1,_,_,p4⟩:=hcH.out (k+1) hlt';obtain⟨v0,v1,_,_,_⟩:=hcH.out q hql;rw [hq] at p4;obtain⟨c0,c1,c2,c3,c4,c5,c6,c7,c8,c9,c10⟩:=Z0T H;have lu0:=Low.fact ((hB.cell (p:=⟨b,o+k*5,none⟩) hb).trans u0);have lu1:=Low.fact ((hB.cell (p:=⟨b,o+k*5+1,none⟩) hb).trans u1);have lp0:=Low.fact ((hB.cell (p:=⟨b,o+(k+1)*5,none⟩) hb).trans p0);have lp1:=Low.fact ((hB.cell (p:=⟨b,o+(k+1)*5+1,none⟩) hb).trans p1);have lp4:=Low.fact ((hB.cell (p:=⟨b,o+(k+1)*5+4,none⟩) hb).trans p4);have lv0:=Low.fact ((hB.cell (p:=⟨b,o+q*5,none⟩) hb).trans v0);have lv1:=Low.fact ((hB.cell (p:=⟨b,o+q*5+1,none⟩) hb).trans v1);have hg':=Lib.hid hg;have HH:=Lib.hid H;have hl1':=Lib.hid hl1;have hl2':=Lib.hid hl2;have hh1':=Lib.hid hh1;have hh2':=Lib.hid hh2;have kl:k<m.ways.length:=by omega
   have kl':(k:Int)<(m.ways.length:Int):=by omega
   have k1:(0:Int)≤(k:Int)+1:=by omega
   have k2:((k:Int)+1).toNat=k+1:=by omega
   have ql':(q:Int)<(m.ways.length:Int):=by omega
   clear u0 u1 p0 p1 p4 v0 v1 hg H hq he1 he2 ht hl1 hl2 hh1 hh2 hd1 hd2 m1 m2 m3 m4 m5 m6 x1 x2 x3 x4 y1 y2 y3 y4 r1 r2 r3 r4;unfold Zc at *;go_wp2
   (refine Ze (by kernel_rfl) (by kernel_rfl) ?_;(iterate 19 (apply Zd;(case hw=>rfl);(case hval=>(intro w1 hw1;have hcx:=Low.cells hw1;simp only [Oper.quietAt];go_simp;first | done | (first | (go_at_call 70;with_reducible exact (Low.calls hw1 (hl1'.out _))) | (go_at_call 69;with_reducible exact (Low.calls hw1 (hh1'.out _)))) | rfl | exact⟨rfl,rfl⟩));simp only [Act.put,zq4,zr4,zs4]));refine wpQuiet_nil ?_;intro w2 hw2)
   obtain⟨wa,rfl⟩:∃ wa,wa=w2:=⟨_,rfl⟩;have hwa:=hw2;clear hw2;replace c0:=fun w1 (h:Low wa w1)=>c0 w1 (Low.tr hwa h)
   replace c1:=fun w1 (h:Low wa w1)=>c1 w1 (Low.tr hwa h)
   replace c2:=fun w1 (h:Low wa w1)=>c2 w1 (Low.tr hwa h)
   replace c3:=fun w1 (h:Low wa w1)=>c3 w1 (Low.tr hwa h)
   replace c4:=fun w1 (h:Low wa w1)=>c4 w1 (Low.tr hwa h)
   replace c5:=fun w1 (h:Low wa w1)=>c5 w1 (Low.tr hwa h)
   replace c6:=fun w1 (h:Low wa w1)=>c6 w1 (Low.tr hwa h)
   replace c7:=fun w1 (h:Low wa w1)=>c7 w1 (Low.tr hwa h)
   replace c8:=fun w1 (h:Low wa w1)=>c8 w1 (Low.tr hwa h)
   replace c9:=fun w1 (h:Low wa w1)=>c9 w1 (Low.tr hwa h)
   replace c10:=fun w1 (h:Low wa w1)=>c10 w1 (Low.tr hwa h)
   replace lp0:=fun w1 (h:Low wa w1)=>lp0 w1 (Low.tr hwa h)
   replace lp1:=fun w1 (h:Low wa w1)=>lp1 w1 (Low.tr hwa h)
   replace lp4:=fun w1 (h:Low wa w1)=>lp4 w1 (Low.tr hwa h)
   replace lv0:=fun w1 (h:Low wa w1)=>lv0 w1 (Low.tr hwa h)
   replace lv1:=fun w1 (h:Low wa w1)=>lv1 w1 (Low.tr hwa h)
   have hza:=hwa.out.size;go_wp2
   (refine Ze (by kernel_rfl) (by kernel_rfl) ?_;(iterate 23 (apply Zd;(case hw=>rfl);(case hval=>(intro w1 hw1;have hcx:=Low.cells hw1;simp only [Oper.quietAt];go_simp;first | done | (first | (go_at_call 70;with_reducible exact (Low.calls hw1 (hl2'.out _))) | (go_at_call 69;with_reducible exact (Low.calls hw1 (hh2'.out _)))) | rfl | exact⟨rfl,rfl⟩));simp only [Act.put,zq4,zr4,zs4]));refine wpQuiet_nil ?_;intro w2 hw2)
   have hW:=Low.tr hwa hw2;go_wp2;go_roundw
   case rel=>exact⟨k+1,by omega,by go_num,by rw [hg'.out,Int.add_assoc],HH.out.below hW.out HH.out.lt,hB.trans (hW.out.mono hB.size)⟩
   case measure=>simp [intOf];omega
  ·obtain rfl:k=m.ways.length-1:=by omega
   have hms:(((m.ways.length-1:Nat):Int))=(m.ways.length:Int)-1:=by omega
   have hd:decide (((m.ways.length-1:Nat):Int)+1<(m.ways.length:Int))=false:=by simp;omega
   clear hms;go_wp2;go_ret;exact⟨rfl,hB⟩
theorem Z13 {m:Msn} (h:¬ VMsn m):validB m=false:=by
 cases e:validB m
 ·rfl
 ·exact absurd ((Zn m).1 e) h
def limitsB (m:Msn):Bool:=inB m.start 0 100000 && inB m.speed 1 20000 && inB m.part 0 500 && inB m.flow 0 5000 && inB m.idle 0 1000 && inB m.drive 0 1000 && inB m.battery 0 1000000000 && inB m.deadline 0 1000000000
theorem Z3d (m:Msn):limitsB m=true↔(0≤m.start∧m.start≤100000)∧legOk m∧(0≤m.idle∧m.idle≤1000)∧(0≤m.drive∧m.drive≤1000)∧(0≤m.battery∧m.battery≤1000000000)∧(0≤m.deadline∧m.deadline≤1000000000):=by
 simp [limitsB,inB,legOk];omega
theorem VMsn.limits {m:Msn} (v:VMsn m):limitsB m=true:=(Z3d m).2 ⟨v.start,v.leg,v.idle,v.drive,v.battery,v.deadline⟩
theorem Z4w (m:Msn) (vw vh vr:Value) (w:World) (hm:MsnAt w.heap.size w m vw vh vr) (h:sizesB m=false) :
  Calls Tryz.prog 18 #[.agg (Zc m vw vh vr)] w fun e w'=>e=.returned (.bool (validB m))∧Below w.heap.size w w':=by
 rw [Z13 (fun v=>by
  have:sizesB m=true:=by simp [sizesB];have:=v.n2;have:=v.n41;have:=v.nr;omega
  rw [h] at this;cases this)]
 obtain⟨⟨_,a1,cap1,rfl,_⟩,_,⟨_,a2,cap2,rfl,_⟩⟩:=hm;unfold Zc;by_cases h1:m.ways.length<2
 ·have d1:decide ((m.ways.length:Int)<2)=true:=by simp;omega
  clear h;go_enter Tryz.func18,Tryz.ntmps18;go_wp2;go_ret;exact⟨rfl,zB2⟩
 ·have d1:decide ((m.ways.length:Int)<2)=false:=by simp;omega
  by_cases h2:41<m.ways.length
  ·have d2:decide (41<(m.ways.length:Int))=true:=by simp;omega
   clear h h1 h2;go_enter Tryz.func18,Tryz.ntmps18;go_wp2;go_ret;exact⟨rfl,zB2⟩
  ·have d2:decide (41<(m.ways.length:Int))=false:=by simp;omega
   have h3:100<m.rocks.length:=by simp [sizesB] at h;omega
   have d3:decide (100<(m.rocks.length:Int))=true:=by simp;omega
   clear h h1 h2 h3;go_enter Tryz.func18,Tryz.ntmps18;go_wp2;go_ret;exact⟨rfl,zB2⟩
theorem Z4x (m : Msn) (vw vh vr : Value) (w : World) (hm : MsnAt w.heap.size w m vw vh vr) (h : sizesB m = true) :
  Calls Tryz.prog 18 #[.agg (Zc m vw vh vr)] w fun e w'=>e=.returned (.bool (validB m))∧Below w.heap.size w w':=by
 obtain⟨n2,n41,nr⟩:=Z0O h;have d1:decide ((m.ways.length:Int)<2)=false:=by simp;omega
 have d2:decide (41<(m.ways.length:Int))=false:=by simp;omega
 have d3:decide (100<(m.rocks.length:Int))=false:=by simp;omega
 have hmH:=Lib.hid hm;have H0:=Has.new w (Zc m vw vh vr) 26;have H0H:=Lib.hid H0;obtain⟨_,a1,cap1,hvw,_⟩:=hm.1;obtain⟨_,a2,cap2,hvr,hrc⟩:=hm.2.2;subst hvw;subst hvr;have hrcH:=Lib.hid hrc;clear hm H0 h hrc;unfold Zc;go_enter Tryz.func18,Tryz.ntmps18;go_wp2
 go_loopw [3] (fun i wr=>∃ k:Nat,k≤m.ways.length∧i=.int .i64 k∧(∀ j,j<k→wayB j (wy m.ways j)=true)∧Has wr w.heap.size (Zc m (.slice a1 m.ways.length (m.ways.length+cap1)) vh (.slice a2 m.rocks.length (m.rocks.length+cap2))) 26∧Below w.heap.size w wr) (fun i _=>m.ways.length-(intOf i).toNat)
 case atStart=>exact⟨0,by omega,rfl,fun j hj=>by omega,H0H.out,(Below.refl _ _).alloc (Nat.le_refl _) _⟩
 case round =>
  obtain⟨k,hk,rfl,hall,H,hB⟩:=hrel;obtain⟨c0,c1,c2,c3,c4,c5,c6,c7,c8,c9,c10⟩:=Zh H;have hall':=Lib.hid hall;have HH:=Lib.hid H;have hz:=hB.size;have hsz:=H.lt;by_cases hlt:k<m.ways.length
  ·have hwk:=Za5 m (.slice a1 m.ways.length (m.ways.length+cap1)) vh (.slice a2 m.rocks.length (m.rocks.length+cap2)) k wr ((hmH.out.1.below hB).mono hB.size) hlt (by omega)
   have hwk':=Lib.hid hwk;clear hwk hall H;unfold Zc at hwk';cases hpl:wayB k (wy m.ways k)
   ·rw [hpl] at hwk'
    have hr:Hid (validB m=false):=Z13 (fun v=>by have:=Z0h v.ways hlt;rw [hpl] at this;cases this)
    have hpl':=Lib.hid hpl;clear hpl;go_wp2_with (go_at_call 37;refine (hwk'.out).mono ?_;rintro e w1 ⟨rfl,hb1⟩;obtain⟨hc1,hf1⟩:=bcell hb1;have hz1:=hb1.size;try simp at hz1)
    go_ret;exact⟨Zq hr.out.symm,zB2⟩
   ·rw [hpl] at hwk'
    have hpl':=Lib.hid hpl;clear hpl;go_wp2_with (go_at_call 37;refine (hwk'.out).mono ?_;rintro e w1 ⟨rfl,hb1⟩;obtain⟨hc1,hf1⟩:=bcell hb1;have hz1:=hb1.size;try simp at hz1)
    go_roundw
    case rel =>
     refine⟨k+1,by omega,by go_num,fun j hj=>?_,HH.out.below hb1 hsz,zB2⟩
     by_cases e:j=k
     ·rw [e];exact hpl'.out
     ·exact hall'.out j (by omega)
    case measure=>simp [intOf];omega
  ·obtain rfl:k=m.ways.length:=by omega
   have hwb:Hid (waysB m.ways=true):=by
    show waysB m.ways=true
    simp only [waysB,decide_eq_true_eq];exact hall
   have hp1:=(hmH.out.2.1.below hB).mono hB.size;have hp1':=Lib.hid hp1;clear hp1 hall H;have hrv:=fun w1 hp=>Z1o vh m.home w1 hp
   have hlm:=fun w1=>Z7D m (.slice a1 m.ways.length (m.ways.length+cap1)) vh (.slice a2 m.rocks.length (m.rocks.length+cap2)) w1
   change ∀ w1,Calls _ _ _ _ fun e w'=>e=.returned (.bool (limitsB m))∧_ at hlm
   have hrv':=Lib.hid hrv;have hlm':=Lib.hid hlm;clear hrv hlm;unfold Zc at hlm';go_wp2_with fail;refine (hrv'.out _ hp1'.out).mono ?_;rintro e w1 ⟨rfl,hb1⟩;have H1:=HH.out.below hb1 hsz;have B1:=hB.trans (hb1.mono hz);have z1:=H1.lt;obtain⟨c0,c1,c2,c3,c4,c5,c6,c7,c8,c9,c10⟩:=Zh H1;have H1':=Lib.hid H1;clear H1 hb1;go_wp2_with fail;refine (hlm'.out _).mono ?_;rintro e w2 ⟨rfl,hb2⟩;have H2:=H1'.out.below hb2 z1;have B2:=B1.trans (hb2.mono (by omega))
   have z2:=H2.lt;obtain⟨c0,c1,c2,c3,c4,c5,c6,c7,c8,c9,c10⟩:=Zh H2;have H2':=Lib.hid H2;clear H2 hb2;cases hh:refValid m.home
   ·have hr:Hid (validB m=false):=Z13 (fun v=>by have:=v.home;rw [Z1f,hh] at this;cases this)
    go_wp2;go_ret;exact⟨Zq hr.out.symm,B2⟩
   cases hl:limitsB m
   ·have hr:Hid (validB m=false):=Z13 (fun v=>by have:=v.limits;rw [hl] at this;cases this)
    go_wp2;go_ret;exact⟨Zq hr.out.symm,B2⟩
   obtain⟨l1,l2,l3,l4,l5,l6⟩:=(Z3d m).1 hl;have hL:=Lib.hid (And.intro hh (And.intro l1 (And.intro l2 (And.intro l3 (And.intro l4 (And.intro l5 l6))))));clear l1 l2 l3 l4 l5 l6;go_wp2
   go_loopw [7] (fun i wr=>∃ k:Nat,k≤m.rocks.length∧i=.int .i64 k∧(∀ j,j<k→Zb (rk m.rocks j)=true)∧Has wr w.heap.size (Zc m (.slice a1 m.ways.length (m.ways.length+cap1)) vh (.slice a2 m.rocks.length (m.rocks.length+cap2))) 26∧Below w.heap.size w wr) (fun i _=>m.rocks.length-(intOf i).toNat)
   case atStart=>exact⟨0,by omega,rfl,fun j hj=>by omega,H2'.out,B2⟩
   case round =>
    obtain⟨k,hk,rfl,hall,H,hB3⟩:=hrel;obtain⟨c0,c1,c2,c3,c4,c5,c6,c7,c8,c9,c10⟩:=Zh H;have hall':=Lib.hid hall;have HH3:=Lib.hid H;have hz3:=hB3.size;have hsz3:=H.lt;clear hall H;by_cases hlt:k<m.rocks.length
    ·obtain⟨b,o,rfl,hb,hcs⟩:∃ b o,a2=some ⟨b,o,none⟩∧b<w.heap.size∧∀ j,j<m.rocks.length→∃ u,w.cell? ⟨b,o+j,none⟩=some u∧Z8 w.heap.size w u (rk m.rocks j):=by
      rcases hrcH.out with h0 | h
      ·rw [h0] at hlt;simp at hlt
      ·exact h
     obtain⟨u,hu,hpu⟩:=hcs k hlt;have cu:=(hB3.cell (p:=⟨b,o+k,none⟩) hb).trans hu;have hpu':=Lib.hid ((hpu.below hB3).mono hB3.size);clear hcs hu hpu;cases hpl:refValid (rk m.rocks k)
     ·have hr:Hid (validB m=false):=Z13 (fun v=>by have:=(of_decide_eq_true v.rocks) k hlt;rw [Z1f,hpl] at this;cases this)
      go_wp2_with (go_at_call 38;refine (Z1o _ _ _ hpu'.out).mono ?_;rintro e w5 ⟨rfl,hb5⟩;obtain⟨hc5,hf5⟩:=bcell hb5;have hz5:=hb5.size;try simp at hz5)
      go_ret;exact⟨Zq hr.out.symm,zB2⟩
     ·go_wp2_with (go_at_call 38;refine (Z1o _ _ _ hpu'.out).mono ?_;rintro e w5 ⟨rfl,hb5⟩;obtain⟨hc5,hf5⟩:=bcell hb5;have hz5:=hb5.size;try simp at hz5)
      go_roundw
      case rel =>
       refine⟨k+1,by omega,by go_num,fun j hj=>?_,HH3.out.below hb5 hsz3,zB2⟩
       by_cases e:j=k
       ·rw [e,Z1f];exact hpl
       ·exact hall'.out j (by omega)
      case measure=>simp [intOf];omega
    ·obtain rfl:k=m.rocks.length:=by omega
     have hrb:Hid (rocksB m.rocks=true):=by
      show rocksB m.rocks=true
      simp only [rocksB,decide_eq_true_eq];exact hall'.out
     obtain⟨hh,l1,l2,l3,l4,l5,l6⟩:=hL.out;have hgr:=Z7p m (.slice a1 m.ways.length (m.ways.length+cap1)) vh (.slice a2 m.rocks.length (m.rocks.length+cap2)) wr l2 l1 ((hmH.out.1.below hB3).mono hB3.size) n2 n41 hwb.out;have hv:Hid (validB m=decide (grownV m≤100000)):=by
      show validB m=_
      rw [Bool.eq_iff_iff,Zn,decide_eq_true_iff];exact⟨fun v=>v.grown,fun g=>⟨n2,n41,nr,hwb.out,by rw [Z1f];exact hh,hrb.out,l1,l2,l3,l4,l5,l6,g⟩⟩
     have hgr':=Lib.hid hgr;clear hgr hh l1 l2 l3 l4 l5 l6;unfold Zc at hgr';go_wp2_with (go_at_call 40;refine (hgr'.out).mono ?_;rintro e w5 ⟨rfl,hb5⟩;obtain⟨hc5,hf5⟩:=bcell hb5;have hz5:=hb5.size;try simp at hz5)
     go_ret;exact⟨Zq hv.out.symm,zB2⟩
theorem Z0D (m:Msn) (vw vh vr:Value) (w:World) (hm:MsnAt w.heap.size w m vw vh vr) :
  Calls Tryz.prog 18 #[.agg (Zc m vw vh vr)] w fun e w'=>e=.returned (.bool (validB m))∧Below w.heap.size w w':=by
 cases h:sizesB m
 ·exact Z4w m vw vh vr w hm h
 ·exact Z4x m vw vh vr w hm h
end
end Go.Proofs.YtcfkhkgldboddaaGreat
