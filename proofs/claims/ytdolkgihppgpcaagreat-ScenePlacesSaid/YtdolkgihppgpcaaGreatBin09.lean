/- mission.Valid: the conditions in order; mission.Valid, has. | mission.Valid, has. | mission.has, Leg. | The reference's way, limits, grown. | The r .. -/
import Derived.LoopTactic
import Derived.Test.YtdolkgihppgpcaaGreatBin08
import Derived.BigFrameIn
set_option maxRecDepth 4000
namespace Go.Proofs.YtdolkgihppgpcaaGreat
section
attribute [local irreducible] wpQuiet
open Go.RowKit
theorem v9_any (B:Nat) (m:Msn) (vw vh vr:Value) (w:World) (H:MsnBox w B m vw vh vr) (hm:legOk m) (hs:0≤m.start∧m.start≤100000) (hw:WaysAt w.heap.size w vw m.ways) (h2:2≤m.ways.length) (h41:m.ways.length≤41) (hwb:waysB m.ways=true) :
  Calls Tryz.prog 89 #[.pointer (some ⟨B,0,none⟩)] w fun e w'=>e=.returned (.bool (decide (grownV m≤100000)))∧Below w.heap.size w w':=by
 obtain⟨c0,c1,c2,c3,c4,c5,c6,c7,c8,c9,c10⟩:=Zi H;have hg:=Z7V m vw vh vr w hm hs hw h2 h41 hwb;have hg':=Lib.hid hg;clear hg hm hs hw h2 h41 hwb;unfold Zc at hg';go_enter Tryz.func89,Tryz.ntmps89;go_wp2_with (go_at_call 90;refine (hg'.out).mono ?_;rintro e w1 ⟨rfl,hb1⟩;have hz1:=hb1.size;try simp at hz1)
 go_ret;exact⟨rfl,zB2⟩
theorem v10_1 (B:Addr) (c:Bool) (w:World) (h:Calls Tryz.prog 77 #[.pointer (some B)] w fun e w'=>e=.returned (.bool c)∧Below w.heap.size w w') :
  Calls Tryz.prog 92 #[.func (.func 77) #[] #[.pointer (some B)]] w fun e w'=>e=.returned (.bool (!c))∧Below w.heap.size w w':=by
 have h':=Lib.hid h;clear h;go_enter Tryz.func92,Tryz.ntmps92;go_wp2_with (go_at_call 77;refine (h'.out).mono ?_;rintro e w1 ⟨rfl,hb1⟩;have hz1:=hb1.size;try simp at hz1)
 go_ret;exact⟨rfl,hb1⟩
theorem v10_2 (B:Addr) (c:Bool) (w:World) (h:Calls Tryz.prog 78 #[.pointer (some B)] w fun e w'=>e=.returned (.bool c)∧Below w.heap.size w w') :
  Calls Tryz.prog 92 #[.func (.func 78) #[] #[.pointer (some B)]] w fun e w'=>e=.returned (.bool (!c))∧Below w.heap.size w w':=by
 have h':=Lib.hid h;clear h;go_enter Tryz.func92,Tryz.ntmps92;go_wp2_with (go_at_call 78;refine (h'.out).mono ?_;rintro e w1 ⟨rfl,hb1⟩;have hz1:=hb1.size;try simp at hz1)
 go_ret;exact⟨rfl,hb1⟩
theorem v10_3 (B:Addr) (c:Bool) (w:World) (h:Calls Tryz.prog 80 #[.pointer (some B)] w fun e w'=>e=.returned (.bool c)∧Below w.heap.size w w') :
  Calls Tryz.prog 92 #[.func (.func 80) #[] #[.pointer (some B)]] w fun e w'=>e=.returned (.bool (!c))∧Below w.heap.size w w':=by
 have h':=Lib.hid h;clear h;go_enter Tryz.func92,Tryz.ntmps92;go_wp2_with (go_at_call 80;refine (h'.out).mono ?_;rintro e w1 ⟨rfl,hb1⟩;have hz1:=hb1.size;try simp at hz1)
 go_ret;exact⟨rfl,hb1⟩
theorem v10_4 (B:Addr) (c:Bool) (w:World) (h:Calls Tryz.prog 81 #[.pointer (some B)] w fun e w'=>e=.returned (.bool c)∧Below w.heap.size w w') :
  Calls Tryz.prog 92 #[.func (.func 81) #[] #[.pointer (some B)]] w fun e w'=>e=.returned (.bool (!c))∧Below w.heap.size w w':=by
 have h':=Lib.hid h;clear h;go_enter Tryz.func92,Tryz.ntmps92;go_wp2_with (go_at_call 81;refine (h'.out).mono ?_;rintro e w1 ⟨rfl,hb1⟩;have hz1:=hb1.size;try simp at hz1)
 go_ret;exact⟨rfl,hb1⟩
theorem v10_5 (B:Addr) (c:Bool) (w:World) (h:Calls Tryz.prog 84 #[.pointer (some B)] w fun e w'=>e=.returned (.bool c)∧Below w.heap.size w w') :
  Calls Tryz.prog 92 #[.func (.func 84) #[] #[.pointer (some B)]] w fun e w'=>e=.returned (.bool (!c))∧Below w.heap.size w w':=by
 have h':=Lib.hid h;clear h;go_enter Tryz.func92,Tryz.ntmps92;go_wp2_with (go_at_call 84;refine (h'.out).mono ?_;rintro e w1 ⟨rfl,hb1⟩;have hz1:=hb1.size;try simp at hz1)
 go_ret;exact⟨rfl,hb1⟩
theorem v10_6 (B:Addr) (c:Bool) (w:World) (h:Calls Tryz.prog 86 #[.pointer (some B)] w fun e w'=>e=.returned (.bool c)∧Below w.heap.size w w') :
  Calls Tryz.prog 92 #[.func (.func 86) #[] #[.pointer (some B)]] w fun e w'=>e=.returned (.bool (!c))∧Below w.heap.size w w':=by
 have h':=Lib.hid h;clear h;go_enter Tryz.func92,Tryz.ntmps92;go_wp2_with (go_at_call 86;refine (h'.out).mono ?_;rintro e w1 ⟨rfl,hb1⟩;have hz1:=hb1.size;try simp at hz1)
 go_ret;exact⟨rfl,hb1⟩
theorem v10_7 (B:Addr) (c:Bool) (w:World) (h:Calls Tryz.prog 87 #[.pointer (some B)] w fun e w'=>e=.returned (.bool c)∧Below w.heap.size w w') :
  Calls Tryz.prog 92 #[.func (.func 87) #[] #[.pointer (some B)]] w fun e w'=>e=.returned (.bool (!c))∧Below w.heap.size w w':=by
 have h':=Lib.hid h;clear h;go_enter Tryz.func92,Tryz.ntmps92;go_wp2_with (go_at_call 87;refine (h'.out).mono ?_;rintro e w1 ⟨rfl,hb1⟩;have hz1:=hb1.size;try simp at hz1)
 go_ret;exact⟨rfl,hb1⟩
theorem v10_8 (B:Addr) (c:Bool) (w:World) (h:Calls Tryz.prog 88 #[.pointer (some B)] w fun e w'=>e=.returned (.bool c)∧Below w.heap.size w w') :
  Calls Tryz.prog 92 #[.func (.func 88) #[] #[.pointer (some B)]] w fun e w'=>e=.returned (.bool (!c))∧Below w.heap.size w w':=by
 have h':=Lib.hid h;clear h;go_enter Tryz.func92,Tryz.ntmps92;go_wp2_with (go_at_call 88;refine (h'.out).mono ?_;rintro e w1 ⟨rfl,hb1⟩;have hz1:=hb1.size;try simp at hz1)
 go_ret;exact⟨rfl,hb1⟩
theorem v10_9 (B:Addr) (c:Bool) (w:World) (h:Calls Tryz.prog 89 #[.pointer (some B)] w fun e w'=>e=.returned (.bool c)∧Below w.heap.size w w') :
  Calls Tryz.prog 92 #[.func (.func 89) #[] #[.pointer (some B)]] w fun e w'=>e=.returned (.bool (!c))∧Below w.heap.size w w':=by
 have h':=Lib.hid h;clear h;go_enter Tryz.func92,Tryz.ntmps92;go_wp2_with (go_at_call 89;refine (h'.out).mono ?_;rintro e w1 ⟨rfl,hb1⟩;have hz1:=hb1.size;try simp at hz1)
 go_ret;exact⟨rfl,hb1⟩
theorem Z2V (b n : Nat) (hn : n ≤ 1000) (cl : Nat → Value) (conds : Nat → Bool) (w : World) (hc : ∀ j, j < n → w.cell? ⟨b, j, none⟩ = some (cl j))
  (hC:∀ k,k<n→(∀ j,j<k→conds j=true)→∀ w1,Below w.heap.size w w1→Calls Tryz.prog 92 #[cl k] w1 fun e w'=>e=.returned (.bool (!conds k))∧Below w1.heap.size w1 w') (hb:b<w.heap.size) :
  Calls Tryz.prog 117 #[.slice (some ⟨b,0,none⟩) n n,.func (.func 92) #[] #[]] w (FoundQ (!decide (∀ j,j<n→conds j=true)) w):=by
 have hcH:=Lib.hid hc;have hCH:=Lib.hid hC;clear hc hC;go_enter Tryz.func117,Tryz.ntmps117;go_wp2
 go_loopw [8] (fun i wr=>∃ k:Nat,k≤n∧i=.int .i64 k∧(∀ j,j<k→conds j=true)∧Below w.heap.size w wr) (fun i _=>n-(intOf i).toNat)
 case atStart=>exact⟨0,Nat.zero_le _,rfl,fun j h=>by omega,Below.refl _ _⟩
 case round =>
  obtain⟨k,hk,rfl,hall,hB⟩:=hrel;by_cases hlt:k<n
  ·have c1:=(hB.cell (p:=⟨b,k,none⟩) hb).trans (hcH.out k hlt)
   have hv:=hCH.out k hlt hall wr hB;have hall':=Lib.hid hall;have hv':=Lib.hid hv;clear hall hv;have hz:=hB.size;cases hpl:conds k
   ·have hr:Hid (decide (∀ j,j<n→conds j=true)=false):=by
     show decide (∀ j,j<n→conds j=true)=false
     simp only [decide_eq_false_iff_not];intro h;have:=h k hlt;rw [hpl] at this;cases this
    rw [hpl] at hv';have hpl':=Lib.hid hpl;clear hpl;go_wp2_with (go_at_call 92;refine (hv'.out).mono ?_;rintro e w1 ⟨rfl,hb1⟩;have hz1:=hb1.size;try simp at hz1)
    go_ret;exact⟨k,rfl,by omega,by omega,by rw [hr.out];simp,zB2⟩
   ·rw [hpl] at hv'
    have hpl':=Lib.hid hpl;clear hpl;go_wp2_with (go_at_call 92;refine (hv'.out).mono ?_;rintro e w1 ⟨rfl,hb1⟩;have hz1:=hb1.size;try simp at hz1)
    go_roundw
    case rel =>
     refine⟨k+1,by omega,by go_num,fun j hj=>?_,zB2⟩
     by_cases e:j=k
     ·rw [e];exact hpl'.out
     ·exact hall'.out j (by omega)
    case measure=>simp [intOf];omega
  ·have hr:Hid (decide (∀ j,j<n→conds j=true)=true):=by
    show decide (∀ j,j<n→conds j=true)=true
    simp only [decide_eq_true_eq];intro j hj;exact hall j (by omega)
   clear hall;go_wp2;go_ret;exact⟨-1,rfl,by omega,by omega,by rw [hr.out];simp,hB⟩
theorem Z1Q (b n:Nat) (hn:n≤1000) (cl:Nat→Value) (conds:Nat→Bool) (w:World) (hc:∀ j,j<n→w.cell? ⟨b,j,none⟩=some (cl j))
  (hC:∀ k,k<n→(∀ j,j<k→conds j=true)→∀ w1,Below w.heap.size w w1→Calls Tryz.prog 92 #[cl k] w1 fun e w'=>e=.returned (.bool (!conds k))∧Below w1.heap.size w1 w') (hb:b<w.heap.size) :
  Calls Tryz.prog 91 #[.slice (some ⟨b,0,none⟩) n n,.func (.func 92) #[] #[]] w fun e w'=>e=.returned (.bool (!decide (∀ j,j<n→conds j=true)))∧Below w.heap.size w w':=by
 have hI:=Lib.hid (Z2V b n hn cl conds w hc hC hb);clear hc hC;go_enter Tryz.func91,Tryz.ntmps91;go_wp2_with (go_at_call 117;refine Calls.mono hI.out ?_;rintro e w1 ⟨r,rfl,r1,r2,r3,hb1⟩);go_ret;exact⟨by first | rfl | exact ZB r3,hb1⟩
noncomputable def condB (m:Msn):Nat→Bool
 | 0=>sizesB m
 | 1=>waysB m.ways
 | 2=>Zb m.home
 | 3=>rocksB m.rocks
 | 4=>inB m.start 0 100000 && inB m.speed 1 20000
 | 5=>inB m.part 0 500 && inB m.flow 0 5000
 | 6=>inB m.idle 0 1000 && inB m.drive 0 1000
 | 7=>inB m.battery 0 1000000000 && inB m.deadline 0 1000000000
 | 8=>decide (grownV m≤100000)
 | _=>true
def clV (B:Nat):Nat→Value
 | 0=>.func (.func 77) #[] #[.pointer (some ⟨B,0,none⟩)]
 | 1=>.func (.func 78) #[] #[.pointer (some ⟨B,0,none⟩)]
 | 2=>.func (.func 80) #[] #[.pointer (some ⟨B,0,none⟩)]
 | 3=>.func (.func 81) #[] #[.pointer (some ⟨B,0,none⟩)]
 | 4=>.func (.func 84) #[] #[.pointer (some ⟨B,0,none⟩)]
 | 5=>.func (.func 86) #[] #[.pointer (some ⟨B,0,none⟩)]
 | 6=>.func (.func 87) #[] #[.pointer (some ⟨B,0,none⟩)]
 | 7=>.func (.func 88) #[] #[.pointer (some ⟨B,0,none⟩)]
 | _=>.func (.func 89) #[] #[.pointer (some ⟨B,0,none⟩)]
noncomputable def validB (m:Msn):Bool:=(List.range 9).all (condB m)
theorem Z2Y (m:Msn):validB m=true↔∀ j,j<9→condB m j=true:=by simp [validB,List.all_eq_true]
theorem Z1c {m:Msn} (h:sizesB m=true):2≤m.ways.length∧m.ways.length≤41∧m.rocks.length≤100:=by simpa [sizesB] using h
structure VMsn (m:Msn):Prop where
 n2:2≤m.ways.length
 n41:m.ways.length≤41
 nr:m.rocks.length≤100
 ways:waysB m.ways=true
 home:Zb m.home=true
 rocks:rocksB m.rocks=true
 start:0≤m.start∧m.start≤100000
 leg:legOk m
 idle:0≤m.idle∧m.idle≤1000
 drive:0≤m.drive∧m.drive≤1000
 battery:0≤m.battery∧m.battery≤1000000000
 deadline:0≤m.deadline∧m.deadline≤1000000000
 grown:grownV m≤100000
theorem Zs (m:Msn):validB m=true↔VMsn m:=by
 rw [Z2Y];constructor
 ·intro h
  have h0:=h 0 (by omega);have h1:=h 1 (by omega);have h2:=h 2 (by omega);have h3:=h 3 (by omega);have h4:=h 4 (by omega)
  have h5:=h 5 (by omega);have h6:=h 6 (by omega);have h7:=h 7 (by omega);have h8:=h 8 (by omega)
  simp only [condB,Bool.and_eq_true] at h0 h1 h2 h3 h4 h5 h6 h7 h8;have s:=Z1c h0;have a:=ZN h4.1;have b:=ZN h4.2;have c:=ZN h5.1;have d:=ZN h5.2;exact⟨s.1,s.2.1,s.2.2,h1,h2,h3,a,⟨b.1,b.2,c.1,c.2,d.1,d.2⟩,ZN h6.1,ZN h6.2,ZN h7.1,ZN h7.2,by simpa using h8⟩
 ·intro v j hj
  obtain⟨n2,n41,nr,ways,home,rocks,start,⟨l1,l2,l3,l4,l5,l6⟩,idle,drive,battery,deadline,grown⟩:=v
  match j,hj with
  | 0,_=>simp [condB,sizesB];omega
  | 1,_=>exact ways
  | 2,_=>exact home
  | 3,_=>exact rocks
  | 4,_=>simp [condB,inB];omega
  | 5,_=>simp [condB,inB];omega
  | 6,_=>simp [condB,inB];omega
  | 7,_=>simp [condB,inB];omega
  | 8,_=>simpa [condB] using grown
theorem Z8j (B:Nat) (m:Msn) (vw vh vr:Value) (w:World) (H:MsnBox w B m vw vh vr) (hm:MsnAt w.heap.size w m vw vh vr) :
  ∀ k,k<9→(∀ j,j<k→condB m j=true)→Calls Tryz.prog 92 #[clV B k] w fun e w'=>e=.returned (.bool (!condB m k))∧Below w.heap.size w w':=by
 obtain⟨hw,hh,hr⟩:=hm;intro k hk hj
 match k,hk,hj with
 | 0,_,_=>exact v10_1 _ _ w (v1_any B m vw vh vr w H hw hr)
 | 1,_,hj=>exact v10_2 _ _ w (v2_any B m vw vh vr w H hw (by have:=Z1c (hj 0 (by omega));omega))
 | 2,_,_=>exact v10_3 _ _ w (v3_any B m vw vh vr w H hh)
 | 3,_,_=>exact v10_4 _ _ w (v4_any B m vw vh vr w H hr)
 | 4,_,_=>exact v10_5 _ _ w (v5_any B m vw vh vr w H)
 | 5,_,_=>exact v10_6 _ _ w (v6_any B m vw vh vr w H)
 | 6,_,_=>exact v10_7 _ _ w (v7_any B m vw vh vr w H)
 | 7,_,_=>exact v10_8 _ _ w (v8_any B m vw vh vr w H)
 | 8, _, hj =>
  have s:=Z1c (hj 0 (by omega))
  have h4:=hj 4 (by omega)
  have h5:=hj 5 (by omega)
  simp only [condB,Bool.and_eq_true] at h4 h5;have a:=ZN h4.1;have b:=ZN h4.2;have c:=ZN h5.1;have d:=ZN h5.2;exact v10_9 _ _ w (v9_any B m vw vh vr w H ⟨b.1,b.2,c.1,c.2,d.1,d.2⟩ a hw s.1 s.2.1 (hj 1 (by omega)))
theorem Z0p (m:Msn) (vw vh vr:Value) (w:World) (hm:MsnAt w.heap.size w m vw vh vr) :
  Calls Tryz.prog 38 #[.agg (Zc m vw vh vr)] w fun e w'=>e=.returned (.bool (validB m))∧Below w.heap.size w w':=by
 have HB:MsnBox (w.alloc (.cells (Zc m vw vh vr) 26)) w.heap.size m vw vh vr:=Has.new w _ _;have hB1:Below w.heap.size w (w.alloc (.cells (Zc m vw vh vr) 26)):=(Below.refl _ _).alloc (Nat.le_refl _) _;have HB':=Lib.hid HB;have hB1':=Lib.hid hB1;have hm':=Lib.hid hm;clear HB hB1 hm;unfold Zc at *;go_enter Tryz.func38,Tryz.ntmps38;go_wp2_with fail;refine Calls.mono (Z1Q (w.heap.size+1) 9 (by omega) (clV w.heap.size) (condB m) _ ?hc ?hC ?hb) ?_
 case hb=>simp
 case hc =>
  intro j hj
  match j,hj with
  | 0,_=>simp [go_sem,clV]
  | 1,_=>simp [go_sem,clV]
  | 2,_=>simp [go_sem,clV]
  | 3,_=>simp [go_sem,clV]
  | 4,_=>simp [go_sem,clV]
  | 5,_=>simp [go_sem,clV]
  | 6,_=>simp [go_sem,clV]
  | 7,_=>simp [go_sem,clV]
  | 8,_=>simp [go_sem,clV]
 case hC =>
  intro k hk hj w1 hB;have b1:=(hB1'.out.alloc (by simp) _).trans (hB.mono (by first | omega | (simp;done) | (simp;omega)))
  have h1:MsnBox w1 w.heap.size m vw vh vr:=by
   refine (Has.below HB'.out ?_ (by simp:w.heap.size<w.heap.size+1))
   exact (((Below.refl _ _).alloc (by simp) _).trans (hB.mono (by first | omega | (simp;done) | (simp;omega))))
  exact Z8j w.heap.size m vw vh vr w1 h1 ((hm'.out.below b1).mono b1.size) k hk hj
 rintro e w1 ⟨rfl,hb1⟩;go_wp2;go_ret;refine⟨ZB ?_,?_⟩
 ·rw [Bool.eq_iff_iff,Z2Y];simp
 ·exact (hB1'.out.alloc (by simp) _).trans (hb1.mono (by first | omega | (simp;done) | (simp;omega)))
def ixB (m:Msn) (i:Int):Bool:=decide (0≤i∧i<m.ways.length)
theorem Z2d {m:Msn} {i:Int} (h:ixB m i=true):∃ k:Nat,i=k∧k<m.ways.length:=by
 have:0≤i∧i<m.ways.length:=by simpa [ixB] using h
 exact⟨i.toNat,by omega,by omega⟩
theorem Z4q {m:Msn} {i:Int} (h:ixB m i=false):i<0∨(0≤i∧(m.ways.length:Int)≤i):=by
 have:¬ (0≤i∧i<m.ways.length):=by simpa [ixB] using h
 omega
theorem Z4p {m:Msn} {k:Nat} (h:k<m.ways.length):ixB m k=true:=by simp [ixB];omega
theorem Z2b (m : Msn) (vw vh vr : Value) (i : Int) (w : World) (hm : MsnAt w.heap.size w m vw vh vr) :
  Calls Tryz.prog 41 #[.agg (Zc m vw vh vr),.int .i64 i] w fun e w'=>e=.returned (.bool (validB m && ixB m i))∧Below w.heap.size w w':=by
 have hv:=Lib.hid (Z0p m vw vh vr (w.alloc (.cells (Zc m vw vh vr) 26)) ((hm.below ((Below.refl _ _).alloc (Nat.le_refl _) _)).mono (by simp)))
 obtain⟨⟨hl,a,cap,rfl,_⟩,_,_⟩:=hm;unfold Zc at *;cases h:validB m
 ·rw [h] at hv
  have h':=Lib.hid h;clear h;go_enter Tryz.func41,Tryz.ntmps41;go_wp2_with (go_at_call 38;refine (hv.out).mono ?_;rintro e w1 ⟨rfl,hb1⟩;obtain⟨hc1,hf1⟩:=bcell hb1;have hz1:=hb1.size;try simp at hz1)
  go_ret;exact⟨rfl,zB2⟩
 ·rw [h] at hv
  have h':=Lib.hid h;clear h;cases hi:ixB m i
  ·rcases Z4q hi with h1 | ⟨h1,h2⟩
   ·have d1:decide (0≤i)=false:=by simp;omega
    clear hi h1;go_enter Tryz.func41,Tryz.ntmps41;go_wp2_with (go_at_call 38;refine (hv.out).mono ?_;rintro e w1 ⟨rfl,hb1⟩;obtain⟨hc1,hf1⟩:=bcell hb1;have hz1:=hb1.size;try simp at hz1)
    go_ret;exact⟨rfl,zB2⟩
   ·have d1:decide (0≤i)=true:=by simp;omega
    have d2:decide (i<(m.ways.length:Int))=false:=by simp;omega
    clear hi h1 h2;go_enter Tryz.func41,Tryz.ntmps41;go_wp2_with (go_at_call 38;refine (hv.out).mono ?_;rintro e w1 ⟨rfl,hb1⟩;obtain⟨hc1,hf1⟩:=bcell hb1;have hz1:=hb1.size;try simp at hz1)
    go_ret;exact⟨rfl,zB2⟩
  ·obtain⟨k,rfl,hk⟩:=Z2d hi
   clear hi;go_enter Tryz.func41,Tryz.ntmps41;go_wp2_with (go_at_call 38;refine (hv.out).mono ?_;rintro e w1 ⟨rfl,hb1⟩;obtain⟨hc1,hf1⟩:=bcell hb1;have hz1:=hb1.size;try simp at hz1)
   go_ret;exact⟨rfl,zB2⟩
theorem leg_no (m:Msn) (vw vh vr:Value) (i j:Int) (w:World) (hm:MsnAt w.heap.size w m vw vh vr) (hE:(validB m && ixB m i && ixB m j)=false) :
  Calls Tryz.prog 20 #[.agg (Zc m vw vh vr),.int .i64 i,.int .i64 j] w fun e w'=>e=.returned (.tuple #[.int .i64 0,.int .i64 0,.int .i64 0,.int .i64 1])∧Below w.heap.size w w':=by
 have hv:=Lib.hid (Z2b m vw vh vr i (w.alloc (.cells (Zc m vw vh vr) 26)) ((hm.below ((Below.refl _ _).alloc (Nat.le_refl _) _)).mono (by simp)))
 obtain⟨⟨hl,a,cap,rfl,_⟩,_,_⟩:=hm;unfold Zc at *;cases h:validB m && ixB m i
 ·rw [h] at hv
  have h':=Lib.hid h;clear h hE;go_enter Tryz.func20,Tryz.ntmps20;go_wp2_with (go_at_call 41;refine (hv.out).mono ?_;rintro e w1 ⟨rfl,hb1⟩;obtain⟨hc1,hf1⟩:=bcell hb1;have hz1:=hb1.size;try simp at hz1)
  refine bodyPost_ret (v:=.tuple #[.int .i64 0,.int .i64 0,.int .i64 0,.int .i64 1]) (by simp [results,Tryz.f20,go_sem]) rfl ⟨rfl,zB2⟩
 ·rw [h] at hv hE
  have hj:ixB m j=false:=by simpa using hE
  have h':=Lib.hid h;clear h hE;rcases Z4q hj with h1 | ⟨h1,h2⟩
  ·have d1:decide (j<0)=true:=by simp;omega
   clear hj h1;go_enter Tryz.func20,Tryz.ntmps20;go_wp2_with (go_at_call 41;refine (hv.out).mono ?_;rintro e w1 ⟨rfl,hb1⟩;obtain⟨hc1,hf1⟩:=bcell hb1;have hz1:=hb1.size;try simp at hz1)
   refine bodyPost_ret (v:=.tuple #[.int .i64 0,.int .i64 0,.int .i64 0,.int .i64 1]) (by simp [results,Tryz.f20,go_sem]) rfl ⟨rfl,zB2⟩
  ·have d1:decide (j<0)=false:=by simp;omega
   have d2:decide ((m.ways.length:Int)≤j)=true:=by simp;omega
   clear hj h1 h2;go_enter Tryz.func20,Tryz.ntmps20;go_wp2_with (go_at_call 41;refine (hv.out).mono ?_;rintro e w1 ⟨rfl,hb1⟩;obtain⟨hc1,hf1⟩:=bcell hb1;have hz1:=hb1.size;try simp at hz1)
   refine bodyPost_ret (v:=.tuple #[.int .i64 0,.int .i64 0,.int .i64 0,.int .i64 1]) (by simp [results,Tryz.f20,go_sem]) rfl ⟨rfl,zB2⟩
theorem Z7z (m:Msn) (vw vh vr:Value) (i j:Nat) (w:World) (hm:MsnAt w.heap.size w m vw vh vr) (hV:validB m=true) (hi:i<m.ways.length) (hj:j<m.ways.length) :
  Calls Tryz.prog 20 #[.agg (Zc m vw vh vr),.int .i64 i,.int .i64 j] w fun e w'=>e=.returned (.tuple #[.int .i64 (dLeg m i j),.int .i64 (tLeg m i j),.int .i64 (gLeg m i j),.int .i64 0])∧Below w.heap.size w w':=by
 have hv:=Z2b m vw vh vr i (w.alloc (.cells (Zc m vw vh vr) 26)) ((hm.below ((Below.refl _ _).alloc (Nat.le_refl _) _)).mono (by simp))
 rw [hV,Z4p hi] at hv;have hv:=Lib.hid hv;obtain⟨⟨hl,a,cap,rfl,hc⟩,_,_⟩:=hm;obtain⟨b,o,rfl,hb,hc2⟩:∃ b o,a=some ⟨b,o,none⟩∧b<w.heap.size∧∀ j,j<m.ways.length→w.cell? ⟨b,o+j*5,none⟩=some (.int .i64 (wy m.ways j).x)∧w.cell? ⟨b,o+j*5+1,none⟩=some (.int .i64 (wy m.ways j).y)∧w.cell? ⟨b,o+j*5+2,none⟩=some (.int .i64 (wy m.ways j).fix)∧w.cell? ⟨b,o+j*5+3,none⟩=some (.int .i64 (wy m.ways j).wait)∧w.cell? ⟨b,o+j*5+4,none⟩=some (.int .i64 (wy m.ways j).back):=by
  rcases hc with h0 | h
  ·rw [h0] at hi;simp at hi
  ·exact h
 clear hc;have V:=(Zs m).1 hV;have hl1:=fun w1=>Z5b m (.slice (some ⟨b,o,none⟩) m.ways.length (m.ways.length+cap)) vh vr (wy m.ways i).x (wy m.ways i).y (wy m.ways j).x (wy m.ways j).y w1 V.leg (Z0f V.ways hi) (Z0f V.ways hj)
 unfold legVal at hl1;have hl1':=Lib.hid hl1;have V':=Lib.hid V;obtain⟨u0,u1,_,_,_⟩:=hc2 i hi;obtain⟨v0,v1,_,_,_⟩:=hc2 j hj;unfold dLeg tLeg gLeg dLeg;generalize distV (wy m.ways i).x (wy m.ways i).y (wy m.ways j).x (wy m.ways j).y=d at *;generalize lastsV m.speed d=t at *;generalize growthV m.speed m.part m.flow d=g at *;have HH:=Has.new w (Zc m (.slice (some ⟨b,o,none⟩) m.ways.length (m.ways.length+cap)) vh vr) 26;have H':=Lib.hid HH;have hk1:(i:Int)<m.ways.length:=by omega
 have hk2:(j:Int)<m.ways.length:=by omega
 clear hl1 V hc2 HH hV;unfold Zc at *;go_enter Tryz.func20,Tryz.ntmps20;go_wp2_with (go_at_call 41;refine (hv.out).mono ?_;rintro e w1 ⟨rfl,hb1⟩;obtain⟨hc1,hf1⟩:=bcell hb1;have hz1:=hb1.size;try simp at hz1)
 have B1:Below (w.heap.size+1) _ w1:=hb1.mono (by simp)
 have H1:=Has.below H'.out B1 (by omega)
 have W1:Below w.heap.size w w1:=((Below.refl _ w).alloc (Nat.le_refl _) _).trans (hb1.mono (by simp))
 obtain⟨c0,c1,c2,c3,c4,c5,c6,c7,c8,c9,c10⟩:=Z7u (m:=m) (vw:=.slice (some ⟨b,o,none⟩) m.ways.length (m.ways.length+cap)) (vh:=vh) (vr:=vr) H1;have lu0:=Low.fact ((W1.cell (p:=⟨b,o+i*5,none⟩) hb).trans u0);have lu1:=Low.fact ((W1.cell (p:=⟨b,o+i*5+1,none⟩) hb).trans u1);have lv0:=Low.fact ((W1.cell (p:=⟨b,o+j*5,none⟩) hb).trans v0);have lv1:=Low.fact ((W1.cell (p:=⟨b,o+j*5+1,none⟩) hb).trans v1);have z1:b<w1.heap.size:=by omega
 have z2:w.heap.size<w1.heap.size:=by omega
 have i0:(0:Int)≤i:=by omega
 have j0:(0:Int)≤j:=by omega
 clear u0 u1 v0 v1 H1 hb1 hc1 hf1 B1
 (refine (wpIn_wide (n:=9)).1 ?_;refine Z19 (Zj _) 15 14 10 _ 106 #[.int .i64 0,.int .i64 0,.int .i64 0] rfl rfl rfl (by decide) (by kernel_rfl) (by kernel_rfl) (by kernel_rfl) (by kernel_rfl) (by kernel_rfl) ?hal ?_;(case hal=>(intro a1 w1;go_simp));simp only [List.set_cons_succ,List.set_cons_zero,List.take_succ_cons,List.take_zero,List.drop_succ_cons,List.drop_zero];(iterate 15 (apply Z92;(case hw=>rfl);(case hval=>(intro w1 hw1;have hcx:=Low.cells hw1;simp only [lowAt];go_simp;first | done | (first | (go_at_call 51;with_reducible exact (hl1'.out _))) | rfl | exact⟨rfl,rfl⟩));simp only [Act.put,zq4,zr4,zs4]));refine Z9W ?_;intro w2 m2 hw2 hm2 hx2)
 have x0:=Zk hx2 (i:=0) rfl;have x1:=Zk hx2 (i:=1) rfl;have x2:=Zk hx2 (i:=2) rfl;have y0:=Ze hx2 0;have y1:=Ze hx2 1;have y2:=Ze hx2 2;gi_wp2;go_wp2
 go_quiet (fail)
 go_wp2;refine bodyPost_ret (v:=.tuple #[.int .i64 d,.int .i64 t,.int .i64 g,.int .i64 0]) (by simp [results,Tryz.f20,go_sem]) rfl ⟨rfl,?_⟩
 have Bf:Below w.heap.size w w2:=W1.trans (hw2.out.mono (by omega))
 have hm3:w.heap.size≤m2:=by omega
 exact Z5B (((Bf.setCell hm3 _).setCell hm3 _).setCell hm3 _) _
theorem WaysAt.cells {n0:Nat} {W:World} {v:Value} {l:List Wy} (h:WaysAt n0 W v l) (h0:0<l.length):∃ b o cap,v=.slice (some ⟨b,o,none⟩) l.length (l.length+cap)∧b<n0∧∀ j,j<l.length →
  W.cell? ⟨b,o+j*5,none⟩=some (.int .i64 (wy l j).x)∧W.cell? ⟨b,o+j*5+1,none⟩=some (.int .i64 (wy l j).y)∧W.cell? ⟨b,o+j*5+2,none⟩=some (.int .i64 (wy l j).fix)∧W.cell? ⟨b,o+j*5+3,none⟩=some (.int .i64 (wy l j).wait)∧W.cell? ⟨b,o+j*5+4,none⟩=some (.int .i64 (wy l j).back):=by
 obtain⟨_,a,cap,rfl,hc⟩:=h;rcases hc with h | ⟨b,o,rfl,hb,hc⟩
 ·rw [h] at h0;simp at h0
 ·exact⟨b,o,cap,rfl,hb,hc⟩
def limitsB (m:Msn):Bool:=inB m.start 0 100000 && inB m.speed 1 20000 && inB m.part 0 500 && inB m.flow 0 5000 && inB m.idle 0 1000 && inB m.drive 0 1000 && inB m.battery 0 1000000000 && inB m.deadline 0 1000000000
theorem Z5a (m:Msn):limitsB m=true↔(0≤m.start∧m.start≤100000)∧legOk m∧(0≤m.idle∧m.idle≤1000)∧(0≤m.drive∧m.drive≤1000)∧(0≤m.battery∧m.battery≤1000000000)∧(0≤m.deadline∧m.deadline≤1000000000):=by
 simp [limitsB,inB,legOk];omega
theorem VMsn.limits {m:Msn} (v:VMsn m):limitsB m=true:=(Z5a m).2 ⟨v.start,v.leg,v.idle,v.drive,v.battery,v.deadline⟩
end
section
attribute [local go_sem] Oper.semAt_some
attribute [local irreducible] wpQuiet
open Go.RowKit Go.Shelf
theorem Z99 (m:Msn) (vw vh vr:Value) (k:Int) (w:World) :
  Calls Tryz.prog 42 #[.agg (Zc m vw vh vr),.int .i64 k] w fun e w'=>e=.returned (.func (.func 94) #[] #[.pointer (some ⟨w.heap.size+1,0,none⟩),.pointer (some ⟨w.heap.size,0,none⟩)])∧(w.alloc (.cells (Zc m vw vh vr) 26)).alloc (.cells #[.int .i64 k] 3)=w':=by
 unfold Zc;go_enter Tryz.func42,Tryz.ntmps42;go_wp2;go_ret;exact⟨rfl,rfl⟩
def cellN (w:World) (b:Nat):Nat:=match w.cell? ⟨b,0,none⟩ with | some v=>(intOf v).toNat | none=>0
theorem Z6c {w:World} {b:Nat} {k:Nat} (h:w.cell? ⟨b,0,none⟩=some (.int .i64 k)):cellN w b=k:=by unfold cellN;rw [h];simp [intOf]
set_option maxHeartbeats 1000000 in
theorem Z9a (n : Nat) (hn : 1 ≤ n) (p : Nat → Prop) (m : Msn) (vw vh vr : Value) (k : Nat) (Bw Bm b o cap : Nat) (W : World) (l : Nat) (hwb : waysB m.ways = true) (hk : k < m.ways.length)
  (hvw:vw=.slice (some ⟨b,o,none⟩) m.ways.length (m.ways.length+cap)) (hc:∀ j,j<m.ways.length→W.cell? ⟨b,o+j*5+3+1,none⟩=some (.int .i64 (wy m.ways j).back))
  (p1:p Bw) (p2:p Bm) (p3:p b) (hb:b≠Bw) (hBm:Bm≠Bw) (J Jx:List Nat→World→Prop)
  (hJ:∀ s A B,J s A→MoveM (fun r=>r=Bw) A B→J s B)
  (hY:∀ (pre:List Nat) (x:Nat) W1,J pre W1→pre.length<dep m k+1→W.heap.size≤W1.heap.size→YieldAt Fence.wide (n-1) Tryz.prog l #[.int .i64 (x:Int)] W1 fun e W' =>
   (e=.returned (.bool true)∧J (pre++[x]) W'∧KeepsP p W1 W')∨(e=.returned (.bool false)∧Jx (pre++[x]) W'))
  (hB:Boxed W Bw 3 (.int .i64 k)) (HM:Has W Bm (Zc m vw vh vr) 26) (h0:J [] W) :
  CallsIn Fence.wide n Tryz.prog 94 #[.func (.yield l) #[] #[],.pointer (some ⟨Bw,0,none⟩),.pointer (some ⟨Bm,0,none⟩)] W fun e W'=>(∃ v,e=.returned v) ∧
   ((∃ ys,ys=upto (itB m k) (dep m k+1)∧J ys W')∨(∃ pre,(∃ j,j≤dep m k+1∧pre=upto (itB m k) j)∧Jx pre W')):=by
 have hcH:=Lib.hid hc;clear hc;refine callsIn_of_wp Tryz.func94 rfl trivial ?_ rfl;simp only [Tryz.ntmps94,List.size_toArray,List.length_cons,List.length_nil,Nat.reduceAdd,Nat.reduceSub,Array.replicate_succ,Array.replicate_zero,List.push_toArray,List.append_toArray,List.nil_append,List.cons_append];gi_wp2
 gi_loopw [4] (fun _ wr=>∃ j:Nat,j≤dep m k∧J (upto (itB m k) j) wr∧Boxed wr Bw 3 (.int .i64 (itB m k j))∧Has wr Bm (Zc m vw vh vr) 26∧wr.heap[b]?=W.heap[b]?∧W.heap.size≤wr.heap.size)
  (fun _ wr=>cellN wr Bw)
 case atStart=>exact⟨0,Nat.zero_le _,h0,hB,HM,rfl,Nat.le_refl _⟩
 case round =>
  obtain⟨j,hj,hJs,hbx,hms,hbb,hsz⟩:=hrel;have hlt:=Z0m hwb hk hj;have c1:=hbx.cell;obtain⟨fn,tmps,assign,body,hy,hR⟩:=hY _ (itB m k j) _ hJs (by rw [Zx];omega) hsz
  have hH:=Lib.hid (And.intro hbx (And.intro hms hbb));have hJ':=Lib.hid hJs;have hwb':=Lib.hid hwb;have hB':=Lib.hid hB;have HM':=Lib.hid HM;have hj':=Lib.hid hj;clear hbx hms hbb hJs hwb hB HM hj;gi_wp2;refine hR.mono ?_;rintro e W3 (⟨rfl,hJ3,hk3⟩ | ⟨rfl,hJx3⟩)
  ·obtain⟨hbx,hms,hbb⟩:=hH.out
   have hbx3:Boxed W3 Bw 3 (.int .i64 (itB m k j)):=(hk3.2 Bw p1).trans hbx;have hms3:Has W3 Bm (Zc m vw vh vr) 26:=(hk3.2 Bm p2).trans hms;have hbb3:W3.heap[b]?=W.heap[b]?:=(hk3.2 b p3).trans hbb;have hsz3:=Nat.le_trans hsz hk3.1;have c3:=hbx3.cell;have hJ3':=Lib.hid hJ3;clear hbx hms hbb hJ3 hk3 hy hR c1;by_cases hz:itB m k j=0
   ·rw [hz] at c3
    have hz':=Lib.hid hz;clear hz;have hX:=Lib.hid (And.intro hbx3 (And.intro hms3 hbb3));clear hbx3 hms3 hbb3;gi_wp2;go_end0;refine⟨⟨_,rfl⟩,.inl ⟨_,rfl,?_⟩⟩;rw [← Z5r hwb'.out hk hj'.out hz'.out,Zv];exact hJ3'.out
   ·have hpos:0<itB m k j:=by omega
    have hjd:j<dep m k:=by
     rcases Nat.lt_or_ge j (dep m k) with h | h
     ·exact h
     ·exfalso
      have:j=dep m k:=by have:=hj'.out;omega
      rw [this] at hz;exact hz (Z8f hwb'.out hk)
    have hdec:=Za3 hwb'.out hk hjd;have hbk:=Z0v hwb'.out hlt;obtain⟨q,hq⟩:∃ q:Nat,(wy m.ways (itB m k j)).back=q:=⟨_,(Int.toNat_of_nonneg hbk.1).symm⟩;have hq2:itB m k (j+1)=q:=by show (wy m.ways (itB m k j)).back.toNat=q;rw [hq];rfl
    have d1:W3.cell? ⟨b,o+itB m k j*5+3+1,none⟩=some (.int .i64 q):=by rw [← hq,World.cell?_of_block hbb3];exact hcH.out _ hlt
    have d2:W3.cell? ⟨Bm,0,none⟩=some (.slice (some ⟨b,o,none⟩) m.ways.length (m.ways.length+cap)):=by rw [← hvw];exact hms3.cell (i:=0) rfl
    have f3:=hbx3.frozen;have hX:=Lib.hid (And.intro hbx3 (And.intro hms3 hbb3));have hq':=Lib.hid (And.intro hq hq2);rw [hq2] at hdec;rw [hq] at hbk;have hil:(itB m k j:Int)<m.ways.length:=by omega
    clear hbx3 hms3 hbb3 hq hq2 hz;gi_wp2;obtain⟨hbx3,hms3,hbb3⟩:=hX.out;refine⟨⟨j+1,by omega,?_,?_,?_,?_,by simpa [World.setCell] using hsz3⟩,?_⟩
    ·rw [Zv];exact hJ _ _ _ hJ3'.out (MoveM.set rfl c3)
    ·rw [hq'.out.2];exact hbx3.set _
    ·exact (Below.heap_setCell W3 ⟨Bw,0,none⟩ _ Bm hBm).trans hms3
    ·exact (Below.heap_setCell W3 ⟨Bw,0,none⟩ _ b hb).trans hbb3
    ·rw [Z6c (hbx3.set _).cell,Z6c hH.out.1.cell];exact hdec
  ·gi_wp2
   go_end0;exact⟨⟨_,rfl⟩,.inr ⟨_,⟨j+1,by have:=hj'.out;omega,(Zv _ _).symm⟩,hJx3⟩⟩
theorem Z98 (n:Nat) (hn:1≤n) (p:Nat→Prop) (m:Msn) (vw vh vr:Value) (k:Nat) (Bw Bm n0:Nat) (w:World) (hwb:waysB m.ways=true) (hk:k<m.ways.length)
  (hw:WaysAt n0 w vw m.ways) (p1:p Bw) (p2:p Bm) (p3:∀ b,b<n0→p b) (hn0:n0≤Bw) (hBm:Bm≠Bw) (hB:Boxed w Bw 3 (.int .i64 k)) (HM:Has w Bm (Zc m vw vh vr) 26) :
  SeqM n Tryz.prog 94 #[.pointer (some ⟨Bw,0,none⟩),.pointer (some ⟨Bm,0,none⟩)] (fun x:Nat=>#[.int .i64 (x:Int)]) (fun _=>KeepsP p) (fun _ r=>r=Bw) 0 (dep m k+1)
   (fun ys=>ys=upto (itB m k) (dep m k+1)) (fun pre=>∃ j,j≤dep m k+1∧pre=upto (itB m k) j) w:=fun l J Jx W hW hJ _ hY h0=>by
 have hlt:=hB.lt;obtain⟨hl,a,cap,rfl,hcs⟩:=hw.below (hW.mono (by omega))
 rcases hcs with h | ⟨b,o,rfl,hb,hcs⟩
 ·rw [h] at hk;simp at hk
 ·exact Z9a n hn p m _ vh vr k Bw Bm b o cap W l hwb hk rfl (fun j hj=>(hcs j hj).2.2.2.2) p1 p2 (p3 b hb) (by omega) hBm J Jx hJ
   (fun pre x W1 h1 h2 h3=>hY pre x W1 h1 h2 h3) ((hW.block Bw hB.lt).trans hB) (HM.below hW HM.lt) h0
end
section
attribute [local irreducible] wpQuiet
open Go.RowKit
def fewTo (l:List (List Pt)):Nat→Nat
 | 0=>0
 | k+1=>fewTo l k+(rk l k).length
def fewB (m:Msn):Bool:=decide (m.ways.length≤8) && decide (m.rocks.length≤12) && decide (fewTo m.rocks (min m.rocks.length 13)≤120) && decide (m.home.length≤80)
set_option maxHeartbeats 1600000 in
theorem Za8 (m : Msn) (vw vh vr : Value) (w : World) (hm : MsnAt w.heap.size w m vw vh vr) :
  Calls Tryz.prog 25 #[.agg (Zc m vw vh vr)] w fun e w'=>e=.returned (.bool (fewB m))∧Below w.heap.size w w':=by
 obtain⟨_,a1,cap1,rfl,_⟩:=hm.1;obtain⟨_,a2,cap2,rfl,_⟩:=hm.2.1;obtain⟨hlr,a3,cap3,rfl,hrc⟩:=hm.2.2;have H0:=Has.new w (Zc m (.slice a1 m.ways.length (m.ways.length+cap1)) (.slice a2 m.home.length (m.home.length+cap2)) (.slice a3 m.rocks.length (m.rocks.length+cap3))) 26;have H0H:=Lib.hid H0;have hrcH:=Lib.hid hrc;clear hm H0 hrc;unfold Zc;go_enter Tryz.func25,Tryz.ntmps25;go_wp2
 go_loopw [3,4] (fun s i wr=>∃ k:Nat,k≤m.rocks.length∧k≤13∧i=.int .i64 k∧s=.int .i64 (fewTo m.rocks k:Nat)∧fewTo m.rocks k≤k*70368744177663∧Has wr w.heap.size (Zc m (.slice a1 m.ways.length (m.ways.length+cap1)) (.slice a2 m.home.length (m.home.length+cap2)) (.slice a3 m.rocks.length (m.rocks.length+cap3))) 26∧Below w.heap.size w wr) (fun _ i _=>13-(intOf i).toNat)
 case atStart=>exact⟨0,by omega,by omega,rfl,rfl,by simp [fewTo],H0H.out,(Below.refl _ _).alloc (Nat.le_refl _) _⟩
 case round =>
  obtain⟨k,hk,hk13,rfl,rfl,hsm,H,hB⟩:=hrel;obtain⟨c0,c1,c2,c3,c4,c5,c6,c7,c8,c9,c10⟩:=Zi H;have HH:=Lib.hid H;clear H;by_cases hlt:k<m.rocks.length
  ·have e1:decide ((k:Int)<m.rocks.length)=true:=by simp;omega
   by_cases h13:k<13
   ·have e2:decide ((k:Int)<13)=true:=by simp;omega
    obtain⟨b,o,rfl,hb,hcs⟩:∃ b o,a3=some ⟨b,o,none⟩∧b<w.heap.size∧∀ j,j<m.rocks.length→∃ u,w.cell? ⟨b,o+j,none⟩=some u∧Z8 w.heap.size w u (rk m.rocks j):=by
     rcases hrcH.out with h0 | h
     ·rw [h0] at hlt;simp at hlt
     ·exact h
    obtain⟨u,hu,⟨hlu,a,cap,rfl,_⟩⟩:=hcs k hlt;have cu:=(hB.cell (p:=⟨b,o+k,none⟩) hb).trans hu;have hs1:fewTo m.rocks (k+1)=fewTo m.rocks k+(rk m.rocks k).length:=rfl;have hs1':=Lib.hid hs1;clear hcs hu hs1;go_wp2;go_roundw
    case rel=>exact⟨k+1,by omega,by omega,by go_num,by rw [hs1'.out];go_num,by rw [hs1'.out];omega,HH.out,hB⟩
    case measure=>simp [intOf];omega
   ·obtain rfl:k=13:=by omega
    have e2:decide ((13:Int)<13)=false:=by simp
    have hn:Hid (fewB m=false):=by show fewB m=false;simp [fewB];omega
    by_cases g1:m.ways.length≤8
    ·have f1:decide ((m.ways.length:Int)≤8)=true:=by simp;omega
     have f2:decide ((m.rocks.length:Int)≤12)=false:=by simp;omega
     go_wp2;go_ret;exact⟨ZB hn.out.symm,hB⟩
    ·have f1:decide ((m.ways.length:Int)≤8)=false:=by simp;omega
     go_wp2;go_ret;exact⟨ZB hn.out.symm,hB⟩
  ·obtain rfl:k=m.rocks.length:=by omega
   have e1:decide ((m.rocks.length:Int)<m.rocks.length)=false:=by simp
   have hmin:min m.rocks.length 13=m.rocks.length:=by omega
   by_cases g1:m.ways.length≤8
   ·have f1:decide ((m.ways.length:Int)≤8)=true:=by simp;omega
    by_cases g2:m.rocks.length≤12
    ·have f2:decide ((m.rocks.length:Int)≤12)=true:=by simp;omega
     by_cases g3:fewTo m.rocks m.rocks.length≤120
     ·have f3:decide (((fewTo m.rocks m.rocks.length:Nat):Int)≤120)=true:=by simp;omega
      have hn:Hid (fewB m=decide (m.home.length≤80)):=by show fewB m=_;simp [fewB,hmin,g1,g2,g3]
      by_cases g4:m.home.length≤80
      ·have f4:decide ((m.home.length:Int)≤80)=true:=by simp;omega
       clear hmin;go_wp2;go_ret;exact⟨ZB (by rw [hn.out];simp [g4]),hB⟩
      ·have f4:decide ((m.home.length:Int)≤80)=false:=by simp;omega
       clear hmin;go_wp2;go_ret;exact⟨ZB (by rw [hn.out];simp [g4]),hB⟩
     ·have f3:decide (((fewTo m.rocks m.rocks.length:Nat):Int)≤120)=false:=by simp;omega
      have hn:Hid (fewB m=false):=by show fewB m=false;simp [fewB,hmin,g3]
      clear hmin;go_wp2;go_ret;exact⟨ZB hn.out.symm,hB⟩
    ·have f2:decide ((m.rocks.length:Int)≤12)=false:=by simp;omega
     have hn:Hid (fewB m=false):=by show fewB m=false;simp [fewB,g2]
     clear hmin;go_wp2;go_ret;exact⟨ZB hn.out.symm,hB⟩
   ·have f1:decide ((m.ways.length:Int)≤8)=false:=by simp;omega
    have hn:Hid (fewB m=false):=by show fewB m=false;simp [fewB,g1]
    clear hmin;go_wp2;go_ret;exact⟨ZB hn.out.symm,hB⟩
end
end Go.Proofs.YtdolkgihppgpcaaGreat
