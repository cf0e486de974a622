/- The reference's way, limits, grown. | The reference's grown. | The reference's Valid (missions). | mission.home: the iterator. | The reference's Few. -/
import Derived.LoopTactic
import Derived.Test.YthipcinibldgnaaGreatBin08
import Derived.BigFrameIn
open Go.Value renaming int->O,slice->qS
open Go.Ending renaming returned->qR
open Go.IntKind renaming i64->qL
open Go.Lib renaming hid->qH
open And renaming intro->qI
set_option maxRecDepth 4000
set_option maxHeartbeats 1600000
namespace Go.Proofs.YthipcinibldgnaaGreat
section
attribute [local irreducible] wpQuiet
open Go.RowKit
theorem WaysAt.cells {n0:Nat} {W:World} {v:Value} {l:List Wy} (h:WaysAt n0 W v l) (h0:0<l.length):∃ b o cap,v=qS (some ⟨b,o,none⟩) l.length (l.length+cap)/\b<n0/\∀ j,j<l.length ->
  W.cell? ⟨b,o+j*5,none⟩=some (O qL (wy l j).x)/\W.cell? ⟨b,o+j*5+1,none⟩=some (O qL (wy l j).y)/\W.cell? ⟨b,o+j*5+2,none⟩=some (O qL (wy l j).fix)/\W.cell? ⟨b,o+j*5+3,none⟩=some (O qL (wy l j).wait)/\W.cell? ⟨b,o+j*5+4,none⟩=some (O qL (wy l j).back):=by
 obtain⟨_,a,cap,rfl,hc⟩:=h;rcases hc with h | ⟨b,o,rfl,hb,hc⟩
 ·rw [h] at h0;simp at h0
 ·exact⟨b,o,cap,rfl,hb,hc⟩
theorem ZaG (k:Nat) (x y fix wait back:Int):wayB k ⟨x,y,fix,wait,back⟩=(inB x (-300000) 300000 && inB y (-300000) 300000 && inB fix 0 100000 && inB wait 0 100000 && !(decide (fix=0) && decide (0<wait)) && inB back 0 ((k-1:Nat):Int)):=by
 rw [Bool.eq_iff_iff];simp [wayB,inB];omega
theorem ZaN (m : Msn) (vw vh vr : Value) (k : Nat) (w : World) (hw : WaysAt w.heap.size w vw m.ways) (hk : k < m.ways.length) (hk2 : k <= 1000000) :
  Calls Tryz.prog 29 #[.agg (Zc m vw vh vr),O qL k] w fun e w'=>e=qR (.bool (wayB k (wy m.ways k)))/\Below w.heap.size w w':=by
 obtain⟨b,o,cap,rfl,hb,hc⟩:=hw.cells (by omega)
 obtain⟨x,y,fix,wait,back,hy⟩:∃ x y fix wait back,wy m.ways k=⟨x,y,fix,wait,back⟩:=⟨_,_,_,_,_,rfl⟩;obtain⟨u0,u1,u2,u3,u4⟩:=hc k hk;rw [hy] at u0 u1 u2 u3 u4 ⊢;dsimp only at u0 u1 u2 u3 u4;clear hc hy hw;rw [ZaG];have hkk:(k:Int)<m.ways.length:=by omega
 unfold Zc;cases h1:inB x (-300000) 300000
 ·go_enter Tryz.func29,Tryz.ntmps29
  go_wp2_with (go_at_call 68;refine (ZU _ _ _ _).mono ?_;rintro e w' ⟨rfl,rfl⟩);go_ret;exact⟨rfl,zB2⟩
 cases h2:inB y (-300000) 300000
 ·go_enter Tryz.func29,Tryz.ntmps29
  go_wp2_with (go_at_call 68;refine (ZU _ _ _ _).mono ?_;rintro e w' ⟨rfl,rfl⟩);go_ret;exact⟨rfl,zB2⟩
 cases h3:inB fix 0 100000
 ·go_enter Tryz.func29,Tryz.ntmps29
  go_wp2_with (go_at_call 68;refine (ZU _ _ _ _).mono ?_;rintro e w' ⟨rfl,rfl⟩);go_ret;exact⟨rfl,zB2⟩
 cases h4:inB wait 0 100000
 ·go_enter Tryz.func29,Tryz.ntmps29
  go_wp2_with (go_at_call 68;refine (ZU _ _ _ _).mono ?_;rintro e w' ⟨rfl,rfl⟩);go_ret;exact⟨rfl,zB2⟩
 have f:=(ZM h3).1;by_cases hf:fix=0
 ·have d1 : decide (fix = 0) = true := by simpa using hf
  by_cases hwt:0<wait
  ·have d:decide (0<wait)=true:=by simpa using hwt
   have E:(true && true && true && true && !(decide (fix=0) && decide (0<wait)) && inB back 0 ((k-1:Nat):Int))=false:=by rw [d1,d];rfl
   rw [E];clear E d1;subst hf;go_enter Tryz.func29,Tryz.ntmps29;go_wp2_with (go_at_call 68;refine (ZU _ _ _ _).mono ?_;rintro e w' ⟨rfl,rfl⟩);go_ret;exact⟨rfl,zB2⟩
  ·have d:decide (0<wait)=false:=by simpa using hwt
   clear hwt;have E:(true && true && true && true && !(decide (fix=0) && decide (0<wait)) && inB back 0 ((k-1:Nat):Int))=inB back 0 ((k-1:Nat):Int):=by rw [d1,d];simp
   rw [E];clear E d1;subst hf;cases h5:inB back 0 ((k-1:Nat):Int)
   all_goals
    rcases k with _ | n
    ·simp only [Nat.zero_sub,Int.natCast_zero,Nat.zero_mul,Nat.add_zero] at h5 hkk u0 u1 u2 u3 u4 ⊢
     go_enter Tryz.func29,Tryz.ntmps29;go_wp2_with (go_at_call 68;refine (ZU _ _ _ _).mono ?_;rintro e w' ⟨rfl,rfl⟩);go_ret;exact⟨rfl,zB2⟩
    ·rcases n with _ | n
     ·simp only [Nat.zero_add,Nat.sub_self,Int.natCast_zero,Int.natCast_one,Nat.one_mul] at h5 hkk u0 u1 u2 u3 u4 ⊢
      go_enter Tryz.func29,Tryz.ntmps29;go_wp2_with (go_at_call 68;refine (ZU _ _ _ _).mono ?_;rintro e w' ⟨rfl,rfl⟩);go_ret;exact⟨rfl,zB2⟩
     ·have e:((n+1+1-1:Nat):Int)=(n:Int)+1:=by omega
      rw [e] at h5;clear e;go_enter Tryz.func29,Tryz.ntmps29;go_wp2_with (go_at_call 68;refine (ZU _ _ _ _).mono ?_;rintro e w' ⟨rfl,rfl⟩);go_ret;exact⟨rfl,zB2⟩
 ·have d0:(fix == 0)=false:=by simpa using hf
  have d1:decide (fix=0)=false:=by simpa using hf
  clear hf;have E:(true && true && true && true && !(decide (fix=0) && decide (0<wait)) && inB back 0 ((k-1:Nat):Int))=inB back 0 ((k-1:Nat):Int):=by rw [d1];simp
  rw [E];clear E;cases h5:inB back 0 ((k-1:Nat):Int)
  all_goals
   rcases k with _ | n
   ·simp only [Nat.zero_sub,Int.natCast_zero,Nat.zero_mul,Nat.add_zero] at h5 hkk u0 u1 u2 u3 u4 ⊢
    go_enter Tryz.func29,Tryz.ntmps29;go_wp2_with (go_at_call 68;refine (ZU _ _ _ _).mono ?_;rintro e w' ⟨rfl,rfl⟩);go_ret;exact⟨rfl,zB2⟩
   ·rcases n with _ | n
    ·simp only [Nat.zero_add,Nat.sub_self,Int.natCast_zero,Int.natCast_one,Nat.one_mul] at h5 hkk u0 u1 u2 u3 u4 ⊢
     go_enter Tryz.func29,Tryz.ntmps29;go_wp2_with (go_at_call 68;refine (ZU _ _ _ _).mono ?_;rintro e w' ⟨rfl,rfl⟩);go_ret;exact⟨rfl,zB2⟩
    ·have e:((n+1+1-1:Nat):Int)=(n:Int)+1:=by omega
     rw [e] at h5;clear e;go_enter Tryz.func29,Tryz.ntmps29;go_wp2_with (go_at_call 68;refine (ZU _ _ _ _).mono ?_;rintro e w' ⟨rfl,rfl⟩);go_ret;exact⟨rfl,zB2⟩
theorem Z8k (m:Msn) (vw vh vr:Value) (w:World) :
  Calls Tryz.prog 31 #[.agg (Zc m vw vh vr)] w fun e w'=>e=qR (.bool (inB m.start 0 100000 && inB m.speed 1 20000 && inB m.part 0 500 && inB m.flow 0 5000 && inB m.idle 0 1000 && inB m.drive 0 1000 && inB m.battery 0 1000000000 && inB m.deadline 0 1000000000))/\Below w.heap.size w w':=by
 unfold Zc;cases h1:inB m.start 0 100000
 ·go_enter Tryz.func31,Tryz.ntmps31
  go_wp2_with (go_at_call 68;refine (ZU _ _ _ _).mono ?_;rintro e w' ⟨rfl,rfl⟩);go_ret;exact⟨rfl,zB2⟩
 cases h2:inB m.speed 1 20000
 ·go_enter Tryz.func31,Tryz.ntmps31
  go_wp2_with (go_at_call 68;refine (ZU _ _ _ _).mono ?_;rintro e w' ⟨rfl,rfl⟩);go_ret;exact⟨rfl,zB2⟩
 cases h3:inB m.part 0 500
 ·go_enter Tryz.func31,Tryz.ntmps31
  go_wp2_with (go_at_call 68;refine (ZU _ _ _ _).mono ?_;rintro e w' ⟨rfl,rfl⟩);go_ret;exact⟨rfl,zB2⟩
 cases h4:inB m.flow 0 5000
 ·go_enter Tryz.func31,Tryz.ntmps31
  go_wp2_with (go_at_call 68;refine (ZU _ _ _ _).mono ?_;rintro e w' ⟨rfl,rfl⟩);go_ret;exact⟨rfl,zB2⟩
 cases h5:inB m.idle 0 1000
 ·go_enter Tryz.func31,Tryz.ntmps31
  go_wp2_with (go_at_call 68;refine (ZU _ _ _ _).mono ?_;rintro e w' ⟨rfl,rfl⟩);go_ret;exact⟨rfl,zB2⟩
 cases h6:inB m.drive 0 1000
 ·go_enter Tryz.func31,Tryz.ntmps31
  go_wp2_with (go_at_call 68;refine (ZU _ _ _ _).mono ?_;rintro e w' ⟨rfl,rfl⟩);go_ret;exact⟨rfl,zB2⟩
 cases h7:inB m.battery 0 1000000000
 ·go_enter Tryz.func31,Tryz.ntmps31
  go_wp2_with (go_at_call 68;refine (ZU _ _ _ _).mono ?_;rintro e w' ⟨rfl,rfl⟩);go_ret;exact⟨rfl,zB2⟩
 go_enter Tryz.func31,Tryz.ntmps31;go_wp2_with (go_at_call 68;refine (ZU _ _ _ _).mono ?_;rintro e w' ⟨rfl,rfl⟩);go_ret;exact⟨rfl,zB2⟩
theorem Low.tr {a b c:World} (h:Low a b) (k:Low b c):Low a c:=h.out.trans (k.out.mono h.out.size)
theorem Z8a (m:Msn) (vw vh vr:Value) (w:World) (hm:legOk m) (hs:0<=m.start/\m.start<=100000) (hw:WaysAt w.heap.size w vw m.ways) (h2:2<=m.ways.length) (h41:m.ways.length<=41) (hwb:waysB m.ways=true) :
  Calls Tryz.prog 32 #[.agg (Zc m vw vh vr)] w fun e w'=>e=qR (O qL (grownV m))/\Below w.heap.size w w':=by
 obtain⟨b,o,cap,rfl,hb,hc2⟩:=hw.cells (by omega)
 have hcH:=qH hc2;have hwbH:=qH hwb;have hmH:=qH hm;have H0:Has (w.alloc (.cells (Zc m (qS (some ⟨b,o,none⟩) m.ways.length (m.ways.length+cap)) vh vr) 26)) w.heap.size (Zc m (qS (some ⟨b,o,none⟩) m.ways.length (m.ways.length+cap)) vh vr) 26:=Has.new w _ _;have H0H:=qH H0;clear hc2 hwb hm H0 hw;unfold Zc;go_enter Tryz.func32,Tryz.ntmps32;go_wp2
 go_loopw [3,4] (fun s i wr=>∃ k:Nat,k+1<=m.ways.length/\i=O qL ((k:Int)+1)/\s=O qL (grownTo m k)/\Has wr w.heap.size (Zc m (qS (some ⟨b,o,none⟩) m.ways.length (m.ways.length+cap)) vh vr) 26/\Below w.heap.size w wr) (fun _ i _=>m.ways.length-(intOf i).toNat)
 case atStart=>exact⟨0,by omega,rfl,rfl,H0H.out,(Below.refl _ _).alloc (Nat.le_refl _) _⟩
 case round =>
  obtain⟨k,hk,rfl,rfl,H,hB⟩:=hrel;have cc0:=(Zg (m:=m) (vh:=vh) (vr:=vr) H).1;by_cases hlt:(k:Int)+1<(m.ways.length:Int)
  ·have hz:=hB.size
   have hlt':k+1<m.ways.length:=by omega
   have bk:=Z0B hwbH.out hlt';obtain⟨q,hq⟩:∃ q:Nat,(wy m.ways (k+1)).back=q:=⟨_,(Int.toNat_of_nonneg bk.1).symm⟩;rw [hq] at bk;have hql:q<m.ways.length:=by omega
   have hg:grownTo m (k+1)=grownTo m k+(gLeg m k (k+1)+gLeg m (k+1) q):=by rw [grownTo,hq];rfl
   have gb:=Z2s hmH.out hs hwbH.out k (by omega)
   have g1:=Z00 hmH.out hwbH.out (i:=k) (j:=k+1) (by omega) hlt'
   have g2:=Z00 hmH.out hwbH.out (i:=k+1) (j:=q) hlt' hql;obtain⟨m1,m2,m3,m4,m5,m6⟩:=hmH.out;obtain⟨y1,y2,y3,y4⟩:=Z07 hwbH.out (j:=k) (by omega)
   obtain⟨x1,x2,x3,x4⟩:=Z07 hwbH.out hlt';obtain⟨r1,r2,r3,r4⟩:=Z07 hwbH.out hql;have hl1:=fun w1=>Z4b (wy m.ways k).x (wy m.ways k).y (wy m.ways (k+1)).x (wy m.ways (k+1)).y w1 y1 y2 y3 y4 x1 x2 x3 x4
   have hl2:=fun w1=>Z4b (wy m.ways (k+1)).x (wy m.ways (k+1)).y (wy m.ways q).x (wy m.ways q).y w1 x1 x2 x3 x4 r1 r2 r3 r4
   have d1:=Z2u hwbH.out (i:=k) (j:=k+1) (by omega) hlt'
   have d2:=Z2u hwbH.out (i:=k+1) (j:=q) hlt' hql;have hh1:=fun w1=>Z3f m (qS (some ⟨b,o,none⟩) m.ways.length (m.ways.length+cap)) vh vr (dLeg m k (k+1)) w1 d1.1 d1.2 m1 m2 m3 m4 m5 m6
   have hh2:=fun w1=>Z3f m (qS (some ⟨b,o,none⟩) m.ways.length (m.ways.length+cap)) vh vr (dLeg m (k+1) q) w1 d2.1 d2.2 m1 m2 m3 m4 m5 m6
   change ∀ w1,Calls _ _ _ _ fun e w'=>e=qR (O qL (dLeg m k (k+1)))/\_ at hl1
   change ∀ w1,Calls _ _ _ _ fun e w'=>e=qR (O qL (dLeg m (k+1) q))/\_ at hl2
   change ∀ w1,Calls _ _ _ _ fun e w'=>e=qR (O qL (gLeg m k (k+1)))/\_ at hh1
   change ∀ w1,Calls _ _ _ _ fun e w'=>e=qR (O qL (gLeg m (k+1) q))/\_ at hh2
   generalize hd1:dLeg m k (k+1)=l1 at hl1 hh1;generalize hd2:dLeg m (k+1) q=l2 at hl2 hh2;obtain⟨e1,he1⟩:∃ e1,gLeg m k (k+1)=e1:=⟨_,rfl⟩;obtain⟨e2,he2⟩:∃ e2,gLeg m (k+1) q=e2:=⟨_,rfl⟩;obtain⟨t,ht⟩:∃ t,grownTo m k=t:=⟨_,rfl⟩;rw [he1,he2,ht] at hg;rw [ht] at gb ⊢;rw [he1] at g1 hh1;rw [he2] at g2 hh2;have a1:IntKind.i64.wrap (t+e1)=t+e1:=zW2;have a2:IntKind.i64.wrap (t+e1+e2)=t+e1+e2:=zW2;have a3:IntKind.i64.wrap (k:Int)=k:=zW2;obtain⟨u0,u1,_,_,_⟩:=hcH.out k (by omega)
   obtain⟨p0,p1,_,_,p4⟩:=hcH.out (k+1) hlt';obtain⟨v0,v1,_,_,_⟩:=hcH.out q hql;rw [hq] at p4;obtain⟨c0,c1,c2,c3,c4,c5,c6,c7,c8,c9,c10⟩:=Z4Q H;have lu0:=Low.fact ((hB.cell (p:=⟨b,o+k*5,none⟩) hb).trans u0);have lu1:=Low.fact ((hB.cell (p:=⟨b,o+k*5+1,none⟩) hb).trans u1);have lp0:=Low.fact ((hB.cell (p:=⟨b,o+(k+1)*5,none⟩) hb).trans p0);have lp1:=Low.fact ((hB.cell (p:=⟨b,o+(k+1)*5+1,none⟩) hb).trans p1);have lp4:=Low.fact ((hB.cell (p:=⟨b,o+(k+1)*5+4,none⟩) hb).trans p4);have lv0:=Low.fact ((hB.cell (p:=⟨b,o+q*5,none⟩) hb).trans v0);have lv1:=Low.fact ((hB.cell (p:=⟨b,o+q*5+1,none⟩) hb).trans v1);have hg':=qH hg;have HH:=qH H;have hl1':=qH hl1;have hl2':=qH hl2;have hh1':=qH hh1;have hh2':=qH hh2;have kl:k<m.ways.length:=by omega
   have kl':(k:Int)<(m.ways.length:Int):=by omega
   have k1:(0:Int)<=(k:Int)+1:=by omega
   have k2:((k:Int)+1).toNat=k+1:=by omega
   have ql':(q:Int)<(m.ways.length:Int):=by omega
   clear u0 u1 p0 p1 p4 v0 v1 hg H hq he1 he2 ht hl1 hl2 hh1 hh2 hd1 hd2 m1 m2 m3 m4 m5 m6 x1 x2 x3 x4 y1 y2 y3 y4 r1 r2 r3 r4;unfold Zc at *;go_wp2
   (refine Zh (by kernel_rfl) (by kernel_rfl) ?_;(iterate 19 (apply Zf;(case hw=>rfl);(case hval=>(intro w1 hw1;have hcx:=Low.cells hw1;simp only [Oper.quietAt];go_simp;first | done | (first | (go_at_call 73;with_reducible exact (Low.calls hw1 (hl1'.out _))) | (go_at_call 72;with_reducible exact (Low.calls hw1 (hh1'.out _)))) | rfl | exact⟨rfl,rfl⟩));simp only [Act.put,zq4,zr4,zs4]));refine wpQuiet_nil ?_;intro w2 hw2)
   obtain⟨wa,rfl⟩:∃ wa,wa=w2:=⟨_,rfl⟩;have hwa:=hw2;clear hw2;replace c0:=fun w1 (h:Low wa w1)=>c0 w1 (Low.tr hwa h)
   replace c1:=fun w1 (h:Low wa w1)=>c1 w1 (Low.tr hwa h)
   replace c2:=fun w1 (h:Low wa w1)=>c2 w1 (Low.tr hwa h)
   replace c3:=fun w1 (h:Low wa w1)=>c3 w1 (Low.tr hwa h)
   replace c4:=fun w1 (h:Low wa w1)=>c4 w1 (Low.tr hwa h)
   replace c5:=fun w1 (h:Low wa w1)=>c5 w1 (Low.tr hwa h)
   replace c6:=fun w1 (h:Low wa w1)=>c6 w1 (Low.tr hwa h)
   replace c7:=fun w1 (h:Low wa w1)=>c7 w1 (Low.tr hwa h)
   replace c8:=fun w1 (h:Low wa w1)=>c8 w1 (Low.tr hwa h)
   replace c9:=fun w1 (h:Low wa w1)=>c9 w1 (Low.tr hwa h)
   replace c10:=fun w1 (h:Low wa w1)=>c10 w1 (Low.tr hwa h)
   replace lp0:=fun w1 (h:Low wa w1)=>lp0 w1 (Low.tr hwa h)
   replace lp1:=fun w1 (h:Low wa w1)=>lp1 w1 (Low.tr hwa h)
   replace lp4:=fun w1 (h:Low wa w1)=>lp4 w1 (Low.tr hwa h)
   replace lv0:=fun w1 (h:Low wa w1)=>lv0 w1 (Low.tr hwa h)
   replace lv1:=fun w1 (h:Low wa w1)=>lv1 w1 (Low.tr hwa h)
   have hza:=hwa.out.size;go_wp2
   (refine Zh (by kernel_rfl) (by kernel_rfl) ?_;(iterate 23 (apply Zf;(case hw=>rfl);(case hval=>(intro w1 hw1;have hcx:=Low.cells hw1;simp only [Oper.quietAt];go_simp;first | done | (first | (go_at_call 73;with_reducible exact (Low.calls hw1 (hl2'.out _))) | (go_at_call 72;with_reducible exact (Low.calls hw1 (hh2'.out _)))) | rfl | exact⟨rfl,rfl⟩));simp only [Act.put,zq4,zr4,zs4]));refine wpQuiet_nil ?_;intro w2 hw2)
   have hW:=Low.tr hwa hw2;go_wp2;go_roundw
   case rel=>exact⟨k+1,by omega,by go_num,by rw [hg'.out,Int.add_assoc],HH.out.below hW.out HH.out.lt,hB.trans (hW.out.mono hB.size)⟩
   case measure=>simp [intOf];omega
  ·obtain rfl:k=m.ways.length-1:=by omega
   have hms:(((m.ways.length-1:Nat):Int))=(m.ways.length:Int)-1:=by omega
   have hd:decide (((m.ways.length-1:Nat):Int)+1<(m.ways.length:Int))=false:=by simp;omega
   clear hms;go_wp2;go_ret;exact⟨rfl,hB⟩
theorem Z1b {m:Msn} (h:¬ VMsn m):validB m=false:=by
 cases e:validB m
 ·rfl
 ·exact absurd ((Zj m).1 e) h
def limitsB (m:Msn):Bool:=inB m.start 0 100000 && inB m.speed 1 20000 && inB m.part 0 500 && inB m.flow 0 5000 && inB m.idle 0 1000 && inB m.drive 0 1000 && inB m.battery 0 1000000000 && inB m.deadline 0 1000000000
theorem Z3r (m:Msn):limitsB m=true↔(0<=m.start/\m.start<=100000)/\legOk m/\(0<=m.idle/\m.idle<=1000)/\(0<=m.drive/\m.drive<=1000)/\(0<=m.battery/\m.battery<=1000000000)/\(0<=m.deadline/\m.deadline<=1000000000):=by
 simp [limitsB,inB,legOk];omega
theorem VMsn.limits {m:Msn} (v:VMsn m):limitsB m=true:=(Z3r m).2 ⟨v.start,v.leg,v.idle,v.drive,v.battery,v.deadline⟩
theorem Z4K (m:Msn) (vw vh vr:Value) (w:World) (hm:MsnAt w.heap.size w m vw vh vr) (h:sizesB m=false) :
  Calls Tryz.prog 7 #[.agg (Zc m vw vh vr)] w fun e w'=>e=qR (.bool (validB m))/\Below w.heap.size w w':=by
 rw [Z1b (fun v=>by
  have:sizesB m=true:=by simp [sizesB];have:=v.n2;have:=v.n41;have:=v.nr;omega
  rw [h] at this;cases this)]
 obtain⟨⟨_,a1,cap1,rfl,_⟩,_,⟨_,a2,cap2,rfl,_⟩⟩:=hm;unfold Zc;by_cases h1:m.ways.length<2
 ·have d1:decide ((m.ways.length:Int)<2)=true:=by simp;omega
  clear h;go_enter Tryz.func7,Tryz.ntmps7;go_wp2;go_ret;exact⟨rfl,zB2⟩
 ·have d1:decide ((m.ways.length:Int)<2)=false:=by simp;omega
  by_cases h2:41<m.ways.length
  ·have d2:decide (41<(m.ways.length:Int))=true:=by simp;omega
   clear h h1 h2;go_enter Tryz.func7,Tryz.ntmps7;go_wp2;go_ret;exact⟨rfl,zB2⟩
  ·have d2:decide (41<(m.ways.length:Int))=false:=by simp;omega
   have h3:100<m.rocks.length:=by simp [sizesB] at h;omega
   have d3:decide (100<(m.rocks.length:Int))=true:=by simp;omega
   clear h h1 h2 h3;go_enter Tryz.func7,Tryz.ntmps7;go_wp2;go_ret;exact⟨rfl,zB2⟩
theorem Z4L (m : Msn) (vw vh vr : Value) (w : World) (hm : MsnAt w.heap.size w m vw vh vr) (h : sizesB m = true) :
  Calls Tryz.prog 7 #[.agg (Zc m vw vh vr)] w fun e w'=>e=qR (.bool (validB m))/\Below w.heap.size w w':=by
 obtain⟨n2,n41,nr⟩:=Z0Y h;have d1:decide ((m.ways.length:Int)<2)=false:=by simp;omega
 have d2:decide (41<(m.ways.length:Int))=false:=by simp;omega
 have d3:decide (100<(m.rocks.length:Int))=false:=by simp;omega
 have hmH:=qH hm;have H0:=Has.new w (Zc m vw vh vr) 26;have H0H:=qH H0;obtain⟨_,a1,cap1,hvw,_⟩:=hm.1;obtain⟨_,a2,cap2,hvr,hrc⟩:=hm.2.2;subst hvw;subst hvr;have hrcH:=qH hrc;clear hm H0 h hrc;unfold Zc;go_enter Tryz.func7,Tryz.ntmps7;go_wp2
 go_loopw [3] (fun i wr=>∃ k:Nat,k<=m.ways.length/\i=O qL k/\(∀ j,j<k->wayB j (wy m.ways j)=true)/\Has wr w.heap.size (Zc m (qS a1 m.ways.length (m.ways.length+cap1)) vh (qS a2 m.rocks.length (m.rocks.length+cap2))) 26/\Below w.heap.size w wr) (fun i _=>m.ways.length-(intOf i).toNat)
 case atStart=>exact⟨0,by omega,rfl,fun j hj=>by omega,H0H.out,(Below.refl _ _).alloc (Nat.le_refl _) _⟩
 case round =>
  obtain⟨k,hk,rfl,hall,H,hB⟩:=hrel;obtain⟨c0,c1,c2,c3,c4,c5,c6,c7,c8,c9,c10⟩:=Zg H;have hall':=qH hall;have HH:=qH H;have hz:=hB.size;have hsz:=H.lt;by_cases hlt:k<m.ways.length
  ·have hwk:=ZaN m (qS a1 m.ways.length (m.ways.length+cap1)) vh (qS a2 m.rocks.length (m.rocks.length+cap2)) k wr ((hmH.out.1.below hB).mono hB.size) hlt (by omega)
   have hwk':=qH hwk;clear hwk hall H;unfold Zc at hwk';cases hpl:wayB k (wy m.ways k)
   ·rw [hpl] at hwk'
    have hr:Hid (validB m=false):=Z1b (fun v=>by have:=Z06 v.ways hlt;rw [hpl] at this;cases this)
    have hpl':=qH hpl;clear hpl;go_wp2_with (go_at_call 29;refine (hwk'.out).mono ?_;rintro e w1 ⟨rfl,hb1⟩;obtain⟨hc1,hf1⟩:=bcell hb1;have hz1:=hb1.size;try simp at hz1)
    go_ret;exact⟨Zs hr.out.symm,zB2⟩
   ·rw [hpl] at hwk'
    have hpl':=qH hpl;clear hpl;go_wp2_with (go_at_call 29;refine (hwk'.out).mono ?_;rintro e w1 ⟨rfl,hb1⟩;obtain⟨hc1,hf1⟩:=bcell hb1;have hz1:=hb1.size;try simp at hz1)
    go_roundw
    case rel =>
     refine⟨k+1,by omega,by go_num,fun j hj=>?_,HH.out.below hb1 hsz,zB2⟩
     by_cases e:j=k
     ·rw [e];exact hpl'.out
     ·exact hall'.out j (by omega)
    case measure=>simp [intOf];omega
  ·obtain rfl:k=m.ways.length:=by omega
   have hwb:Hid (waysB m.ways=true):=by
    show waysB m.ways=true
    simp only [waysB,decide_eq_true_eq];exact hall
   have hp1:=(hmH.out.2.1.below hB).mono hB.size;have hp1':=qH hp1;clear hp1 hall H;have hrv:=fun w1 hp=>Z2m vh m.home w1 hp
   have hlm:=fun w1=>Z8k m (qS a1 m.ways.length (m.ways.length+cap1)) vh (qS a2 m.rocks.length (m.rocks.length+cap2)) w1
   change ∀ w1,Calls _ _ _ _ fun e w'=>e=qR (.bool (limitsB m))/\_ at hlm
   have hrv':=qH hrv;have hlm':=qH hlm;clear hrv hlm;unfold Zc at hlm';go_wp2_with fail;refine (hrv'.out _ hp1'.out).mono ?_;rintro e w1 ⟨rfl,hb1⟩;have H1:=HH.out.below hb1 hsz;have B1:=hB.trans (hb1.mono hz);have z1:=H1.lt;obtain⟨c0,c1,c2,c3,c4,c5,c6,c7,c8,c9,c10⟩:=Zg H1;have H1':=qH H1;clear H1 hb1;go_wp2_with fail;refine (hlm'.out _).mono ?_;rintro e w2 ⟨rfl,hb2⟩;have H2:=H1'.out.below hb2 z1;have B2:=B1.trans (hb2.mono (by omega))
   have z2:=H2.lt;obtain⟨c0,c1,c2,c3,c4,c5,c6,c7,c8,c9,c10⟩:=Zg H2;have H2':=qH H2;clear H2 hb2;cases hh:refValid m.home
   ·have hr:Hid (validB m=false):=Z1b (fun v=>by have:=v.home;rw [Z29,hh] at this;cases this)
    go_wp2;go_ret;exact⟨Zs hr.out.symm,B2⟩
   cases hl:limitsB m
   ·have hr:Hid (validB m=false):=Z1b (fun v=>by have:=v.limits;rw [hl] at this;cases this)
    go_wp2;go_ret;exact⟨Zs hr.out.symm,B2⟩
   obtain⟨l1,l2,l3,l4,l5,l6⟩:=(Z3r m).1 hl;have hL:=qH (qI hh (qI l1 (qI l2 (qI l3 (qI l4 (qI l5 l6))))));clear l1 l2 l3 l4 l5 l6;go_wp2
   go_loopw [7] (fun i wr=>∃ k:Nat,k<=m.rocks.length/\i=O qL k/\(∀ j,j<k->Zb (rk m.rocks j)=true)/\Has wr w.heap.size (Zc m (qS a1 m.ways.length (m.ways.length+cap1)) vh (qS a2 m.rocks.length (m.rocks.length+cap2))) 26/\Below w.heap.size w wr) (fun i _=>m.rocks.length-(intOf i).toNat)
   case atStart=>exact⟨0,by omega,rfl,fun j hj=>by omega,H2'.out,B2⟩
   case round =>
    obtain⟨k,hk,rfl,hall,H,hB3⟩:=hrel;obtain⟨c0,c1,c2,c3,c4,c5,c6,c7,c8,c9,c10⟩:=Zg H;have hall':=qH hall;have HH3:=qH H;have hz3:=hB3.size;have hsz3:=H.lt;clear hall H;by_cases hlt:k<m.rocks.length
    ·obtain⟨b,o,rfl,hb,hcs⟩:∃ b o,a2=some ⟨b,o,none⟩/\b<w.heap.size/\∀ j,j<m.rocks.length->∃ u,w.cell? ⟨b,o+j,none⟩=some u/\Z7 w.heap.size w u (rk m.rocks j):=by
      rcases hrcH.out with h0 | h
      ·rw [h0] at hlt;simp at hlt
      ·exact h
     obtain⟨u,hu,hpu⟩:=hcs k hlt;have cu:=(hB3.cell (p:=⟨b,o+k,none⟩) hb).trans hu;have hpu':=qH ((hpu.below hB3).mono hB3.size);clear hcs hu hpu;cases hpl:refValid (rk m.rocks k)
     ·have hr:Hid (validB m=false):=Z1b (fun v=>by have:=(of_decide_eq_true v.rocks) k hlt;rw [Z29,hpl] at this;cases this)
      go_wp2_with (go_at_call 30;refine (Z2m _ _ _ hpu'.out).mono ?_;rintro e w5 ⟨rfl,hb5⟩;obtain⟨hc5,hf5⟩:=bcell hb5;have hz5:=hb5.size;try simp at hz5)
      go_ret;exact⟨Zs hr.out.symm,zB2⟩
     ·go_wp2_with (go_at_call 30;refine (Z2m _ _ _ hpu'.out).mono ?_;rintro e w5 ⟨rfl,hb5⟩;obtain⟨hc5,hf5⟩:=bcell hb5;have hz5:=hb5.size;try simp at hz5)
      go_roundw
      case rel =>
       refine⟨k+1,by omega,by go_num,fun j hj=>?_,HH3.out.below hb5 hsz3,zB2⟩
       by_cases e:j=k
       ·rw [e,Z29];exact hpl
       ·exact hall'.out j (by omega)
      case measure=>simp [intOf];omega
    ·obtain rfl:k=m.rocks.length:=by omega
     have hrb:Hid (rocksB m.rocks=true):=by
      show rocksB m.rocks=true
      simp only [rocksB,decide_eq_true_eq];exact hall'.out
     obtain⟨hh,l1,l2,l3,l4,l5,l6⟩:=hL.out;have hgr:=Z8a m (qS a1 m.ways.length (m.ways.length+cap1)) vh (qS a2 m.rocks.length (m.rocks.length+cap2)) wr l2 l1 ((hmH.out.1.below hB3).mono hB3.size) n2 n41 hwb.out;have hv:Hid (validB m=decide (grownV m<=100000)):=by
      show validB m=_
      rw [Bool.eq_iff_iff,Zj,decide_eq_true_iff];exact⟨fun v=>v.grown,fun g=>⟨n2,n41,nr,hwb.out,by rw [Z29];exact hh,hrb.out,l1,l2,l3,l4,l5,l6,g⟩⟩
     have hgr':=qH hgr;clear hgr hh l1 l2 l3 l4 l5 l6;unfold Zc at hgr';go_wp2_with (go_at_call 32;refine (hgr'.out).mono ?_;rintro e w5 ⟨rfl,hb5⟩;obtain⟨hc5,hf5⟩:=bcell hb5;have hz5:=hb5.size;try simp at hz5)
     go_ret;exact⟨Zs hv.out.symm,zB2⟩
theorem Z5t (m:Msn) (vw vh vr:Value) (w:World) (hm:MsnAt w.heap.size w m vw vh vr) :
  Calls Tryz.prog 7 #[.agg (Zc m vw vh vr)] w fun e w'=>e=qR (.bool (validB m))/\Below w.heap.size w w':=by
 cases h:sizesB m
 ·exact Z4K m vw vh vr w hm h
 ·exact Z4L m vw vh vr w hm h
end
section
attribute [local go_sem] Oper.semAt_some
attribute [local irreducible] wpQuiet
open Go.RowKit Go.Shelf
theorem Zbe (m:Msn) (vw vh vr:Value) (k:Int) (w:World) :
  Calls Tryz.prog 61 #[.agg (Zc m vw vh vr),O qL k] w fun e w'=>e=qR (.func (.func 111) #[] #[.pointer (some ⟨w.heap.size+1,0,none⟩),.pointer (some ⟨w.heap.size,0,none⟩)])/\(w.alloc (.cells (Zc m vw vh vr) 26)).alloc (.cells #[O qL k] 3)=w':=by
 unfold Zc;go_enter Tryz.func61,Tryz.ntmps61;go_wp2;go_ret;exact⟨rfl,rfl⟩
def cellN (w:World) (b:Nat):Nat:=match w.cell? ⟨b,0,none⟩ with | some v=>(intOf v).toNat | none=>0
theorem Z7I {w:World} {b:Nat} {k:Nat} (h:w.cell? ⟨b,0,none⟩=some (O qL k)):cellN w b=k:=by unfold cellN;rw [h];simp [intOf]
theorem Zbf (n : Nat) (hn : 1 <= n) (p : Nat -> Prop) (m : Msn) (vw vh vr : Value) (k : Nat) (Bw Bm b o cap : Nat) (W : World) (l : Nat) (hwb : waysB m.ways = true) (hk : k < m.ways.length)
  (hvw:vw=qS (some ⟨b,o,none⟩) m.ways.length (m.ways.length+cap)) (hc:∀ j,j<m.ways.length->W.cell? ⟨b,o+j*5+3+1,none⟩=some (O qL (wy m.ways j).back))
  (p1:p Bw) (p2:p Bm) (p3:p b) (hb:b≠Bw) (hBm:Bm≠Bw) (J Jx:List Nat->World->Prop)
  (hJ:∀ s A B,J s A->MoveM (fun r=>r=Bw) A B->J s B)
  (hY:∀ (pre:List Nat) (x:Nat) W1,J pre W1->pre.length<dep m k+1->W.heap.size<=W1.heap.size->YieldAt Fence.wide (n-1) Tryz.prog l #[O qL (x:Int)] W1 fun e W' =>
   (e=qR (.bool true)/\J (pre++[x]) W'/\KeepsP p W1 W')\/(e=qR (.bool false)/\Jx (pre++[x]) W'))
  (hB:Boxed W Bw 3 (O qL k)) (HM:Has W Bm (Zc m vw vh vr) 26) (h0:J [] W) :
  CallsIn Fence.wide n Tryz.prog 111 #[.func (.yield l) #[] #[],.pointer (some ⟨Bw,0,none⟩),.pointer (some ⟨Bm,0,none⟩)] W fun e W'=>(∃ v,e=qR v) /\
   ((∃ ys,ys=upto (itB m k) (dep m k+1)/\J ys W')\/(∃ pre,(∃ j,j<=dep m k+1/\pre=upto (itB m k) j)/\Jx pre W')):=by
 have hcH:=qH hc;clear hc;refine callsIn_of_wp Tryz.func111 rfl trivial ?_ rfl;simp only [Tryz.ntmps111,List.size_toArray,List.length_cons,List.length_nil,Nat.reduceAdd,Nat.reduceSub,Array.replicate_succ,Array.replicate_zero,List.push_toArray,List.append_toArray,List.nil_append,List.cons_append];gi_wp2
 gi_loopw [4] (fun _ wr=>∃ j:Nat,j<=dep m k/\J (upto (itB m k) j) wr/\Boxed wr Bw 3 (O qL (itB m k j))/\Has wr Bm (Zc m vw vh vr) 26/\wr.heap[b]?=W.heap[b]?/\W.heap.size<=wr.heap.size)
  (fun _ wr=>cellN wr Bw)
 case atStart=>exact⟨0,Nat.zero_le _,h0,hB,HM,rfl,Nat.le_refl _⟩
 case round =>
  obtain⟨j,hj,hJs,hbx,hms,hbb,hsz⟩:=hrel;have hlt:=Z0S hwb hk hj;have c1:=hbx.cell;obtain⟨fn,tmps,assign,body,hy,hR⟩:=hY _ (itB m k j) _ hJs (by rw [Zq];omega) hsz
  have hH:=qH (qI hbx (qI hms hbb));have hJ':=qH hJs;have hwb':=qH hwb;have hB':=qH hB;have HM':=qH HM;have hj':=qH hj;clear hbx hms hbb hJs hwb hB HM hj;gi_wp2;refine hR.mono ?_;rintro e W3 (⟨rfl,hJ3,hk3⟩ | ⟨rfl,hJx3⟩)
  ·obtain⟨hbx,hms,hbb⟩:=hH.out
   have hbx3:Boxed W3 Bw 3 (O qL (itB m k j)):=(hk3.2 Bw p1).trans hbx;have hms3:Has W3 Bm (Zc m vw vh vr) 26:=(hk3.2 Bm p2).trans hms;have hbb3:W3.heap[b]?=W.heap[b]?:=(hk3.2 b p3).trans hbb;have hsz3:=Nat.le_trans hsz hk3.1;have c3:=hbx3.cell;have hJ3':=qH hJ3;clear hbx hms hbb hJ3 hk3 hy hR c1;by_cases hz:itB m k j=0
   ·rw [hz] at c3
    have hz':=qH hz;clear hz;have hX:=qH (qI hbx3 (qI hms3 hbb3));clear hbx3 hms3 hbb3;gi_wp2;go_end0;refine⟨⟨_,rfl⟩,.inl ⟨_,rfl,?_⟩⟩;rw [<- Z6R hwb'.out hk hj'.out hz'.out,ZA];exact hJ3'.out
   ·have hpos:0<itB m k j:=by omega
    have hjd:j<dep m k:=by
     rcases Nat.lt_or_ge j (dep m k) with h | h
     ·exact h
     ·exfalso
      have:j=dep m k:=by have:=hj'.out;omega
      rw [this] at hz;exact hz (Z6S hwb'.out hk)
    have hdec:=Z9B hwb'.out hk hjd;have hbk:=Z0B hwb'.out hlt;obtain⟨q,hq⟩:∃ q:Nat,(wy m.ways (itB m k j)).back=q:=⟨_,(Int.toNat_of_nonneg hbk.1).symm⟩;have hq2:itB m k (j+1)=q:=by show (wy m.ways (itB m k j)).back.toNat=q;rw [hq];rfl
    have d1:W3.cell? ⟨b,o+itB m k j*5+3+1,none⟩=some (O qL q):=by rw [<- hq,World.cell?_of_block hbb3];exact hcH.out _ hlt
    have d2:W3.cell? ⟨Bm,0,none⟩=some (qS (some ⟨b,o,none⟩) m.ways.length (m.ways.length+cap)):=by rw [<- hvw];exact hms3.cell (i:=0) rfl
    have f3:=hbx3.frozen;have hX:=qH (qI hbx3 (qI hms3 hbb3));have hq':=qH (qI hq hq2);rw [hq2] at hdec;rw [hq] at hbk;have hil:(itB m k j:Int)<m.ways.length:=by omega
    clear hbx3 hms3 hbb3 hq hq2 hz;gi_wp2;obtain⟨hbx3,hms3,hbb3⟩:=hX.out;refine⟨⟨j+1,by omega,?_,?_,?_,?_,by simpa [World.setCell] using hsz3⟩,?_⟩
    ·rw [ZA];exact hJ _ _ _ hJ3'.out (MoveM.set rfl c3)
    ·rw [hq'.out.2];exact hbx3.set _
    ·exact (Below.heap_setCell W3 ⟨Bw,0,none⟩ _ Bm hBm).trans hms3
    ·exact (Below.heap_setCell W3 ⟨Bw,0,none⟩ _ b hb).trans hbb3
    ·rw [Z7I (hbx3.set _).cell,Z7I hH.out.1.cell];exact hdec
  ·gi_wp2
   go_end0;exact⟨⟨_,rfl⟩,.inr ⟨_,⟨j+1,by have:=hj'.out;omega,(ZA _ _).symm⟩,hJx3⟩⟩
theorem Zbd (n:Nat) (hn:1<=n) (p:Nat->Prop) (m:Msn) (vw vh vr:Value) (k:Nat) (Bw Bm n0:Nat) (w:World) (hwb:waysB m.ways=true) (hk:k<m.ways.length)
  (hw:WaysAt n0 w vw m.ways) (p1:p Bw) (p2:p Bm) (p3:∀ b,b<n0->p b) (hn0:n0<=Bw) (hBm:Bm≠Bw) (hB:Boxed w Bw 3 (O qL k)) (HM:Has w Bm (Zc m vw vh vr) 26) :
  SeqM n Tryz.prog 111 #[.pointer (some ⟨Bw,0,none⟩),.pointer (some ⟨Bm,0,none⟩)] (fun x:Nat=>#[O qL (x:Int)]) (fun _=>KeepsP p) (fun _ r=>r=Bw) 0 (dep m k+1)
   (fun ys=>ys=upto (itB m k) (dep m k+1)) (fun pre=>∃ j,j<=dep m k+1/\pre=upto (itB m k) j) w:=fun l J Jx W hW hJ _ hY h0=>by
 have hlt:=hB.lt;obtain⟨hl,a,cap,rfl,hcs⟩:=hw.below (hW.mono (by omega))
 rcases hcs with h | ⟨b,o,rfl,hb,hcs⟩
 ·rw [h] at hk;simp at hk
 ·exact Zbf n hn p m _ vh vr k Bw Bm b o cap W l hwb hk rfl (fun j hj=>(hcs j hj).2.2.2.2) p1 p2 (p3 b hb) (by omega) hBm J Jx hJ
   (fun pre x W1 h1 h2 h3=>hY pre x W1 h1 h2 h3) ((hW.block Bw hB.lt).trans hB) (HM.below hW HM.lt) h0
end
section
attribute [local irreducible] wpQuiet
open Go.RowKit
def fewTo (l:List (List Pt)):Nat->Nat
 | 0=>0
 | k+1=>fewTo l k+(rk l k).length
def fewB (m:Msn):Bool:=decide (m.ways.length<=8) && decide (m.rocks.length<=12) && decide (fewTo m.rocks (min m.rocks.length 13)<=120) && decide (m.home.length<=80)
theorem Zct (m : Msn) (vw vh vr : Value) (w : World) (hm : MsnAt w.heap.size w m vw vh vr) :
  Calls Tryz.prog 6 #[.agg (Zc m vw vh vr)] w fun e w'=>e=qR (.bool (fewB m))/\Below w.heap.size w w':=by
 obtain⟨_,a1,cap1,rfl,_⟩:=hm.1;obtain⟨_,a2,cap2,rfl,_⟩:=hm.2.1;obtain⟨hlr,a3,cap3,rfl,hrc⟩:=hm.2.2;have H0:=Has.new w (Zc m (qS a1 m.ways.length (m.ways.length+cap1)) (qS a2 m.home.length (m.home.length+cap2)) (qS a3 m.rocks.length (m.rocks.length+cap3))) 26;have H0H:=qH H0;have hrcH:=qH hrc;clear hm H0 hrc;unfold Zc;go_enter Tryz.func6,Tryz.ntmps6;go_wp2
 go_loopw [3,4] (fun s i wr=>∃ k:Nat,k<=m.rocks.length/\k<=13/\i=O qL k/\s=O qL (fewTo m.rocks k:Nat)/\fewTo m.rocks k<=k*70368744177663/\Has wr w.heap.size (Zc m (qS a1 m.ways.length (m.ways.length+cap1)) (qS a2 m.home.length (m.home.length+cap2)) (qS a3 m.rocks.length (m.rocks.length+cap3))) 26/\Below w.heap.size w wr) (fun _ i _=>13-(intOf i).toNat)
 case atStart=>exact⟨0,by omega,by omega,rfl,rfl,by simp [fewTo],H0H.out,(Below.refl _ _).alloc (Nat.le_refl _) _⟩
 case round =>
  obtain⟨k,hk,hk13,rfl,rfl,hsm,H,hB⟩:=hrel;obtain⟨c0,c1,c2,c3,c4,c5,c6,c7,c8,c9,c10⟩:=Zg H;have HH:=qH H;clear H;by_cases hlt:k<m.rocks.length
  ·have e1:decide ((k:Int)<m.rocks.length)=true:=by simp;omega
   by_cases h13:k<13
   ·have e2:decide ((k:Int)<13)=true:=by simp;omega
    obtain⟨b,o,rfl,hb,hcs⟩:∃ b o,a3=some ⟨b,o,none⟩/\b<w.heap.size/\∀ j,j<m.rocks.length->∃ u,w.cell? ⟨b,o+j,none⟩=some u/\Z7 w.heap.size w u (rk m.rocks j):=by
     rcases hrcH.out with h0 | h
     ·rw [h0] at hlt;simp at hlt
     ·exact h
    obtain⟨u,hu,⟨hlu,a,cap,rfl,_⟩⟩:=hcs k hlt;have cu:=(hB.cell (p:=⟨b,o+k,none⟩) hb).trans hu;have hs1:fewTo m.rocks (k+1)=fewTo m.rocks k+(rk m.rocks k).length:=rfl;have hs1':=qH hs1;clear hcs hu hs1;go_wp2;go_roundw
    case rel=>exact⟨k+1,by omega,by omega,by go_num,by rw [hs1'.out];go_num,by rw [hs1'.out];omega,HH.out,hB⟩
    case measure=>simp [intOf];omega
   ·obtain rfl:k=13:=by omega
    have e2:decide ((13:Int)<13)=false:=by simp
    have hn:Hid (fewB m=false):=by show fewB m=false;simp [fewB];omega
    by_cases g1:m.ways.length<=8
    ·have f1:decide ((m.ways.length:Int)<=8)=true:=by simp;omega
     have f2:decide ((m.rocks.length:Int)<=12)=false:=by simp;omega
     go_wp2;go_ret;exact⟨Zs hn.out.symm,hB⟩
    ·have f1:decide ((m.ways.length:Int)<=8)=false:=by simp;omega
     go_wp2;go_ret;exact⟨Zs hn.out.symm,hB⟩
  ·obtain rfl:k=m.rocks.length:=by omega
   have e1:decide ((m.rocks.length:Int)<m.rocks.length)=false:=by simp
   have hmin:min m.rocks.length 13=m.rocks.length:=by omega
   by_cases g1:m.ways.length<=8
   ·have f1:decide ((m.ways.length:Int)<=8)=true:=by simp;omega
    by_cases g2:m.rocks.length<=12
    ·have f2:decide ((m.rocks.length:Int)<=12)=true:=by simp;omega
     by_cases g3:fewTo m.rocks m.rocks.length<=120
     ·have f3:decide (((fewTo m.rocks m.rocks.length:Nat):Int)<=120)=true:=by simp;omega
      have hn:Hid (fewB m=decide (m.home.length<=80)):=by show fewB m=_;simp [fewB,hmin,g1,g2,g3]
      by_cases g4:m.home.length<=80
      ·have f4:decide ((m.home.length:Int)<=80)=true:=by simp;omega
       clear hmin;go_wp2;go_ret;exact⟨Zs (by rw [hn.out];simp [g4]),hB⟩
      ·have f4:decide ((m.home.length:Int)<=80)=false:=by simp;omega
       clear hmin;go_wp2;go_ret;exact⟨Zs (by rw [hn.out];simp [g4]),hB⟩
     ·have f3:decide (((fewTo m.rocks m.rocks.length:Nat):Int)<=120)=false:=by simp;omega
      have hn:Hid (fewB m=false):=by show fewB m=false;simp [fewB,hmin,g3]
      clear hmin;go_wp2;go_ret;exact⟨Zs hn.out.symm,hB⟩
    ·have f2:decide ((m.rocks.length:Int)<=12)=false:=by simp;omega
     have hn:Hid (fewB m=false):=by show fewB m=false;simp [fewB,g2]
     clear hmin;go_wp2;go_ret;exact⟨Zs hn.out.symm,hB⟩
   ·have f1:decide ((m.ways.length:Int)<=8)=false:=by simp;omega
    have hn:Hid (fewB m=false):=by show fewB m=false;simp [fewB,g1]
    clear hmin;go_wp2;go_ret;exact⟨Zs hn.out.symm,hB⟩
end
end Go.Proofs.YthipcinibldgnaaGreat
