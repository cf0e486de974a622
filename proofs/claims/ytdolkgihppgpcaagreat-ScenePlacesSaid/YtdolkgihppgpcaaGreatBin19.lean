/- package rocks: First, Hit. | Plain: what Has, Common, First and Hit say of one another. | Plain geometry: polygons that have a point in common touc .. -/
import Derived.WalkMore
import Derived.Test.YtdolkgihppgpcaaGreatBin18
import Derived.Deep.CutRange
set_option linter.unusedSimpArgs false
set_option maxRecDepth 8000
set_option maxHeartbeats 1600000
namespace Go.Proofs.YtdolkgihppgpcaaGreat
section
attribute [local irreducible] wpQuiet
open Go.RowKit
noncomputable def hitTo (c:List Pt) (ls:List (List Pt)):Nat→Option Nat
 | 0=>none
 | k+1=>if (hitTo c ls k).isSome=true then hitTo c ls k else if touchB c (rk ls k)=true then some k else none
def natO (o:Option Nat):Int:=match o with | some k=>k | none=>0
open Classical in
noncomputable def okRocks (c:List Pt) (ls:List (List Pt)):Bool:=Zb c && decide (∀ j,j<ls.length→Zb (rk ls j)=true)
noncomputable def firI (c:List Pt) (ls:List (List Pt)):Int:=if ls.length≤100∧okRocks c ls=true then natO (hitTo c ls ls.length) else 0
noncomputable def firB (c:List Pt) (ls:List (List Pt)):Bool:=if ls.length≤100∧okRocks c ls=true then (hitTo c ls ls.length).isSome else false
noncomputable def firE (c:List Pt) (ls:List (List Pt)):Int:=if ls.length≤100 then (if okRocks c ls=true then 0 else 1) else 2
theorem Z81 {c:List Pt} {ls:List (List Pt)} (h:ls.length≤100) (hk:okRocks c ls=false):firI c ls=0∧firB c ls=false∧firE c ls=1:=by
 unfold firI firB firE;simp [h,hk]
theorem Z2F (vc vr : Value) (c : List Pt) (ls : List (List Pt)) (w : World) (hc : Z8 w.heap.size w vc c) (hr : Z7 w.heap.size w vr ls) :
  Calls Tryz.prog 107 #[vc,vr] w fun e w'=>e=.returned (.tuple #[.int .i64 (firI c ls),.bool (firB c ls),.int .i64 (firE c ls)])∧Below w.heap.size w w':=by
 obtain⟨_,ar,capr,rfl,hrc⟩:=hr;by_cases hbig:100<ls.length
 ·have d1:decide ((ls.length:Int)>100)=true:=by rw [decide_eq_true_eq];omega
  have HR:=Lib.hid (show firI c ls=0∧firB c ls=false∧firE c ls=2 by unfold firI firB firE;simp [show ¬ ls.length≤100 by omega])
  obtain⟨ap,capp,rfl⟩:=hc.len;clear hbig hrc hc;go_enter Tryz.func107,Tryz.ntmps107;go_wp2
  go_step3
  go_wp2
  (try rw [Exit.noGoto_ret]);go_ret3
  exact⟨by rw [HR.out.1,HR.out.2.1,HR.out.2.2];rfl,Below.refl _ _⟩
 ·have d1 : decide ((ls.length : Int) > 100) = false := by rw [decide_eq_false_iff_not]; omega
  have hle:ls.length≤100:=by omega
  have f1:=Lib.hid (fun w1 (B:Below w.heap.size w w1)=>Z1Y vc c w1 ((hc.below B).mono B.size))
  have f2:=Lib.hid (fun w1 (B:Below w.heap.size w w1)=>Zo vc c w1 ((hc.below B).mono B.size))
  have HP:=Lib.hid hc;obtain⟨ap,capp,rfl⟩:=hc.len;have HRC:=Lib.hid hrc;have hA:=(Below.refl w.heap.size w).alloc (Nat.le_refl _) (.cells #[.slice ap c.length (c.length+capp)] 23);have hN:=Lib.hid (Has.new w #[.slice ap c.length (c.length+capp)] 23);have HA:=Lib.hid hA;have hs0:w.heap.size<(w.alloc (.cells #[.slice ap c.length (c.length+capp)] 23)).heap.size:=by simp
  obtain⟨gc,hgc⟩:∃ g,Zb c=g:=⟨_,rfl⟩;rw [hgc] at f2;have HGC:=Lib.hid hgc;clear hbig hrc hc hA hgc;go_enter Tryz.func107,Tryz.ntmps107;go_wp2
  go_step3
  go_wp2_with fail;refine (f1.out _ (Below.refl _ _)).mono ?_;rintro e w1 ⟨rfl,rfl⟩;go_wp2_with fail;refine (f2.out _ HA.out).mono ?_;rintro e w2 ⟨rfl,hb2⟩;have G2:=Lib.hid (hN.out.below hb2 hs0);have B2:=zAg HA hb2;have hs2:=G2.out.lt;clear hb2;go_wp2
  go_step3
  go_wp2
  go_loopw [8,9,10,22] (fun x y r i wr=>∃ k:Nat,k≤ls.length∧i=.int .i64 (k:Int)∧r=.bool gc∧x=.int .i64 (natO (hitTo c ls k))∧y=.bool (hitTo c ls k).isSome∧(∀ j,j<k→Zb (rk ls j)=true)∧Below w2.heap.size w2 wr) (fun _ _ _ i _=>ls.length-(intOf i).toNat)
  case atStart=>exact⟨0,by omega,rfl,rfl,rfl,rfl,fun j h=>by omega,Below.refl _ _⟩
  case round =>
   obtain⟨k,hk,rfl,rfl,rfl,rfl,hall,hB⟩:=hrel;have BB:=B2.out.trans (hB.mono B2.out.size);have G:=G2.out.below hB hs2;have hzr:=hB.size;have HALL:=Lib.hid hall;clear hall;by_cases hlt:k<ls.length
   ·obtain ⟨b, o, rfl, hb, hcc⟩ : ∃ b o, ar = some ⟨b, o, none⟩ ∧ b < w.heap.size ∧ ∀ j, j < ls.length → ∃ u, w.cell? ⟨b, o + j, none⟩ = some u ∧ Z8 w.heap.size w u (rk ls j) := by
     rcases HRC.out with h | h
     ·rw [h] at hlt;simp at hlt
     ·exact h
    obtain⟨u,hu,hpu⟩:=hcc k hlt;have e0:=(BB.cell (p:=⟨b,o+k,none⟩) hb).trans hu;have hpz:=(hpu.below BB).mono BB.size;have hv:=Lib.hid (Zo u (rk ls k) wr hpz);have hcw:=G.cell (i:=0) rfl;have hst:Hid (hitTo c ls (k+1)=if (hitTo c ls k).isSome=true then hitTo c ls k else if touchB c (rk ls k)=true then some k else none):=rfl
    obtain⟨au,cu,rfl⟩:=hpu.len;have dk:decide ((k:Int)<(ls.length:Int))=true:=by simp;omega
    have kl:(k:Int)<ls.length:=by omega
    have k0:(0:Int)≤k:=by omega
    have HB:=Lib.hid hB;have HBB:=Lib.hid BB;have HG:=Lib.hid G;have HPZ:=Lib.hid hpz;have HPC:=Lib.hid ((HP.out.below BB).mono BB.size);clear hcc hu hpu hB BB G hpz hcw;generalize hht:hitTo c ls k=ht at *;cases hg:Zb (rk ls k)
    ·have HR:=Lib.hid (Z81 hle (show okRocks c ls=false by
      unfold okRocks;rw [Bool.and_eq_false_iff]
      right
      refine decide_eq_false fun h=>?_
      have:=h k hlt;rw [hg] at this;cases this))
     rw [hg] at hv;clear hg hht;go_wp2_with fail;refine hv.out.mono ?_;rintro e w3 ⟨rfl,hb3⟩;have B3:=zAg HBB hb3;clear hb3;go_wp2
     (try rw [Exit.noGoto_ret]);go_ret3
     exact⟨by rw [HR.out.1,HR.out.2.1,HR.out.2.2];rfl,B3.out⟩
    ·rw [hg] at hv
     have HALL2:Hid (∀ j,j<k+1→Zb (rk ls j)=true):=fun j hj=>by
      by_cases e:j=k
      ·rw [e];exact hg
      ·exact HALL.out j (by omega)
     clear hg;go_wp2_with fail;refine hv.out.mono ?_;rintro e w3 ⟨rfl,hb3⟩;have B3:=Lib.hid (HB.out.trans (hb3.mono (by omega)))
     have G3:=HG.out.below hb3 HG.out.lt;have c3:=Lib.hid (G3.cell (i:=0) rfl);have HP3:=Lib.hid ((HPC.out.below hb3).mono hb3.size);have HZ3:=Lib.hid ((HPZ.out.below hb3).mono hb3.size);have hz3:=B3.out.size;clear hb3 G3;cases ht with
     | some q =>
      have hst2:Hid (hitTo c ls (k+1)=some q):=by show _=_;rw [hst.out];rfl
      go_wp2;go_roundw
      case rel=>exact⟨k+1,by omega,by go_num,rfl,by rw [hst2.out],by rw [hst2.out];rfl,HALL2.out,B3.out⟩
      case measure=>simp [intOf];omega
     | none =>
      cases gc
      ·have hst2:Hid (hitTo c ls (k+1)=none):=by
        show _=_
        rw [hst.out];have:touchB c (rk ls k)=false:=by unfold touchB;rw [HGC.out];rfl
        rw [this];rfl
       go_wp2;go_roundw
       case rel=>exact⟨k+1,by omega,by go_num,rfl,by rw [hst2.out],by rw [hst2.out];rfl,HALL2.out,B3.out⟩
       case measure=>simp [intOf];omega
      ·have ht:=Lib.hid (Z1l w.heap.size _ _ c (rk ls k) w3 c3.out HP3.out HZ3.out)
       go_wp2_with fail;refine ht.out.mono ?_;rintro e w4 ⟨rfl,hb4⟩;have B4:=Lib.hid (B3.out.trans (hb4.mono (by omega)))
       clear hb4;cases htb:touchB c (rk ls k)
       ·have hst2:Hid (hitTo c ls (k+1)=none):=by show _=_;rw [hst.out,htb];rfl
        clear htb;go_wp2;go_roundw
        case rel=>exact⟨k+1,by omega,by go_num,rfl,by rw [hst2.out],by rw [hst2.out];rfl,HALL2.out,B4.out⟩
        case measure=>simp [intOf];omega
       ·have hst2:Hid (hitTo c ls (k+1)=some k):=by show _=_;rw [hst.out,htb];rfl
        clear htb;go_wp2;go_roundw
        case rel=>exact⟨k+1,by omega,by go_num,rfl,by rw [hst2.out];rfl,by rw [hst2.out];rfl,HALL2.out,B4.out⟩
        case measure=>simp [intOf];omega
   ·obtain rfl:k=ls.length:=by omega
    have dk:decide ((ls.length:Int)<(ls.length:Int))=false:=by simp
    have HBB:=Lib.hid BB;clear hB BB G;cases gc
    ·have HR:=Lib.hid (Z81 hle (show okRocks c ls=false by unfold okRocks;rw [HGC.out];rfl))
     generalize hitTo c ls ls.length=ht at *;go_wp2
     (try rw [Exit.noGoto_ret]);go_ret3
     exact⟨by rw [HR.out.1,HR.out.2.1,HR.out.2.2];rfl,HBB.out⟩
    ·have hok:okRocks c ls=true:=by
      unfold okRocks;rw [HGC.out,Bool.true_and];exact decide_eq_true HALL.out
     have HR:=Lib.hid (show firI c ls=natO (hitTo c ls ls.length)∧firB c ls=(hitTo c ls ls.length).isSome∧firE c ls=0 by unfold firI firB firE;simp [hle,hok])
     clear hok;go_wp2
     (try rw [Exit.noGoto_ret]);go_ret3
     exact⟨by rw [HR.out.1,HR.out.2.1,HR.out.2.2];rfl,HBB.out⟩
theorem Z6M (vp vq:Value) (l m:List Pt) (w:World) (hp:Z8 w.heap.size w vp l) (hq:Z8 w.heap.size w vq m) :
  Calls Tryz.prog 131 #[vp,vq] w fun e w'=>e=.returned (.tuple #[.agg #[.int .i64 (if (Zb l && Zb m)=true then optX (comX l m) else 0),.int .i64 (if (Zb l && Zb m)=true then optY (comX l m) else 0)],.bool (Zb l && Zb m && (comX l m).isSome),.int .i64 (bothE l m)])∧Below w.heap.size w w':=by
 unfold bothE;cases h:(Zb l && Zb m)
 ·exact Z8k vp vq l m w hp hq h
 ·simp only [Bool.and_eq_true] at h
  exact Z6L vp vq l m w hp hq h.1 h.2
noncomputable def hitX (l m:List Pt):Int:=if (Zb l && Zb m)=true then optX (comX l m) else 0
noncomputable def hitY (l m:List Pt):Int:=if (Zb l && Zb m)=true then optY (comX l m) else 0
noncomputable def hitB (l m:List Pt):Bool:=Zb l && Zb m && (comX l m).isSome
noncomputable def hitE (l m:List Pt):Int:=if (Zb l && Zb m)=true then (if (comX l m).isSome=true then 0 else if touchB l m=true then 20 else 0) else 1
theorem Z8R {o:Option Pt} (h:o.isSome=false):optX o=0∧optY o=0:=by
 cases o
 ·exact⟨rfl,rfl⟩
 ·cases h
theorem Za5 (vp vq : Value) (l m : List Pt) (w : World) (hp : Z8 w.heap.size w vp l) (hq : Z8 w.heap.size w vq m) :
  Calls Tryz.prog 108 #[vp,vq] w fun e w'=>e=.returned (.tuple #[.agg #[.int .i64 (hitX l m),.int .i64 (hitY l m)],.bool (hitB l m),.int .i64 (hitE l m)])∧Below w.heap.size w w':=by
 have f1:=Lib.hid (fun w1 (B:Below w.heap.size w w1)=>Z6M vp vq l m w1 ((hp.below B).mono B.size) ((hq.below B).mono B.size))
 have f2:=Lib.hid (fun w1 (B:Below w.heap.size w w1)=>Z1Y vp l w1 ((hp.below B).mono B.size))
 have f3:=Lib.hid (fun Bc w1 (B:Below w.heap.size w w1) hc=>Z1l Bc vp vq l m w1 hc ((hp.below B).mono B.size) ((hq.below B).mono B.size))
 obtain⟨ap,capp,rfl⟩:=hp.len;obtain⟨aq,capq,rfl⟩:=hq.len;have hA:=(Below.refl w.heap.size w).alloc (Nat.le_refl _) (.cells #[.int .i64 0,.int .i64 0] 31);have hN:=Lib.hid (Has.new w #[.int .i64 0,.int .i64 0] 31);have HA:=Lib.hid hA;have hs1:w.heap.size<(w.alloc (.cells #[.int .i64 0,.int .i64 0] 31)).heap.size:=by simp
 obtain⟨X,hX⟩:∃ X,(if (Zb l && Zb m)=true then optX (comX l m) else 0)=X:=⟨_,rfl⟩
 obtain⟨Y,hY⟩:∃ Y,(if (Zb l && Zb m)=true then optY (comX l m) else 0)=Y:=⟨_,rfl⟩
 have hXX:hitX l m=X:=hX;have hYY:hitY l m=Y:=hY;rw [hX,hY] at f1;rw [hXX,hYY];clear hp hq hA hXX hYY;have fin:∀ (w1:World) (b:Bool) (e x y:Int),Has w1 w.heap.size #[.int .i64 0,.int .i64 0] 31→Below w.heap.size w w1 →
   (w1.cell? ⟨w.heap.size,0,none⟩=some (.int .i64 0)∧w1.cell? ⟨w.heap.size,1,none⟩=some (.int .i64 0)∧w1.frozen? ⟨w.heap.size,0,none⟩=false∧w1.frozen? ⟨w.heap.size,1,none⟩=false) ∧
   (((w1.setCell ⟨w.heap.size,0,none⟩ (.int .i64 x)).setCell ⟨w.heap.size,1,none⟩ (.int .i64 y)).cell? ⟨w.heap.size,0,none⟩=some (.int .i64 x)∧((w1.setCell ⟨w.heap.size,0,none⟩ (.int .i64 x)).setCell ⟨w.heap.size,1,none⟩ (.int .i64 y)).cell? ⟨w.heap.size,1,none⟩=some (.int .i64 y)) ∧
   Below w.heap.size w ((w1.setCell ⟨w.heap.size,0,none⟩ (.int .i64 x)).setCell ⟨w.heap.size,1,none⟩ (.int .i64 y)):=fun w1 b e x y G B=>by
  have HZ:=(G.set 0 (.int .i64 x)).set 1 (.int .i64 y);exact⟨⟨G.cell (i:=0) rfl,G.cell (i:=1) rfl,Ze G 0,Ze G 1⟩,⟨HZ.cell (i:=0) rfl,HZ.cell (i:=1) rfl⟩,(B.setCell (p:=⟨w.heap.size,0,none⟩) (by simp) _).setCell (p:=⟨w.heap.size,1,none⟩) (by simp) _⟩
 have FIN:=Lib.hid fin;clear fin;cases hv:(Zb l && Zb m)
 ·have HR:=Lib.hid (show hitB l m=false∧hitE l m=1∧bothE l m=1 by unfold hitB hitE bothE;rw [hv];simp)
  rw [HR.out.2.2,hv] at f1;simp only [Bool.false_and] at f1;clear hv hX hY;go_enter Tryz.func108,Tryz.ntmps108;go_wp2_with fail;refine (f1.out _ HA.out).mono ?_;rintro e w1 ⟨rfl,hb1⟩;have G1:=hN.out.below hb1 hs1;have B1:=HA.out.trans (hb1.mono HA.out.size);have hA2:=(Below.refl w1.heap.size w1).alloc (Nat.le_refl _) (.cells #[.int .i64 X,.int .i64 Y] 31);obtain⟨⟨x0,x1,y0,y1⟩,⟨z0,z1⟩,BZ⟩:=FIN.out _ false 1 X Y (G1.below hA2 G1.lt) (B1.trans (hA2.mono B1.size));have BZ':=Lib.hid BZ;clear hb1 G1 B1 hA2 BZ;go_wp2;exact bodyPost_ret (v:=.tuple #[.agg #[.int .i64 X,.int .i64 Y],.bool false,.int .i64 1]) (by simp [results,Tryz.f108,go_sem,z0,z1]) rfl ⟨by rw [HR.out.1,HR.out.2.1],BZ'.out⟩
 ·rw [hv] at hX hY
  simp only [if_true] at hX hY;cases hs:(comX l m).isSome
  ·have h0:=Z8R hs
   rw [hX,hY] at h0;obtain⟨rfl,rfl⟩:=h0;have HR:=Lib.hid (show hitB l m=false∧hitE l m=(if touchB l m=true then 20 else 0)∧bothE l m=0 by unfold hitB hitE bothE;rw [hv,hs];simp)
   rw [HR.out.2.2,hv,hs] at f1;simp only [Bool.and_false] at f1;clear hv hs hX hY;go_enter Tryz.func108,Tryz.ntmps108;go_wp2_with fail;refine (f1.out _ HA.out).mono ?_;rintro e w1 ⟨rfl,hb1⟩;have hA2:=(Below.refl w1.heap.size w1).alloc (Nat.le_refl _) (.cells #[.int .i64 0,.int .i64 0] 31);have G1:=hN.out.below hb1 hs1;have G2:=Lib.hid (G1.below hA2 G1.lt);have B1:=HA.out.trans (hb1.mono HA.out.size);have B2:=Lib.hid (B1.trans (hA2.mono B1.size));have HA2:=Lib.hid hA2;clear hb1 G1 B1 hA2;obtain⟨W2,hW2⟩:∃ W2,w1.alloc (.cells #[.int .i64 0,.int .i64 0] 31)=W2:=⟨_,rfl⟩;rw [hW2] at G2 B2 HA2;have HW2:=Lib.hid hW2;clear hW2;have hs2:=G2.out.lt;go_upto_region 4 with fail
   rw [HW2.out];go_wp2_with fail;refine (f2.out _ B2.out).mono ?_;rintro e w3 ⟨rfl,rfl⟩;have hA3:=(Below.refl W2.heap.size W2).alloc (Nat.le_refl _) (.cells #[.slice ap l.length (l.length+capp)] 23);have hc3:=(Has.new W2 #[.slice ap l.length (l.length+capp)] 23).cell (i:=0) rfl;have B3:=zAg B2 hA3;have G3:=Lib.hid (G2.out.below hA3 hs2);have hs3:=G3.out.lt;have ht:=Lib.hid (f3.out W2.heap.size _ B3.out hc3);clear hA3 hc3;go_wp2_with fail;refine ht.out.mono ?_;rintro e w4 ⟨rfl,hb4⟩;have G4:=G3.out.below hb4 hs3;have B4:=B3.out.trans (hb4.mono B3.out.size);obtain⟨⟨x0,x1,y0,y1⟩,⟨z0,z1⟩,BZ⟩:=FIN.out _ false 1 0 0 G4 B4;have BZ':=Lib.hid BZ;clear hb4 G4 B4 BZ;cases htb:touchB l m
   ·have HT:=Lib.hid htb
    clear htb;go_wp2;exact bodyPost_ret (v:=.tuple #[.agg #[.int .i64 0,.int .i64 0],.bool false,.int .i64 0]) (by simp [results,Tryz.f108,go_sem,z0,z1]) rfl ⟨by rw [HR.out.1,HR.out.2.1,HT.out];rfl,BZ'.out⟩
   ·have HT:=Lib.hid htb
    clear htb;go_wp2;exact bodyPost_ret (v:=.tuple #[.agg #[.int .i64 0,.int .i64 0],.bool false,.int .i64 20]) (by simp [results,Tryz.f108,go_sem,z0,z1]) rfl ⟨by rw [HR.out.1,HR.out.2.1,HT.out];rfl,BZ'.out⟩
  ·have HR:=Lib.hid (show hitB l m=true∧hitE l m=0∧bothE l m=0 by unfold hitB hitE bothE;rw [hv,hs];simp)
   rw [HR.out.2.2,hv,hs] at f1;simp only [Bool.and_true] at f1;clear hv hs hX hY;go_enter Tryz.func108,Tryz.ntmps108;go_wp2_with fail;refine (f1.out _ HA.out).mono ?_;rintro e w1 ⟨rfl,hb1⟩;have G1:=hN.out.below hb1 hs1;have B1:=HA.out.trans (hb1.mono HA.out.size);have hA2:=(Below.refl w1.heap.size w1).alloc (Nat.le_refl _) (.cells #[.int .i64 X,.int .i64 Y] 31);obtain⟨⟨x0,x1,y0,y1⟩,⟨z0,z1⟩,BZ⟩:=FIN.out _ false 1 X Y (G1.below hA2 G1.lt) (B1.trans (hA2.mono B1.size));have BZ':=Lib.hid BZ;clear hb1 G1 B1 hA2 BZ;go_wp2;exact bodyPost_ret (v:=.tuple #[.agg #[.int .i64 X,.int .i64 Y],.bool true,.int .i64 0]) (by simp [results,Tryz.f108,go_sem,z0,z1]) rfl ⟨by rw [HR.out.1,HR.out.2.1],BZ'.out⟩
end
def validC (l : List Pt) : Bool :=
 decide (1≤l.length∧l.length≤64) && (List.range l.length).all (fun k=>Z4 (nth l k) && (decide (k=0) || decide (cmpP (nth l 0) (nth l k)<0))) &&
  (decide (l.length<3) || (List.range l.length).all (fun i=>(List.range l.length).all (fun k=>decide (nth l k=(sideP l i).1) || decide (nth l k=(sideP l i).2) || decide (0<Z6 (sideP l i).1 (sideP l i).2 (nth l k)))))
theorem Z2X (l : List Pt) : validC l = true ↔ GoValid l := by
 simp only [validC,Bool.and_eq_true,Bool.or_eq_true,decide_eq_true_eq,List.all_eq_true,List.mem_range];constructor
 ·rintro ⟨⟨⟨h1,h2⟩,h3⟩,h4⟩
  refine⟨h1,h2,fun k hk=>⟨(h3 k hk).1,fun h0=>?_⟩,fun hn i hi k hk e1 e2=>?_⟩
  ·rcases (h3 k hk).2 with h | h
   ·omega
   ·exact h
  ·rcases h4 with h | h
   ·omega
   ·rcases h i hi k hk with (h | h) | h
    ·exact absurd h e1
    ·exact absurd h e2
    ·exact h
 ·rintro ⟨h1,h2,h3,h4⟩
  refine⟨⟨⟨h1,h2⟩,fun k hk=>⟨(h3 k hk).1,?_⟩⟩,?_⟩
  ·rcases Nat.eq_zero_or_pos k with h | h
   ·exact .inl h
   ·exact .inr ((h3 k hk).2 h)
  ·rcases Nat.lt_or_ge l.length 3 with h | h
   ·exact .inl h
   ·refine .inr fun i hi k hk=>?_
    by_cases e1:nth l k=(sideP l i).1
    ·exact .inl (.inl e1)
    ·by_cases e2:nth l k=(sideP l i).2
     ·exact .inl (.inr e2)
     ·exact .inr (h4 h i hi k hk e1 e2)
theorem Z15 (l:List Pt):Zb l=validC l:=by
 cases h:validC l
 ·have:¬ GoValid l:=fun h2=>by rw [(Z2X l).2 h2] at h;cases h
  simpa [Zb] using this
 ·have:=(Z2X l).1 h
  simpa [Zb] using this
theorem Z0n {l:List Pt} (h:Zb l=true):GoValid l:=by simpa [Zb] using h
theorem Z59 (f:Pt→Int) (l:List Pt):∀ k,(∀ j,j<k→loTo f l k≤f (nth l j))∧loTo f l k≤f (nth l 0)
 | 0=>⟨fun j h=>by omega,Int.le_refl _⟩
 | k + 1 => by
  have ih:=Z59 f l k;simp only [loTo];constructor
  ·intro j hj
   by_cases e:j=k
   ·subst e;split <;> omega
   ·have:=ih.1 j (by omega);split <;> omega
  ·have:=ih.2;split <;> omega
theorem Z5g (f:Pt→Int) (l:List Pt):∀ k,(∀ j,j<k→f (nth l j)≤hiTo f l k)∧f (nth l 0)≤hiTo f l k
 | 0=>⟨fun j h=>by omega,Int.le_refl _⟩
 | k + 1 => by
  have ih:=Z5g f l k;simp only [hiTo];constructor
  ·intro j hj
   by_cases e:j=k
   ·subst e;split <;> omega
   ·have:=ih.1 j (by omega);split <;> omega
  ·have:=ih.2;split <;> omega
theorem Z3I {l:List Pt} (h:GoValid l) {k:Nat} (hk:k<l.length):inside l (nth l k)=true:=by
 unfold inside;by_cases h3:l.length<3
 ·rw [if_pos h3,decide_eq_true_eq]
  refine⟨?_,(Z59 bxF1 l l.length).1 k hk,(Z5g bxF1 l l.length).1 k hk,(Z59 bxF2 l l.length).1 k hk,(Z5g bxF2 l l.length).1 k hk⟩;rcases (show k=0∨k=l.length-1 by omega) with e | e
  ·rw [e];unfold Z6 turnV;grind
  ·rw [e];unfold Z6 turnV;grind
 ·rw [if_neg h3,decide_eq_true_eq]
  intro i hi;by_cases e1:nth l k=(sideP l i).1
  ·rw [e1];unfold Z6 turnV;grind
  ·by_cases e2:nth l k=(sideP l i).2
   ·rw [e2];unfold Z6 turnV;grind
   ·have:=h.2.2.2 (by omega) i hi k hk e1 e2;omega
theorem Z5j {l:List Pt} (h:Zb l=true) {k:Nat} (hk:k<l.length):hasB l (nth l k)=true:=by
 have g:=Z0n h;simp only [hasB,h,(g.2.2.1 k hk).1,Z3I g hk,Bool.and_true]
noncomputable def cornersC (l m:List Pt):Nat→List Pt
 | 0=>[]
 | k+1=>if (Z4 (nth l k) && inside m (nth l k))=true then cornersC l m k++[nth l k] else cornersC l m k
theorem Z0C {l m:List Pt} (hm:Zb m=true):∀ k,cornersTo l m k=cornersC l m k
 | 0=>rfl
 | k+1=>by simp only [cornersTo,cornersC,hasB,hm,Bool.true_and,Z0C hm k]
theorem SegH.turn {a b:Pt} {X Y W K s t:Int} (e1:K*X=s*a.x+t*b.x) (e2:K*Y=s*a.y+t*b.y) (e3:K*W=s+t) (u v:Pt):K*hturn u v X Y W=s*Z6 u v a+t*Z6 u v b:=by
 rw [← Z5f,e1,e2,e3];unfold hturn Z6 turnV;grind
def CrossS (S T:Pt × Pt):Prop:=(crossB (Z6 S.1 S.2 T.1) (Z6 S.1 S.2 T.2) && crossB (Z6 T.1 T.2 S.1) (Z6 T.1 T.2 S.2))=true
theorem CrossS.symm {S T:Pt × Pt} (h:CrossS S T):CrossS T S:=by unfold CrossS at *;rwa [Bool.and_comm]
def Touch (l m:List Pt):Prop:=(∃ k,k<l.length∧inside m (nth l k)=true)∨(∃ k,k<m.length∧inside l (nth m k)=true)∨∃ i j,i<l.length∧j<m.length∧CrossS (sideP l i) (sideP m j)
theorem Touch.symm {l m:List Pt} (h:Touch l m):Touch m l:=by
 rcases h with h | h | ⟨i,j,hi,hj,h⟩
 ·exact .inr (.inl h)
 ·exact .inl h
 ·exact .inr (.inr ⟨j,i,hj,hi,h.symm⟩)
section
attribute [local irreducible] wpQuiet
open Go.RowKit
def NS (n b o:Nat) (sx sy tx ty px py:Int) (w W:World):Prop:=b<n∧w.heap.size=n∧Has W n #[.int .i64 sx,.int .i64 sy] 31∧Has W (n+1) #[.int .i64 0,.int .i64 0] 31∧Has W (n+2) #[.int .i64 tx,.int .i64 ty] 31∧Below n w W∧W.cell? ⟨b,o,none⟩=some (.int .i64 px)∧W.cell? ⟨b,o+1,none⟩=some (.int .i64 py)
theorem NS.below {n b o:Nat} {sx sy tx ty px py:Int} {w W W':World} (h:NS n b o sx sy tx ty px py w W) (hb:Below W.heap.size W W'):NS n b o sx sy tx ty px py w W':=by
 obtain⟨h0,hn,h1,h2,h3,h4,h5,h6⟩:=h;have l3:=h3.lt;exact⟨h0,hn,h1.below hb (by omega),h2.below hb (by omega),h3.below hb (by omega),h4.trans (hb.mono (by omega)),(hb.cell (p:=⟨b,o,none⟩) (by show b<_;omega)).trans h5,(hb.cell (p:=⟨b,o+1,none⟩) (by show b<_;omega)).trans h6⟩
end
def wideN (n:Nat):Nat:=if isqrt (2*n*n)*isqrt (2*n*n)=2*n*n then isqrt (2*n*n) else isqrt (2*n*n)+1
theorem Z1I (n:Nat):2*n*n≤wideN n*wideN n∧∀ m,m<wideN n→m*m<2*n*n:=by
 have h:=Z03 (2*n*n);unfold wideN;generalize isqrt (2*n*n)=r at *;generalize 2*n*n=q at *
 split
 ·refine⟨by omega,fun m hm=>?_⟩
  have:=Nat.mul_lt_mul'' hm hm;omega
 ·refine⟨by omega,fun m hm=>?_⟩
  have:=Nat.mul_le_mul (show m≤r by omega) (show m≤r by omega)
  omega
theorem Z8A {n m:Nat} (h:2*n*n≤m*m):wideN n≤m:=by
 rcases Nat.lt_or_ge m (wideN n) with h' | h'
 ·have:=(Z1I n).2 m h';omega
 ·exact h'
theorem Z5E (n:Nat):n≤wideN n:=by
 rcases Nat.lt_or_ge (wideN n) n with h' | h'
 ·have:=(Z1I n).1
  have b:=Nat.mul_lt_mul'' h' h';rw [Nat.mul_assoc] at this;omega
 ·exact h'
theorem Z3X (n:Nat):wideN n≤2*n:=Z8A (by
 have:2*n*(2*n)=2*(2*n*n):=by grind
 omega)
def octK (n:Nat):Int:=(wideN n:Int)-n
theorem Z52 (n:Nat):0≤octK n∧octK n≤n:=by
 have:=Z5E n;have:=Z3X n;unfold octK;omega
theorem Z1u {l h:List Pt} (k:HullOf l h) {i:Nat} (hi:i<h.length):nth h i ∈ l:=by
 by_cases h0:i=0
 ·subst h0
  by_cases hl:l=[]
  ·rw [k.none hl] at hi;simp at hi
  ·exact (k.first hl).1
 ·have:=k.next (i-1) (by omega)
  rw [show i-1+1=i by omega,Nat.mod_eq_of_lt hi] at this
  exact this.1
theorem Z8n {a b:Pt}:cmpP a b<0↔LexLt a b:=by
 unfold cmpP LexLt cmpV orI cmpI
 repeat' split
 all_goals omega
theorem Z3e {l h : List Pt} (k : HullOf l h) (hl : l ≠ []) (h64 : h.length ≤ 64) (hp : ∀ x, x ∈ l → Z4 x = true) : GoValid h := by
 have lex:∀ i,0<i→i<h.length→LexLt (nth h 0) (nth h i):=fun i h0 hi=>by
  have:=(k.first hl).2 _ (Z1u k hi)
  rcases LexLt.tri (nth h 0) (nth h i) with c | c | c
  ·exact c
  ·exact absurd c.symm (k.back i h0 hi)
  ·exact absurd c this
 refine⟨k.some hl,h64,fun i hi=>⟨hp _ (Z1u k hi),fun h0=>Z8n.2 (lex i h0 hi)⟩,fun h3 i hi j hj n1 n2=>?_⟩
 have a:=(k.next i hi).2.2 _ (Z1u k hj);unfold sideP at n1 n2 ⊢;simp only at n1 n2 ⊢;rcases Int.lt_or_le 0 (Z6 (nth h i) (nth h ((i+1) % h.length)) (nth h j)) with c | c
 ·exact c
 ·exfalso
  have z:Z6 (nth h i) (nth h ((i+1) % h.length)) (nth h j)=0:=by omega
  have bt:=a.2 z;have mi:=Z1u k hi;have mi':=Z1u k (Nat.mod_lt (i+1) (by omega):(i+1) % h.length<h.length)
  have nj:=k.next j hj;have bi:=nj.2.2 _ mi;have bi':=nj.2.2 _ mi';have ne:nth h j≠nth h ((j+1) % h.length):=fun e=>by
   have all:=nj.2.1 e.symm;exact n1 (all _ mi).symm
  generalize nth h i=p at *;generalize nth h ((i+1) % h.length)=q at *;generalize nth h j=x at *;generalize nth h ((j+1) % h.length)=t at *;clear nj mi mi' a c k lex;have hpq:∃ m n:Int,0<m∧0<n∧m*(p.x-x.x)+n*(q.x-x.x)=0∧m*(p.y-x.y)+n*(q.y-x.y)=0:=by
   unfold Btw at bt;have n1':¬ (x.x=p.x∧x.y=p.y):=fun e=>n1 (Pt.ext' e.1 e.2)
   have n2':¬ (x.x=q.x∧x.y=q.y):=fun e=>n2 (Pt.ext' e.1 e.2)
   unfold Z6 turnV at z;by_cases hx:x.x=p.x
   ·have z1:(q.x-p.x)*(x.y-p.y)=0:=by rw [hx] at z;grind
    have z2:q.x=p.x:=by have:=(Int.mul_eq_zero.1 z1).resolve_right (by omega);omega
    have e1:p.x-x.x=0:=by omega
    have e2:q.x-x.x=0:=by omega
    rw [e1,e2];rcases Int.lt_or_le p.y x.y with c | c
    ·exact⟨q.y-x.y,x.y-p.y,by omega,by omega,by omega,by grind⟩
    ·exact⟨x.y-q.y,p.y-x.y,by omega,by omega,by omega,by grind⟩
   ·by_cases hx2:x.x=q.x
    ·have z1:(q.x-p.x)*(x.y-q.y)=0:=by rw [hx2] at z;grind
     have:=(Int.mul_eq_zero.1 z1).resolve_left (by omega)
     omega
    ·rcases Int.lt_or_le p.x x.x with c | c
     ·exact⟨q.x-x.x,x.x-p.x,by omega,by omega,by grind,by grind⟩
     ·exact⟨x.x-q.x,p.x-x.x,by omega,by omega,by grind,by grind⟩
  obtain⟨m,n,hm,hn,ex,ey⟩:=hpq;have lin:m*Z6 x t p+n*Z6 x t q=0:=by
   have:m*Z6 x t p+n*Z6 x t q=(t.x-x.x)*(m*(p.y-x.y)+n*(q.y-x.y))-(t.y-x.y)*(m*(p.x-x.x)+n*(q.x-x.x)):=by unfold Z6 turnV;grind
   rw [this,ex,ey];simp
  have u1:=Int.mul_nonneg (Int.le_of_lt hm) bi.1;have u2:=Int.mul_nonneg (Int.le_of_lt hn) bi'.1;have z1:Z6 x t p=0:=(Int.mul_eq_zero.1 (show m*Z6 x t p=0 by omega)).resolve_left (by omega)
  have z2:Z6 x t q=0:=(Int.mul_eq_zero.1 (show n*Z6 x t q=0 by omega)).resolve_left (by omega)
  have b1:=bi.2 z1;have b2:=bi'.2 z2;have d1:0≤(t.x-x.x)*(p.x-x.x):=by
   unfold Btw at b1;rcases Int.le_total x.x t.x with c | c
   ·exact Int.mul_nonneg (by omega) (by omega)
   ·have:=Int.mul_nonneg (show 0≤-(t.x-x.x) by omega) (show 0≤-(p.x-x.x) by omega);rwa [Int.neg_mul_neg] at this
  have d2:0≤(t.x-x.x)*(q.x-x.x):=by
   unfold Btw at b2;rcases Int.le_total x.x t.x with c | c
   ·exact Int.mul_nonneg (by omega) (by omega)
   ·have:=Int.mul_nonneg (show 0≤-(t.x-x.x) by omega) (show 0≤-(q.x-x.x) by omega);rwa [Int.neg_mul_neg] at this
  have d3:0≤(t.y-x.y)*(p.y-x.y):=by
   unfold Btw at b1;rcases Int.le_total x.y t.y with c | c
   ·exact Int.mul_nonneg (by omega) (by omega)
   ·have:=Int.mul_nonneg (show 0≤-(t.y-x.y) by omega) (show 0≤-(p.y-x.y) by omega);rwa [Int.neg_mul_neg] at this
  have d4:0≤(t.y-x.y)*(q.y-x.y):=by
   unfold Btw at b2;rcases Int.le_total x.y t.y with c | c
   ·exact Int.mul_nonneg (by omega) (by omega)
   ·have:=Int.mul_nonneg (show 0≤-(t.y-x.y) by omega) (show 0≤-(q.y-x.y) by omega);rwa [Int.neg_mul_neg] at this
  have s1:m*((t.x-x.x)*(p.x-x.x))+n*((t.x-x.x)*(q.x-x.x))=0:=by
   have:m*((t.x-x.x)*(p.x-x.x))+n*((t.x-x.x)*(q.x-x.x))=(t.x-x.x)*(m*(p.x-x.x)+n*(q.x-x.x)):=by grind
   rw [this,ex,Int.mul_zero]
  have s2:m*((t.y-x.y)*(p.y-x.y))+n*((t.y-x.y)*(q.y-x.y))=0:=by
   have:m*((t.y-x.y)*(p.y-x.y))+n*((t.y-x.y)*(q.y-x.y))=(t.y-x.y)*(m*(p.y-x.y)+n*(q.y-x.y)):=by grind
   rw [this,ey,Int.mul_zero]
  have v1:=Int.mul_nonneg (Int.le_of_lt hm) d1;have v2:=Int.mul_nonneg (Int.le_of_lt hn) d2;have v3:=Int.mul_nonneg (Int.le_of_lt hm) d3;have v4:=Int.mul_nonneg (Int.le_of_lt hn) d4;have w1:(t.x-x.x)*(p.x-x.x)=0:=(Int.mul_eq_zero.1 (show m*((t.x-x.x)*(p.x-x.x))=0 by omega)).resolve_left (by omega)
  have w3:(t.y-x.y)*(p.y-x.y)=0:=(Int.mul_eq_zero.1 (show m*((t.y-x.y)*(p.y-x.y))=0 by omega)).resolve_left (by omega)
  have hne:¬ (t.x=x.x∧t.y=x.y):=fun e=>ne (Pt.ext' e.1.symm e.2.symm)
  have hpx:¬ (p.x=x.x∧p.y=x.y):=fun e=>n1 (Pt.ext' e.1.symm e.2.symm)
  unfold Z6 turnV at z1;rcases Int.mul_eq_zero.1 w1 with c | c
  ·have c3:=(Int.mul_eq_zero.1 w3).resolve_left (by omega)
   rw [c,c3] at z1;have z1':(t.y-x.y)*(p.x-x.x)=0:=by grind
   have:=(Int.mul_eq_zero.1 z1').resolve_left (by omega)
   omega
  ·have c3:t.y-x.y=0:=(Int.mul_eq_zero.1 w3).resolve_right (by omega)
   rw [c,c3] at z1;have z1':(t.x-x.x)*(p.y-x.y)=0:=by grind
   have:=(Int.mul_eq_zero.1 z1').resolve_left (by omega)
   omega
section
attribute [local irreducible] wpQuiet
open Go.RowKit
def lenOf:Value→Nat
 | .slice _ n _=>n
 | _=>0
theorem Has.kept {W W':World} {B:Nat} {cs:Array Value} {t:TypeId} {row:Option Nat} (h:Has W B cs t) (hg:W.grownBy W' row) (hne:row≠some B):Has W' B cs t :=
 (hg.block B h.lt (fun e=>hne e.symm)).trans h
theorem Z9O {W:World} {base k size:Nat} {e:TypeId} {v:Value} {xs:List Value} (h:W.ownsRow base e size v k xs):lenOf v=k:=by
 rcases h.2 with⟨rfl,h0⟩ | ⟨g,cap,cur,rfl,_⟩
 ·exact h0.symm
 ·rfl
open Classical in
noncomputable def polysB (ls:List (List Pt)):Bool:=decide (∀ j,j<ls.length→Zb (rk ls j)=true)
theorem Z6v {ls:List (List Pt)}:polysB ls=true↔∀ j,j<ls.length→Zb (rk ls j)=true:=by unfold polysB;rw [decide_eq_true_eq]
theorem Z57:Zb ([]:List Pt)=false:=by rw [Z15];decide +kernel
theorem Z8.has {W:World} {B:Nat} {cs:Array Value} {t:TypeId} {l:List Pt} {cap:Nat} (h:Has W B cs t) (hl:l.length≤70368744177663) (hcs:cs=(Za l).toArray) :
  Z8 W.heap.size W (.slice (some ⟨B,0,none⟩) l.length (l.length+cap)) l:=by
 subst hcs;refine⟨hl,some ⟨B,0,none⟩,cap,rfl,.inr ⟨B,0,rfl,h.lt,fun j hj=>?_⟩⟩
 obtain⟨f0,f1⟩:=ZZ l j hj;rw [Nat.zero_add];exact⟨h.cell (by simpa using f0),h.cell (by simpa using f1)⟩
theorem Has.alloc {W:World} {B:Nat} {cs:Array Value} {t:TypeId} (h:Has W B cs t) (o:Obj):Has (W.alloc o) B cs t :=
 h.below ((Below.refl W.heap.size W).alloc (Nat.le_refl _) o) h.lt
theorem Z7.has {W:World} {B:Nat} {cs:Array Value} {t:TypeId} {ls:List (List Pt)} {cap:Nat} (h:Has W B cs t) (hl:ls.length≤70368744177663)
  (hcs:∀ j,j<ls.length→∃ u,cs[j]?=some u∧Z8 W.heap.size W u (rk ls j)) :
  Z7 W.heap.size W (.slice (some ⟨B,0,none⟩) ls.length (ls.length+cap)) ls:=by
 refine⟨hl,some ⟨B,0,none⟩,cap,rfl,.inr ⟨B,0,rfl,h.lt,fun j hj=>?_⟩⟩
 obtain⟨u,hu,hp⟩:=hcs j hj;exact⟨u,h.cell (by rw [Nat.zero_add];exact hu),hp⟩
end
theorem Z3g {c : List Pt} {ls : List (List Pt)} : ∀ {k i}, hitTo c ls k = some i → i < k ∧ touchB c (rk ls i) = true ∧ ∀ j, j < i → touchB c (rk ls j) = false
 | 0,i,h=>by cases h
 | k + 1, i, h => by
  simp only [hitTo] at h;cases hk:hitTo c ls k with
  | some q =>
   rw [hk] at h;simp only [Option.isSome_some,if_true] at h;cases h;obtain⟨h1,h2,h3⟩:=Z3g hk;exact⟨by omega,h2,h3⟩
  | none =>
   rw [hk] at h;simp only [Option.isSome_none,Bool.false_eq_true,if_false] at h
   split at h
   ·cases h
    refine⟨by omega,by assumption,fun j hj=>?_⟩
    exact hitTo_none hk j hj
   ·cases h
where
 hitTo_none {c:List Pt} {ls:List (List Pt)}:∀ {k},hitTo c ls k=none→∀ j,j<k→touchB c (rk ls j)=false
 | 0,_,j,hj=>by omega
 | k + 1, h, j, hj => by
  simp only [hitTo] at h;cases hk:hitTo c ls k with
  | some q=>rw [hk] at h;cases h
  | none =>
   rw [hk] at h;simp only [Option.isSome_none,Bool.false_eq_true,if_false] at h
   split at h
   ·cases h
   ·rename_i ht
    by_cases e:j=k
    ·rw [e];simpa using ht
    ·exact hitTo_none hk j (by omega)
theorem hitTo_none {c:List Pt} {ls:List (List Pt)} {k:Nat} (h:hitTo c ls k=none):∀ j,j<k→touchB c (rk ls j)=false:=Z3g.hitTo_none h
theorem Z9P {ls:List (List Pt)} {n j:Nat} (h:j<n):rk (ls.take n) j=rk ls j:=by
 unfold rk;simp [List.getD_eq_getElem?_getD,h]
theorem Z7.take {n0:Nat} {W:World} {a:Option Addr} {ls:List (List Pt)} {cap:Nat} (h:Z7 n0 W (.slice a ls.length (ls.length+cap)) ls) {n:Nat} (hn:n≤ls.length) :
  Z7 n0 W (.slice a n (ls.length+cap)) (ls.take n):=by
 obtain⟨hl,a',cap',he,hc⟩:=h;have e:(ls.take n).length=n:=by simp;omega
 simp only [Value.slice.injEq] at he;obtain⟨rfl,_,hcap⟩:=he;refine⟨by omega,a,ls.length-n+cap,by rw [e,show n+(ls.length-n+cap)=ls.length+cap by omega],?_⟩
 rcases hc with rfl | ⟨b,o,rfl,hb,hcc⟩
 ·left;simp
 ·refine .inr ⟨b,o,rfl,hb,fun j hj=>?_⟩
  rw [e] at hj;rw [Z9P hj];exact hcc j (by omega)
theorem Z7.one {n0:Nat} {W:World} {b o:Nat} {ls:List (List Pt)} {cap cap1:Nat} (h:Z7 n0 W (.slice (some ⟨b,o,none⟩) ls.length (ls.length+cap)) ls) {i:Nat} (hi:i<ls.length) :
  Z7 n0 W (.slice (some ⟨b,o+i,none⟩) 1 (1+cap1)) [rk ls i]:=by
 obtain⟨hl,a',cap',he,hc⟩:=h;simp only [Value.slice.injEq] at he;obtain⟨rfl,_,hcap⟩:=he;refine⟨by simp,some ⟨b,o+i,none⟩,cap1,rfl,?_⟩
 rcases hc with rfl | ⟨b',o',e,hb,hcc⟩
 ·simp at hi
 ·cases e
  refine .inr ⟨b,o+i,rfl,hb,fun j hj=>?_⟩
  obtain rfl:j=0:=by simpa using hj
  exact hcc i hi
theorem Z14 {l:List Pt} (h:GoValid l):Zb l=true:=by simpa [Zb] using h
def mvP (b x:Pt):Pt:=⟨x.x+b.x,x.y+b.y⟩
def mvL (b:Pt) (l:List Pt):List Pt:=l.map (mvP b)
def mvS (b:Pt) (s:Pt × Pt):Pt × Pt:=(mvP b s.1,mvP b s.2)
theorem Z09 (b:Pt) (l:List Pt):(mvL b l).length=l.length:=by simp [mvL]
theorem Z2u (b:Pt) {l:List Pt} {k:Nat} (h:k<l.length):nth (mvL b l) k=mvP b (nth l k):=by
 simp [mvL,nth,List.getD_eq_getElem?_getD,List.getElem?_eq_getElem h]
theorem Z9H (b p q r:Pt):Z6 (mvP b p) (mvP b q) (mvP b r)=Z6 p q r:=by unfold Z6 turnV mvP;grind
theorem Z9L (b:Pt) {l:List Pt} {k:Nat} (h:k<l.length):sideP (mvL b l) k=mvS b (sideP l k):=by
 unfold sideP mvS;rw [Z09,Z2u b h,Z2u b (Nat.mod_lt _ (by omega))]
theorem Z0K {p:Pt}:Z4 p=true↔-500000≤p.x∧p.x≤500000∧-500000≤p.y∧p.y≤500000:=by simp [Z4,placeB]
theorem cmp_mv (b p q:Pt):cmpP (mvP b p) (mvP b q)=cmpP p q:=by
 have c:∀ u v w:Int,cmpI (u+w) (v+w)=cmpI u v:=fun u v w=>by
  unfold cmpI;repeat' split
  all_goals omega
 simp only [cmpP,cmpV,mvP,c]
section
variable {b:Pt} {l m:List Pt} (hl:Zb l=true) (hm:Zb m=true) (hl':Zb (mvL b l)=true) (hm':Zb (mvL b m)=true)
include hl hm hl' hm'
end
section
attribute [local irreducible] wpQuiet
open Go.RowKit
structure CS (A B:Nat) (ax ay bx by':Int) (xs:List Pt) (out:Value) (w W:World):Prop where
 hA:w.heap.size≤A∧A<W.heap.size
 hB:w.heap.size≤B∧B<W.heap.size
 nA:out.ownBlock≠some A
 nB:out.ownBlock≠some B
 gA:Has W A #[.int .i64 ax,.int .i64 ay] 31
 gB:Has W B #[.int .i64 bx,.int .i64 by'] 31
 row:W.ownsRow w.heap.size 31 2 out xs.length (Za xs)
 bel:Below w.heap.size w W
theorem CS.below {A B:Nat} {ax ay bx by':Int} {xs:List Pt} {out:Value} {w W W':World} (h:CS A B ax ay bx by' xs out w W) (hb:Below W.heap.size W W'):CS A B ax ay bx by' xs out w W' :=
 ⟨⟨h.hA.1,Nat.lt_of_lt_of_le h.hA.2 hb.size⟩,⟨h.hB.1,Nat.lt_of_lt_of_le h.hB.2 hb.size⟩,h.nA,h.nB,h.gA.below hb h.hA.2,h.gB.below hb h.hB.2,Zr h.row hb,h.bel.trans (hb.mono h.bel.size)⟩
structure DS (C D:Nat) (cx cy dx dy:Int) (W:World):Prop where
 gC:Has W C #[.int .i64 cx,.int .i64 cy] 31
 gD:Has W D #[.int .i64 dx,.int .i64 dy] 31
theorem DS.below {C D:Nat} {cx cy dx dy:Int} {W W':World} (h:DS C D cx cy dx dy W) (hb:Below W.heap.size W W'):DS C D cx cy dx dy W':=⟨h.gC.below hb h.gC.lt,h.gD.below hb h.gD.lt⟩
def RS (n:Nat) (w W:World):Prop:=Has W n #[.int .i64 0,.int .i64 0] 31∧Below n w W
theorem RS.below {n:Nat} {w W W':World} (h:RS n w W) (hb:Below W.heap.size W W'):RS n w W' :=
 ⟨h.1.below hb h.1.lt,h.2.trans (hb.mono (Nat.le_of_lt h.1.lt))⟩
theorem Z8P (p q:Pt) (w:World) (hp:Z4 p=true) (hq:Z4 q=true) :
  Calls Tryz.prog 57 #[.agg #[.int .i64 p.x,.int .i64 p.y],.agg #[.int .i64 q.x,.int .i64 q.y]] w fun e w'=>e=.returned (.agg #[.int .i64 (mvP q p).x,.int .i64 (mvP q p).y])∧Below w.heap.size w w':=by
 rw [Z0K] at hp hq;obtain⟨px,py⟩:=p;obtain⟨qx,qy⟩:=q;simp only at hp hq
 show Calls _ _ _ _ fun e w'=>e=.returned (.agg #[.int .i64 (px+qx),.int .i64 (py+qy)])∧_
 have m1:IntKind.i64.wrap (px+qx)=px+qx:=zW2;have m2:IntKind.i64.wrap (py+qy)=py+qy:=zW2;clear hp hq;go_enter Tryz.func57,Tryz.ntmps57;go_wp2;refine bodyPost_ret (v:=.agg #[.int .i64 (px+qx),.int .i64 (py+qy)]) (by simp [results,Tryz.f57,go_sem]) rfl ⟨rfl,?_⟩
 repeat (first | exact Below.refl _ _ | assumption | apply Below.drew | refine Below.setCell ?_ (by first | omega | (simp;done) | (simp;omega)) _ | refine Below.alloc ?_ (by first | omega | (simp;done) | (simp;omega)) _ | refine Below.call (by assumption) ?_ (by first | omega | (simp;done) | (simp;omega)))
theorem Z6n (Bd:Nat) (x d:Pt) (w:World) (hx:Z4 x=true) (hd:Z4 d=true) (HD:Has w Bd #[.int .i64 d.x,.int .i64 d.y] 31) :
  Calls Tryz.prog 56 #[.agg #[.int .i64 x.x,.int .i64 x.y],.pointer (some ⟨Bd,0,none⟩)] w fun e w'=>e=.returned (.agg #[.int .i64 (mvP d x).x,.int .i64 (mvP d x).y])∧Below w.heap.size w w':=by
 have f:=Lib.hid (fun w1=>Z8P x d w1 hx hd)
 have hlt:=HD.lt;have c0:=HD.cell (i:=0) rfl;have c1:=HD.cell (i:=1) rfl;have H:=Has.new (w.alloc (.cells #[.int .i64 x.x,.int .i64 x.y] 31)) #[.int .i64 0,.int .i64 0] 31;rw [show (w.alloc (.cells #[.int .i64 x.x,.int .i64 x.y] 31)).heap.size=w.heap.size+1 by simp] at H
 have H:=Lib.hid H;have B0:=Lib.hid (show Below w.heap.size w ((w.alloc (.cells #[.int .i64 x.x,.int .i64 x.y] 31)).alloc (.cells #[.int .i64 0,.int .i64 0] 31)) from ((Below.refl _ _).alloc (Nat.le_refl _) _).alloc (by first | omega | (simp;done) | (simp;omega)) _)
 generalize mvP d x=r at *;clear HD hx hd;go_enter Tryz.func56,Tryz.ntmps56;go_wp2_with fail;refine (f.out _).mono ?_;rintro e w1 ⟨rfl,hb1⟩;have H1:=H.out.below hb1 (by simp)
 have x0:=Zk H1 (i:=0) rfl;have x1:=Zk H1 (i:=1) rfl;have y0:=Ze H1 0;have y1:=Ze H1 1;have z0:=Zk (H1.set 0 (.int .i64 r.x)) (i:=0) rfl;have z1:=Zk ((H1.set 0 (.int .i64 r.x)).set 1 (.int .i64 r.y)) (i:=1) rfl;have B1:=zAg B0 hb1;clear hb1 H1 c0 c1;go_wp2;refine bodyPost_ret (v:=.agg #[.int .i64 r.x,.int .i64 r.y]) (by simp [results,Tryz.f56,go_sem,z0,z1]) rfl ⟨rfl,?_⟩
 exact (B1.out.setCell (p:=⟨w.heap.size+1,0,none⟩) (by simp) _).setCell (p:=⟨w.heap.size+1,1,none⟩) (by simp) _
theorem Z7t (d:Pt) (l:List Pt) {k:Nat} (h:k<l.length):mvL d (l.take (k+1))=mvL d (l.take k)++[mvP d (nth l k)]:=by
 have e:nth l k=l[k]:=by simp [nth,List.getD_eq_getElem?_getD,List.getElem?_eq_getElem h]
 unfold mvL;rw [List.take_add_one,List.getElem?_eq_getElem h,List.map_append,e]
 rfl
theorem Z9l (v : Value) (l : List Pt) (Bd : Nat) (d : Pt) (w : World) (hp : Z8 w.heap.size w v l) (HD : Has w Bd #[.int .i64 d.x, .int .i64 d.y] 31) (hs : l.length ≤ 64) (hpl : ∀ k, k < l.length → Z4 (nth l k) = true) (hd : Z4 d = true) :
  Calls Tryz.prog 55 #[v,.func (.func 56) #[] #[.pointer (some ⟨Bd,0,none⟩)]] w (PtsQ (mvL d l) w):=by
 obtain⟨hll,a,cap,rfl,hc⟩:=hp;have HC:=Lib.hid hc;have HPL:=Lib.hid hpl;have HDD:=Lib.hid HD;have HDP:=Lib.hid hd;obtain⟨i0,hi,hz0',hz1',hz2'⟩:=info_parts ptInfo;clear hc hpl hd HD;go_enter Tryz.func55,Tryz.ntmps55;go_wp2
 go_loopw [5,10] (fun v i wr=>∃ k:Nat,k≤l.length∧i=.int .i64 (k:Int)∧wr.ownsRow w.heap.size 31 2 v k (Za (mvL d (l.take k)))∧Below w.heap.size w wr) (fun _ i _=>l.length-(intOf i).toNat)
 case atStart=>exact⟨0,by omega,rfl,World.ownsRow_nil _ _ _ _,Below.refl _ _⟩
 case round =>
  obtain⟨k,hk,rfl,hrow,hB⟩:=hrel;have hzB:=hB.size;by_cases hlt:k<l.length
  ·obtain⟨b,o,rfl,hb,hcc⟩:∃ b o,a=some ⟨b,o,none⟩∧b<w.heap.size∧∀ j,j<l.length→w.cell? ⟨b,o+j*2,none⟩=some (.int .i64 (nth l j).x)∧w.cell? ⟨b,o+j*2+1,none⟩=some (.int .i64 (nth l j).y):=by
    rcases HC.out with h | h
    ·rw [h] at hlt;simp at hlt
    ·exact h
   obtain⟨q0,q1⟩:=hcc k hlt;have c0:=(hB.cell (p:=⟨b,o+k*2,none⟩) hb).trans q0;have c1:=(hB.cell (p:=⟨b,o+k*2+1,none⟩) hb).trans q1;have hst:=Lib.hid (Z7t d l hlt);have f:=Lib.hid (fun w1 (B:Below w.heap.size w w1)=>Z6n Bd (nth l k) d w1 (HPL.out k hlt) HDP.out (HDD.out.below B HDD.out.lt))
   generalize mvP d (nth l k)=r at *;generalize (nth l k).x=px at *;generalize (nth l k).y=py at *;have kl:(k:Int)<l.length:=by omega
   have k0:(0:Int)≤k:=by omega
   have dk:decide ((k:Int)<(l.length:Int))=true:=by simp;omega
   have HR:=Lib.hid hrow;have HB:=Lib.hid hB;have BA:=Lib.hid (show Below wr.heap.size wr (wr.alloc (.cells #[.int .i64 px,.int .i64 py] 31)) from (Below.refl _ _).alloc (Nat.le_refl _) _)
   clear hcc q0 q1 hrow hB;go_wp2_with fail;refine (f.out _ (HB.out.trans (BA.out.mono HB.out.size))).mono ?_;rintro e w2 ⟨rfl,b2⟩;have B2:=zAg BA b2;have R2:=Lib.hid (Zr HR.out B2.out);have z2:=B2.out.size;clear b2;go_wp2_with (at_builtin;refine wpList_append_own _ rfl _ _ 23 rfl w.heap.size 31 i0 (.agg #[.int .i64 0,.int .i64 0]) 2 16 Tryz.underlying23 hi hz0' hz1' hz2' rfl (by decide) _ _ _ rfl (R2.out.alloc _) ⟨w2.heap.size,0,none⟩ 1 1 [.int .i64 r.x,.int .i64 r.y] rfl rfl (Z1Z _ _ _) (by simp [Value.oneCell']) (by unfold maxLen;omega) (by omega) (by simp;omega) ?_;intro v' w4 hown' hgrow _)
   go_roundw
   case rel =>
    have A2:=(Below.refl w2.heap.size w2).alloc (Nat.le_refl _) (.cells #[.int .i64 r.x,.int .i64 r.y] 31);have b4:Below w.heap.size w w4:=(HB.out.trans ((B2.out.trans (A2.mono z2)).mono hzB)).grown hgrow (by simp;omega) (fun j ej=>(R2.out.lt j ej).1)
    refine⟨k+1,by omega,by go_num,?_,b4⟩
    rw [hst.out,ZL];exact hown'
   case measure=>simp [intOf];omega
  ·obtain rfl:k=l.length:=by omega
   have dk:decide ((l.length:Int)<(l.length:Int))=false:=by simp
   rw [List.take_length] at hrow;have P:=Lib.hid (Z8.own hrow (by rw [Z09];omega))
   have HB:=Lib.hid hB;clear hrow hB;go_wp2;go_ret;exact⟨_,rfl,P.out,HB.out⟩
end
end Go.Proofs.YtdolkgihppgpcaaGreat
