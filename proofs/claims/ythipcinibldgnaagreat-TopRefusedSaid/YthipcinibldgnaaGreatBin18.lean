/- package rocks: First, Hit. | Plain: what Has, Common, First and Hit say of one another. | Plain geometry: the disk with eight corners; the points o .. -/
import Derived.WalkMore
import Derived.Test.YthipcinibldgnaaGreatBin17
import Derived.Deep.CutRange
open Go.Value renaming int->O
open Go.Obj renaming cells->qC
open Go.IntKind renaming i64->qL
open Go.Lib renaming hid->qH
open Go.RowKit.Below renaming refl->qK
open Nat renaming le_refl->qN
set_option linter.unusedSimpArgs false
set_option maxRecDepth 8000
set_option maxHeartbeats 1600000
namespace Go.Proofs.YthipcinibldgnaaGreat
section
attribute [local irreducible] wpQuiet
open Go.RowKit
noncomputable def hitTo (c:List Pt) (ls:List (List Pt)):Nat->Option Nat
 | 0=>none
 | k+1=>if (hitTo c ls k).isSome=true then hitTo c ls k else if touchB c (rk ls k)=true then some k else none
def natO (o:Option Nat):Int:=match o with | some k=>k | none=>0
open Classical in
noncomputable def okRocks (c:List Pt) (ls:List (List Pt)):Bool:=Zb c && decide (∀ j,j<ls.length->Zb (rk ls j)=true)
noncomputable def firI (c:List Pt) (ls:List (List Pt)):Int:=if ls.length<=100/\okRocks c ls=true then natO (hitTo c ls ls.length) else 0
noncomputable def firB (c:List Pt) (ls:List (List Pt)):Bool:=if ls.length<=100/\okRocks c ls=true then (hitTo c ls ls.length).isSome else false
noncomputable def firE (c:List Pt) (ls:List (List Pt)):Int:=if ls.length<=100 then (if okRocks c ls=true then 0 else 1) else 2
theorem Z9Y {c:List Pt} {ls:List (List Pt)} (h:ls.length<=100) (hk:okRocks c ls=false):firI c ls=0/\firB c ls=false/\firE c ls=1:=by
 unfold firI firB firE;simp [h,hk]
theorem Z1i (vc vr : Value) (c : List Pt) (ls : List (List Pt)) (w : World) (hc : Z7 w.heap.size w vc c) (hr : Z6 w.heap.size w vr ls) :
  Calls Tryz.prog 53 #[vc,vr] w fun e w'=>e=.returned (.tuple #[O qL (firI c ls),.bool (firB c ls),O qL (firE c ls)])/\Below w.heap.size w w':=by
 obtain⟨_,ar,capr,rfl,hrc⟩:=hr;by_cases hbig:100<ls.length
 ·have d1:decide ((ls.length:Int)>100)=true:=by rw [decide_eq_true_eq];omega
  have HR:=qH (show firI c ls=0/\firB c ls=false/\firE c ls=2 by unfold firI firB firE;simp [show ¬ ls.length<=100 by omega])
  obtain⟨ap,capp,rfl⟩:=hc.len;clear hbig hrc hc;go_enter Tryz.func53,Tryz.ntmps53;go_wp2
  go_step3
  go_wp2
  (try rw [Exit.noGoto_ret]);go_ret3
  exact⟨by rw [HR.out.1,HR.out.2.1,HR.out.2.2];rfl,qK _ _⟩
 ·have d1 : decide ((ls.length : Int) > 100) = false := by rw [decide_eq_false_iff_not]; omega
  have hle:ls.length<=100:=by omega
  have f1:=qH (fun w1 (B:Below w.heap.size w w1)=>Z2A vc c w1 ((hc.below B).mono B.size))
  have f2:=qH (fun w1 (B:Below w.heap.size w w1)=>Zp vc c w1 ((hc.below B).mono B.size))
  have HP:=qH hc;obtain⟨ap,capp,rfl⟩:=hc.len;have HRC:=qH hrc;have hA:=(qK w.heap.size w).alloc (qN _) (qC #[.slice ap c.length (c.length+capp)] 23);have hN:=qH (Has.new w #[.slice ap c.length (c.length+capp)] 23);have HA:=qH hA;have hs0:w.heap.size<(w.alloc (qC #[.slice ap c.length (c.length+capp)] 23)).heap.size:=by simp
  obtain⟨gc,hgc⟩:∃ g,Zb c=g:=⟨_,rfl⟩;rw [hgc] at f2;have HGC:=qH hgc;clear hbig hrc hc hA hgc;go_enter Tryz.func53,Tryz.ntmps53;go_wp2
  go_step3
  go_wp2_with fail;refine (f1.out _ (qK _ _)).mono ?_;rintro e w1 ⟨rfl,rfl⟩;go_wp2_with fail;refine (f2.out _ HA.out).mono ?_;rintro e w2 ⟨rfl,hb2⟩;have G2:=qH (hN.out.below hb2 hs0);have B2:=zAf HA hb2;have hs2:=G2.out.lt;clear hb2;go_wp2
  go_step3
  go_wp2
  go_loopw [8,9,10,22] (fun x y r i wr=>∃ k:Nat,k<=ls.length/\i=O qL (k:Int)/\r=.bool gc/\x=O qL (natO (hitTo c ls k))/\y=.bool (hitTo c ls k).isSome/\(∀ j,j<k->Zb (rk ls j)=true)/\Below w2.heap.size w2 wr) (fun _ _ _ i _=>ls.length-(intOf i).toNat)
  case atStart=>exact⟨0,by omega,rfl,rfl,rfl,rfl,fun j h=>by omega,qK _ _⟩
  case round =>
   obtain⟨k,hk,rfl,rfl,rfl,rfl,hall,hB⟩:=hrel;have BB:=B2.out.trans (hB.mono B2.out.size);have G:=G2.out.below hB hs2;have hzr:=hB.size;have HALL:=qH hall;clear hall;by_cases hlt:k<ls.length
   ·obtain ⟨b, o, rfl, hb, hcc⟩ : ∃ b o, ar = some ⟨b, o, none⟩ /\ b < w.heap.size /\ ∀ j, j < ls.length -> ∃ u, w.cell? ⟨b, o + j, none⟩ = some u /\ Z7 w.heap.size w u (rk ls j) := by
     rcases HRC.out with h | h
     ·rw [h] at hlt;simp at hlt
     ·exact h
    obtain⟨u,hu,hpu⟩:=hcc k hlt;have e0:=(BB.cell (p:=⟨b,o+k,none⟩) hb).trans hu;have hpz:=(hpu.below BB).mono BB.size;have hv:=qH (Zp u (rk ls k) wr hpz);have hcw:=G.cell (i:=0) rfl;have hst:Hid (hitTo c ls (k+1)=if (hitTo c ls k).isSome=true then hitTo c ls k else if touchB c (rk ls k)=true then some k else none):=rfl
    obtain⟨au,cu,rfl⟩:=hpu.len;have dk:decide ((k:Int)<(ls.length:Int))=true:=by simp;omega
    have kl:(k:Int)<ls.length:=by omega
    have k0:(0:Int)<=k:=by omega
    have HB:=qH hB;have HBB:=qH BB;have HG:=qH G;have HPZ:=qH hpz;have HPC:=qH ((HP.out.below BB).mono BB.size);clear hcc hu hpu hB BB G hpz hcw;generalize hht:hitTo c ls k=ht at *;cases hg:Zb (rk ls k)
    ·have HR:=qH (Z9Y hle (show okRocks c ls=false by
      unfold okRocks;rw [Bool.and_eq_false_iff]
      right
      refine decide_eq_false fun h=>?_
      have:=h k hlt;rw [hg] at this;cases this))
     rw [hg] at hv;clear hg hht;go_wp2_with fail;refine hv.out.mono ?_;rintro e w3 ⟨rfl,hb3⟩;have B3:=zAf HBB hb3;clear hb3;go_wp2
     (try rw [Exit.noGoto_ret]);go_ret3
     exact⟨by rw [HR.out.1,HR.out.2.1,HR.out.2.2];rfl,B3.out⟩
    ·rw [hg] at hv
     have HALL2:Hid (∀ j,j<k+1->Zb (rk ls j)=true):=fun j hj=>by
      by_cases e:j=k
      ·rw [e];exact hg
      ·exact HALL.out j (by omega)
     clear hg;go_wp2_with fail;refine hv.out.mono ?_;rintro e w3 ⟨rfl,hb3⟩;have B3:=qH (HB.out.trans (hb3.mono (by omega)))
     have G3:=HG.out.below hb3 HG.out.lt;have c3:=qH (G3.cell (i:=0) rfl);have HP3:=qH ((HPC.out.below hb3).mono hb3.size);have HZ3:=qH ((HPZ.out.below hb3).mono hb3.size);have hz3:=B3.out.size;clear hb3 G3;cases ht with
     | some q =>
      have hst2:Hid (hitTo c ls (k+1)=some q):=by show _=_;rw [hst.out];rfl
      go_wp2;go_roundw
      case rel=>exact⟨k+1,by omega,by go_num,rfl,by rw [hst2.out],by rw [hst2.out];rfl,HALL2.out,B3.out⟩
      case measure=>simp [intOf];omega
     | none =>
      cases gc
      ·have hst2:Hid (hitTo c ls (k+1)=none):=by
        show _=_
        rw [hst.out];have:touchB c (rk ls k)=false:=by unfold touchB;rw [HGC.out];rfl
        rw [this];rfl
       go_wp2;go_roundw
       case rel=>exact⟨k+1,by omega,by go_num,rfl,by rw [hst2.out],by rw [hst2.out];rfl,HALL2.out,B3.out⟩
       case measure=>simp [intOf];omega
      ·have ht:=qH (Z1U w.heap.size _ _ c (rk ls k) w3 c3.out HP3.out HZ3.out)
       go_wp2_with fail;refine ht.out.mono ?_;rintro e w4 ⟨rfl,hb4⟩;have B4:=qH (B3.out.trans (hb4.mono (by omega)))
       clear hb4;cases htb:touchB c (rk ls k)
       ·have hst2:Hid (hitTo c ls (k+1)=none):=by show _=_;rw [hst.out,htb];rfl
        clear htb;go_wp2;go_roundw
        case rel=>exact⟨k+1,by omega,by go_num,rfl,by rw [hst2.out],by rw [hst2.out];rfl,HALL2.out,B4.out⟩
        case measure=>simp [intOf];omega
       ·have hst2:Hid (hitTo c ls (k+1)=some k):=by show _=_;rw [hst.out,htb];rfl
        clear htb;go_wp2;go_roundw
        case rel=>exact⟨k+1,by omega,by go_num,rfl,by rw [hst2.out];rfl,by rw [hst2.out];rfl,HALL2.out,B4.out⟩
        case measure=>simp [intOf];omega
   ·obtain rfl:k=ls.length:=by omega
    have dk:decide ((ls.length:Int)<(ls.length:Int))=false:=by simp
    have HBB:=qH BB;clear hB BB G;cases gc
    ·have HR:=qH (Z9Y hle (show okRocks c ls=false by unfold okRocks;rw [HGC.out];rfl))
     generalize hitTo c ls ls.length=ht at *;go_wp2
     (try rw [Exit.noGoto_ret]);go_ret3
     exact⟨by rw [HR.out.1,HR.out.2.1,HR.out.2.2];rfl,HBB.out⟩
    ·have hok:okRocks c ls=true:=by
      unfold okRocks;rw [HGC.out,Bool.true_and];exact decide_eq_true HALL.out
     have HR:=qH (show firI c ls=natO (hitTo c ls ls.length)/\firB c ls=(hitTo c ls ls.length).isSome/\firE c ls=0 by unfold firI firB firE;simp [hle,hok])
     clear hok;go_wp2
     (try rw [Exit.noGoto_ret]);go_ret3
     exact⟨by rw [HR.out.1,HR.out.2.1,HR.out.2.2];rfl,HBB.out⟩
theorem Z8A (vp vq:Value) (l m:List Pt) (w:World) (hp:Z7 w.heap.size w vp l) (hq:Z7 w.heap.size w vq m) :
  Calls Tryz.prog 163 #[vp,vq] w fun e w'=>e=.returned (.tuple #[.agg #[O qL (if (Zb l && Zb m)=true then optX (comX l m) else 0),O qL (if (Zb l && Zb m)=true then optY (comX l m) else 0)],.bool (Zb l && Zb m && (comX l m).isSome),O qL (bothE l m)])/\Below w.heap.size w w':=by
 unfold bothE;cases h:(Zb l && Zb m)
 ·exact Zal vp vq l m w hp hq h
 ·simp only [Bool.and_eq_true] at h
  exact Z8z vp vq l m w hp hq h.1 h.2
noncomputable def hitX (l m:List Pt):Int:=if (Zb l && Zb m)=true then optX (comX l m) else 0
noncomputable def hitY (l m:List Pt):Int:=if (Zb l && Zb m)=true then optY (comX l m) else 0
noncomputable def hitB (l m:List Pt):Bool:=Zb l && Zb m && (comX l m).isSome
noncomputable def hitE (l m:List Pt):Int:=if (Zb l && Zb m)=true then (if (comX l m).isSome=true then 0 else if touchB l m=true then 20 else 0) else 1
theorem ZaX {o:Option Pt} (h:o.isSome=false):optX o=0/\optY o=0:=by
 cases o
 ·exact⟨rfl,rfl⟩
 ·cases h
theorem Zcp (vp vq : Value) (l m : List Pt) (w : World) (hp : Z7 w.heap.size w vp l) (hq : Z7 w.heap.size w vq m) :
  Calls Tryz.prog 140 #[vp,vq] w fun e w'=>e=.returned (.tuple #[.agg #[O qL (hitX l m),O qL (hitY l m)],.bool (hitB l m),O qL (hitE l m)])/\Below w.heap.size w w':=by
 have f1:=qH (fun w1 (B:Below w.heap.size w w1)=>Z8A vp vq l m w1 ((hp.below B).mono B.size) ((hq.below B).mono B.size))
 have f2:=qH (fun w1 (B:Below w.heap.size w w1)=>Z2A vp l w1 ((hp.below B).mono B.size))
 have f3:=qH (fun Bc w1 (B:Below w.heap.size w w1) hc=>Z1U Bc vp vq l m w1 hc ((hp.below B).mono B.size) ((hq.below B).mono B.size))
 obtain⟨ap,capp,rfl⟩:=hp.len;obtain⟨aq,capq,rfl⟩:=hq.len;have hA:=(qK w.heap.size w).alloc (qN _) (qC #[O qL 0,O qL 0] 36);have hN:=qH (Has.new w #[O qL 0,O qL 0] 36);have HA:=qH hA;have hs1:w.heap.size<(w.alloc (qC #[O qL 0,O qL 0] 36)).heap.size:=by simp
 obtain⟨X,hX⟩:∃ X,(if (Zb l && Zb m)=true then optX (comX l m) else 0)=X:=⟨_,rfl⟩
 obtain⟨Y,hY⟩:∃ Y,(if (Zb l && Zb m)=true then optY (comX l m) else 0)=Y:=⟨_,rfl⟩
 have hXX:hitX l m=X:=hX;have hYY:hitY l m=Y:=hY;rw [hX,hY] at f1;rw [hXX,hYY];clear hp hq hA hXX hYY;have fin:∀ (w1:World) (b:Bool) (e x y:Int),Has w1 w.heap.size #[O qL 0,O qL 0] 36->Below w.heap.size w w1 ->
   (w1.cell? ⟨w.heap.size,0,none⟩=some (O qL 0)/\w1.cell? ⟨w.heap.size,1,none⟩=some (O qL 0)/\w1.frozen? ⟨w.heap.size,0,none⟩=false/\w1.frozen? ⟨w.heap.size,1,none⟩=false) /\
   (((w1.setCell ⟨w.heap.size,0,none⟩ (O qL x)).setCell ⟨w.heap.size,1,none⟩ (O qL y)).cell? ⟨w.heap.size,0,none⟩=some (O qL x)/\((w1.setCell ⟨w.heap.size,0,none⟩ (O qL x)).setCell ⟨w.heap.size,1,none⟩ (O qL y)).cell? ⟨w.heap.size,1,none⟩=some (O qL y)) /\
   Below w.heap.size w ((w1.setCell ⟨w.heap.size,0,none⟩ (O qL x)).setCell ⟨w.heap.size,1,none⟩ (O qL y)):=fun w1 b e x y G B=>by
  have HZ:=(G.set 0 (O qL x)).set 1 (O qL y);exact⟨⟨G.cell (i:=0) rfl,G.cell (i:=1) rfl,Ze G 0,Ze G 1⟩,⟨HZ.cell (i:=0) rfl,HZ.cell (i:=1) rfl⟩,(B.setCell (p:=⟨w.heap.size,0,none⟩) (by simp) _).setCell (p:=⟨w.heap.size,1,none⟩) (by simp) _⟩
 have FIN:=qH fin;clear fin;cases hv:(Zb l && Zb m)
 ·have HR:=qH (show hitB l m=false/\hitE l m=1/\bothE l m=1 by unfold hitB hitE bothE;rw [hv];simp)
  rw [HR.out.2.2,hv] at f1;simp only [Bool.false_and] at f1;clear hv hX hY;go_enter Tryz.func140,Tryz.ntmps140;go_wp2_with fail;refine (f1.out _ HA.out).mono ?_;rintro e w1 ⟨rfl,hb1⟩;have G1:=hN.out.below hb1 hs1;have B1:=HA.out.trans (hb1.mono HA.out.size);have hA2:=(qK w1.heap.size w1).alloc (qN _) (qC #[O qL X,O qL Y] 36);obtain⟨⟨x0,x1,y0,y1⟩,⟨z0,z1⟩,BZ⟩:=FIN.out _ false 1 X Y (G1.below hA2 G1.lt) (B1.trans (hA2.mono B1.size));have BZ':=qH BZ;clear hb1 G1 B1 hA2 BZ;go_wp2;exact bodyPost_ret (v:=.tuple #[.agg #[O qL X,O qL Y],.bool false,O qL 1]) (by simp [results,Tryz.f140,go_sem,z0,z1]) rfl ⟨by rw [HR.out.1,HR.out.2.1],BZ'.out⟩
 ·rw [hv] at hX hY
  simp only [if_true] at hX hY;cases hs:(comX l m).isSome
  ·have h0:=ZaX hs
   rw [hX,hY] at h0;obtain⟨rfl,rfl⟩:=h0;have HR:=qH (show hitB l m=false/\hitE l m=(if touchB l m=true then 20 else 0)/\bothE l m=0 by unfold hitB hitE bothE;rw [hv,hs];simp)
   rw [HR.out.2.2,hv,hs] at f1;simp only [Bool.and_false] at f1;clear hv hs hX hY;go_enter Tryz.func140,Tryz.ntmps140;go_wp2_with fail;refine (f1.out _ HA.out).mono ?_;rintro e w1 ⟨rfl,hb1⟩;have hA2:=(qK w1.heap.size w1).alloc (qN _) (qC #[O qL 0,O qL 0] 36);have G1:=hN.out.below hb1 hs1;have G2:=qH (G1.below hA2 G1.lt);have B1:=HA.out.trans (hb1.mono HA.out.size);have B2:=qH (B1.trans (hA2.mono B1.size));have HA2:=qH hA2;clear hb1 G1 B1 hA2;obtain⟨W2,hW2⟩:∃ W2,w1.alloc (qC #[O qL 0,O qL 0] 36)=W2:=⟨_,rfl⟩;rw [hW2] at G2 B2 HA2;have HW2:=qH hW2;clear hW2;have hs2:=G2.out.lt;go_upto_region 4 with fail
   rw [HW2.out];go_wp2_with fail;refine (f2.out _ B2.out).mono ?_;rintro e w3 ⟨rfl,rfl⟩;have hA3:=(qK W2.heap.size W2).alloc (qN _) (qC #[.slice ap l.length (l.length+capp)] 23);have hc3:=(Has.new W2 #[.slice ap l.length (l.length+capp)] 23).cell (i:=0) rfl;have B3:=zAf B2 hA3;have G3:=qH (G2.out.below hA3 hs2);have hs3:=G3.out.lt;have ht:=qH (f3.out W2.heap.size _ B3.out hc3);clear hA3 hc3;go_wp2_with fail;refine ht.out.mono ?_;rintro e w4 ⟨rfl,hb4⟩;have G4:=G3.out.below hb4 hs3;have B4:=B3.out.trans (hb4.mono B3.out.size);obtain⟨⟨x0,x1,y0,y1⟩,⟨z0,z1⟩,BZ⟩:=FIN.out _ false 1 0 0 G4 B4;have BZ':=qH BZ;clear hb4 G4 B4 BZ;cases htb:touchB l m
   ·have HT:=qH htb
    clear htb;go_wp2;exact bodyPost_ret (v:=.tuple #[.agg #[O qL 0,O qL 0],.bool false,O qL 0]) (by simp [results,Tryz.f140,go_sem,z0,z1]) rfl ⟨by rw [HR.out.1,HR.out.2.1,HT.out];rfl,BZ'.out⟩
   ·have HT:=qH htb
    clear htb;go_wp2;exact bodyPost_ret (v:=.tuple #[.agg #[O qL 0,O qL 0],.bool false,O qL 20]) (by simp [results,Tryz.f140,go_sem,z0,z1]) rfl ⟨by rw [HR.out.1,HR.out.2.1,HT.out];rfl,BZ'.out⟩
  ·have HR:=qH (show hitB l m=true/\hitE l m=0/\bothE l m=0 by unfold hitB hitE bothE;rw [hv,hs];simp)
   rw [HR.out.2.2,hv,hs] at f1;simp only [Bool.and_true] at f1;clear hv hs hX hY;go_enter Tryz.func140,Tryz.ntmps140;go_wp2_with fail;refine (f1.out _ HA.out).mono ?_;rintro e w1 ⟨rfl,hb1⟩;have G1:=hN.out.below hb1 hs1;have B1:=HA.out.trans (hb1.mono HA.out.size);have hA2:=(qK w1.heap.size w1).alloc (qN _) (qC #[O qL X,O qL Y] 36);obtain⟨⟨x0,x1,y0,y1⟩,⟨z0,z1⟩,BZ⟩:=FIN.out _ false 1 X Y (G1.below hA2 G1.lt) (B1.trans (hA2.mono B1.size));have BZ':=qH BZ;clear hb1 G1 B1 hA2 BZ;go_wp2;exact bodyPost_ret (v:=.tuple #[.agg #[O qL X,O qL Y],.bool true,O qL 0]) (by simp [results,Tryz.f140,go_sem,z0,z1]) rfl ⟨by rw [HR.out.1,HR.out.2.1],BZ'.out⟩
end
def validC (l : List Pt) : Bool :=
 decide (1<=l.length/\l.length<=64) && (List.range l.length).all (fun k=>Z3 (nth l k) && (decide (k=0) || decide (cmpP (nth l 0) (nth l k)<0))) &&
  (decide (l.length<3) || (List.range l.length).all (fun i=>(List.range l.length).all (fun k=>decide (nth l k=(sideP l i).1) || decide (nth l k=(sideP l i).2) || decide (0<Z5 (sideP l i).1 (sideP l i).2 (nth l k)))))
theorem Z3Y (l : List Pt) : validC l = true ↔ GoValid l := by
 simp only [validC,Bool.and_eq_true,Bool.or_eq_true,decide_eq_true_eq,List.all_eq_true,List.mem_range];constructor
 ·rintro ⟨⟨⟨h1,h2⟩,h3⟩,h4⟩
  refine⟨h1,h2,fun k hk=>⟨(h3 k hk).1,fun h0=>?_⟩,fun hn i hi k hk e1 e2=>?_⟩
  ·rcases (h3 k hk).2 with h | h
   ·omega
   ·exact h
  ·rcases h4 with h | h
   ·omega
   ·rcases h i hi k hk with (h | h) | h
    ·exact absurd h e1
    ·exact absurd h e2
    ·exact h
 ·rintro ⟨h1,h2,h3,h4⟩
  refine⟨⟨⟨h1,h2⟩,fun k hk=>⟨(h3 k hk).1,?_⟩⟩,?_⟩
  ·rcases Nat.eq_zero_or_pos k with h | h
   ·exact .inl h
   ·exact .inr ((h3 k hk).2 h)
  ·rcases Nat.lt_or_ge l.length 3 with h | h
   ·exact .inl h
   ·refine .inr fun i hi k hk=>?_
    by_cases e1:nth l k=(sideP l i).1
    ·exact .inl (.inl e1)
    ·by_cases e2:nth l k=(sideP l i).2
     ·exact .inl (.inr e2)
     ·exact .inr (h4 h i hi k hk e1 e2)
theorem Z0m (l:List Pt):Zb l=validC l:=by
 cases h:validC l
 ·have:¬ GoValid l:=fun h2=>by rw [(Z3Y l).2 h2] at h;cases h
  simpa [Zb] using this
 ·have:=(Z3Y l).1 h
  simpa [Zb] using this
theorem Z0K {l:List Pt} (h:Zb l=true):GoValid l:=by simpa [Zb] using h
theorem Z6B (f:Pt->Int) (l:List Pt):∀ k,(∀ j,j<k->loTo f l k<=f (nth l j))/\loTo f l k<=f (nth l 0)
 | 0=>⟨fun j h=>by omega,Int.le_refl _⟩
 | k + 1 => by
  have ih:=Z6B f l k;simp only [loTo];constructor
  ·intro j hj
   by_cases e:j=k
   ·subst e;split <;> omega
   ·have:=ih.1 j (by omega);split <;> omega
  ·have:=ih.2;split <;> omega
theorem Z6G (f:Pt->Int) (l:List Pt):∀ k,(∀ j,j<k->f (nth l j)<=hiTo f l k)/\f (nth l 0)<=hiTo f l k
 | 0=>⟨fun j h=>by omega,Int.le_refl _⟩
 | k + 1 => by
  have ih:=Z6G f l k;simp only [hiTo];constructor
  ·intro j hj
   by_cases e:j=k
   ·subst e;split <;> omega
   ·have:=ih.1 j (by omega);split <;> omega
  ·have:=ih.2;split <;> omega
theorem Z4V {l:List Pt} (h:GoValid l) {k:Nat} (hk:k<l.length):inside l (nth l k)=true:=by
 unfold inside;by_cases h3:l.length<3
 ·rw [if_pos h3,decide_eq_true_eq]
  refine⟨?_,(Z6B bxF1 l l.length).1 k hk,(Z6G bxF1 l l.length).1 k hk,(Z6B bxF2 l l.length).1 k hk,(Z6G bxF2 l l.length).1 k hk⟩;rcases (show k=0\/k=l.length-1 by omega) with e | e
  ·rw [e];unfold Z5 turnV;grind
  ·rw [e];unfold Z5 turnV;grind
 ·rw [if_neg h3,decide_eq_true_eq]
  intro i hi;by_cases e1:nth l k=(sideP l i).1
  ·rw [e1];unfold Z5 turnV;grind
  ·by_cases e2:nth l k=(sideP l i).2
   ·rw [e2];unfold Z5 turnV;grind
   ·have:=h.2.2.2 (by omega) i hi k hk e1 e2;omega
theorem Z12 {l:List Pt} (h:Zb l=true) {k:Nat} (hk:k<l.length):hasB l (nth l k)=true:=by
 have g:=Z0K h;simp only [hasB,h,(g.2.2.1 k hk).1,Z4V g hk,Bool.and_true]
theorem Z6y {l:List Pt} {k:Nat} (hk:k<l.length):nth l k ∈ l:=by simp [nth,List.getD,List.getElem?_eq_getElem hk]
theorem Z21 {l:List Pt}:∀ k,k<l.length->minTo l k ∈ l
 | 0,h=>Z6y h
 | k + 1, h => by
  have ih:=Z21 k (show k<l.length by omega)
  simp only [minTo]
  split
  ·exact Z6y h
  ·exact ih
theorem Z6W {l m:List Pt} (hl:Zb l=true) (hm:Zb m=true) {x:Pt}:∀ k,x ∈ comL l m k->hasB l x=true/\hasB m x=true
 | 0, h => by
  obtain⟨j,hj,e,hb⟩:=(Z0e _).1 (show x ∈ cornersTo l m l.length from h)
  rw [<- e] at hb ⊢;exact⟨Z12 hl hj,hb⟩
 | 1, h => by
  obtain⟨j,hj,e,hb⟩:=(Z0e _).1 (show x ∈ cornersTo m l m.length from h)
  rw [<- e] at hb ⊢;exact⟨hb,Z12 hm hj⟩
 | k + 2, h => by
  have h':x ∈ cornersP (cornersP (crossP l m) l) m:=by
   unfold comL at h
   rwa [if_neg (by omega),if_neg (by omega)] at h
  obtain⟨j,hj,e,hb⟩:=(Z0e _).1 (show x ∈ cornersTo (cornersP (crossP l m) l) m _ from h')
  have hx:x ∈ cornersTo (crossP l m) l (crossP l m).length:=by rw [<- e];exact Z6y hj
  obtain⟨_,_,_,hb2⟩:=(Z0e _).1 hx;exact⟨hb2,hb⟩
theorem Zcz {l m:List Pt} (hl:Zb l=true) (hm:Zb m=true) {x:Pt} (h:comX l m=some x):hasB l x=true/\hasB m x=true:=by
 unfold comX at h
 split at h
 ·cases h;exact Z6W hl hm 0 (Z21 _ (by omega))
 ·split at h
  ·cases h;exact Z6W hl hm 1 (Z21 _ (by omega))
  ·split at h
   ·cases h;exact Z6W hl hm 2 (Z21 _ (by omega))
   ·cases h
theorem Z9X {c p:List Pt} (hc:Zb c=true) (hp:Zb p=true):firB c [p]=touchB c p/\firE c [p]=0:=by
 have hok:okRocks c [p]=true:=by
  unfold okRocks;rw [hc,Bool.true_and];refine decide_eq_true fun j hj=>?_
  obtain rfl:j=0:=by simpa using hj
  exact hp
 unfold firB firE;simp only [List.length_singleton,hok,and_true,if_true,show (1:Nat)<=100 by omega]
 show (if (none:Option Nat).isSome=true then none else if touchB c p=true then some 0 else none:Option Nat).isSome=touchB c p
 cases touchB c p <;> rfl
noncomputable def cornersC (l m:List Pt):Nat->List Pt
 | 0=>[]
 | k+1=>if (Z3 (nth l k) && inside m (nth l k))=true then cornersC l m k++[nth l k] else cornersC l m k
theorem ZH {l m:List Pt} (hm:Zb m=true):∀ k,cornersTo l m k=cornersC l m k
 | 0=>rfl
 | k+1=>by simp only [cornersTo,cornersC,hasB,hm,Bool.true_and,ZH hm k]
def wideN (n:Nat):Nat:=if isqrt (2*n*n)*isqrt (2*n*n)=2*n*n then isqrt (2*n*n) else isqrt (2*n*n)+1
theorem Z2j (n:Nat):2*n*n<=wideN n*wideN n/\∀ m,m<wideN n->m*m<2*n*n:=by
 have h:=Z02 (2*n*n);unfold wideN;generalize isqrt (2*n*n)=r at *;generalize 2*n*n=q at *
 split
 ·refine⟨by omega,fun m hm=>?_⟩
  have:=Nat.mul_lt_mul'' hm hm;omega
 ·refine⟨by omega,fun m hm=>?_⟩
  have:=Nat.mul_le_mul (show m<=r by omega) (show m<=r by omega)
  omega
theorem ZaC {n m:Nat} (h:2*n*n<=m*m):wideN n<=m:=by
 rcases Nat.lt_or_ge m (wideN n) with h' | h'
 ·have:=(Z2j n).2 m h';omega
 ·exact h'
theorem Z72 (n:Nat):n<=wideN n:=by
 rcases Nat.lt_or_ge (wideN n) n with h' | h'
 ·have:=(Z2j n).1
  have b:=Nat.mul_lt_mul'' h' h';rw [Nat.mul_assoc] at this;omega
 ·exact h'
theorem Z5c (n:Nat):wideN n<=2*n:=ZaC (by
 have:2*n*(2*n)=2*(2*n*n):=by grind
 omega)
def octK (n:Nat):Int:=(wideN n:Int)-n
theorem Z6v (n:Nat):0<=octK n/\octK n<=n:=by
 have:=Z72 n;have:=Z5c n;unfold octK;omega
theorem Z26 {l h:List Pt} (k:HullOf l h) {i:Nat} (hi:i<h.length):nth h i ∈ l:=by
 by_cases h0:i=0
 ·subst h0
  by_cases hl:l=[]
  ·rw [k.none hl] at hi;simp at hi
  ·exact (k.first hl).1
 ·have:=k.next (i-1) (by omega)
  rw [show i-1+1=i by omega,Nat.mod_eq_of_lt hi] at this
  exact this.1
theorem Zan {a b:Pt}:cmpP a b<0↔LexLt a b:=by
 unfold cmpP LexLt cmpV orI cmpI
 repeat' split
 all_goals omega
theorem Z4j {l h : List Pt} (k : HullOf l h) (hl : l ≠ []) (h64 : h.length <= 64) (hp : ∀ x, x ∈ l -> Z3 x = true) : GoValid h := by
 have lex:∀ i,0<i->i<h.length->LexLt (nth h 0) (nth h i):=fun i h0 hi=>by
  have:=(k.first hl).2 _ (Z26 k hi)
  rcases LexLt.tri (nth h 0) (nth h i) with c | c | c
  ·exact c
  ·exact absurd c.symm (k.back i h0 hi)
  ·exact absurd c this
 refine⟨k.some hl,h64,fun i hi=>⟨hp _ (Z26 k hi),fun h0=>Zan.2 (lex i h0 hi)⟩,fun h3 i hi j hj n1 n2=>?_⟩
 have a:=(k.next i hi).2.2 _ (Z26 k hj);unfold sideP at n1 n2 ⊢;simp only at n1 n2 ⊢;rcases Int.lt_or_le 0 (Z5 (nth h i) (nth h ((i+1) % h.length)) (nth h j)) with c | c
 ·exact c
 ·exfalso
  have z:Z5 (nth h i) (nth h ((i+1) % h.length)) (nth h j)=0:=by omega
  have bt:=a.2 z;have mi:=Z26 k hi;have mi':=Z26 k (Nat.mod_lt (i+1) (by omega):(i+1) % h.length<h.length)
  have nj:=k.next j hj;have bi:=nj.2.2 _ mi;have bi':=nj.2.2 _ mi';have ne:nth h j≠nth h ((j+1) % h.length):=fun e=>by
   have all:=nj.2.1 e.symm;exact n1 (all _ mi).symm
  generalize nth h i=p at *;generalize nth h ((i+1) % h.length)=q at *;generalize nth h j=x at *;generalize nth h ((j+1) % h.length)=t at *;clear nj mi mi' a c k lex;have hpq:∃ m n:Int,0<m/\0<n/\m*(p.x-x.x)+n*(q.x-x.x)=0/\m*(p.y-x.y)+n*(q.y-x.y)=0:=by
   unfold Btw at bt;have n1':¬ (x.x=p.x/\x.y=p.y):=fun e=>n1 (Pt.ext' e.1 e.2)
   have n2':¬ (x.x=q.x/\x.y=q.y):=fun e=>n2 (Pt.ext' e.1 e.2)
   unfold Z5 turnV at z;by_cases hx:x.x=p.x
   ·have z1:(q.x-p.x)*(x.y-p.y)=0:=by rw [hx] at z;grind
    have z2:q.x=p.x:=by have:=(Int.mul_eq_zero.1 z1).resolve_right (by omega);omega
    have e1:p.x-x.x=0:=by omega
    have e2:q.x-x.x=0:=by omega
    rw [e1,e2];rcases Int.lt_or_le p.y x.y with c | c
    ·exact⟨q.y-x.y,x.y-p.y,by omega,by omega,by omega,by grind⟩
    ·exact⟨x.y-q.y,p.y-x.y,by omega,by omega,by omega,by grind⟩
   ·by_cases hx2:x.x=q.x
    ·have z1:(q.x-p.x)*(x.y-q.y)=0:=by rw [hx2] at z;grind
     have:=(Int.mul_eq_zero.1 z1).resolve_left (by omega)
     omega
    ·rcases Int.lt_or_le p.x x.x with c | c
     ·exact⟨q.x-x.x,x.x-p.x,by omega,by omega,by grind,by grind⟩
     ·exact⟨x.x-q.x,p.x-x.x,by omega,by omega,by grind,by grind⟩
  obtain⟨m,n,hm,hn,ex,ey⟩:=hpq;have lin:m*Z5 x t p+n*Z5 x t q=0:=by
   have:m*Z5 x t p+n*Z5 x t q=(t.x-x.x)*(m*(p.y-x.y)+n*(q.y-x.y))-(t.y-x.y)*(m*(p.x-x.x)+n*(q.x-x.x)):=by unfold Z5 turnV;grind
   rw [this,ex,ey];simp
  have u1:=Int.mul_nonneg (Int.le_of_lt hm) bi.1;have u2:=Int.mul_nonneg (Int.le_of_lt hn) bi'.1;have z1:Z5 x t p=0:=(Int.mul_eq_zero.1 (show m*Z5 x t p=0 by omega)).resolve_left (by omega)
  have z2:Z5 x t q=0:=(Int.mul_eq_zero.1 (show n*Z5 x t q=0 by omega)).resolve_left (by omega)
  have b1:=bi.2 z1;have b2:=bi'.2 z2;have d1:0<=(t.x-x.x)*(p.x-x.x):=by
   unfold Btw at b1;rcases Int.le_total x.x t.x with c | c
   ·exact Int.mul_nonneg (by omega) (by omega)
   ·have:=Int.mul_nonneg (show 0<=-(t.x-x.x) by omega) (show 0<=-(p.x-x.x) by omega);rwa [Int.neg_mul_neg] at this
  have d2:0<=(t.x-x.x)*(q.x-x.x):=by
   unfold Btw at b2;rcases Int.le_total x.x t.x with c | c
   ·exact Int.mul_nonneg (by omega) (by omega)
   ·have:=Int.mul_nonneg (show 0<=-(t.x-x.x) by omega) (show 0<=-(q.x-x.x) by omega);rwa [Int.neg_mul_neg] at this
  have d3:0<=(t.y-x.y)*(p.y-x.y):=by
   unfold Btw at b1;rcases Int.le_total x.y t.y with c | c
   ·exact Int.mul_nonneg (by omega) (by omega)
   ·have:=Int.mul_nonneg (show 0<=-(t.y-x.y) by omega) (show 0<=-(p.y-x.y) by omega);rwa [Int.neg_mul_neg] at this
  have d4:0<=(t.y-x.y)*(q.y-x.y):=by
   unfold Btw at b2;rcases Int.le_total x.y t.y with c | c
   ·exact Int.mul_nonneg (by omega) (by omega)
   ·have:=Int.mul_nonneg (show 0<=-(t.y-x.y) by omega) (show 0<=-(q.y-x.y) by omega);rwa [Int.neg_mul_neg] at this
  have s1:m*((t.x-x.x)*(p.x-x.x))+n*((t.x-x.x)*(q.x-x.x))=0:=by
   have:m*((t.x-x.x)*(p.x-x.x))+n*((t.x-x.x)*(q.x-x.x))=(t.x-x.x)*(m*(p.x-x.x)+n*(q.x-x.x)):=by grind
   rw [this,ex,Int.mul_zero]
  have s2:m*((t.y-x.y)*(p.y-x.y))+n*((t.y-x.y)*(q.y-x.y))=0:=by
   have:m*((t.y-x.y)*(p.y-x.y))+n*((t.y-x.y)*(q.y-x.y))=(t.y-x.y)*(m*(p.y-x.y)+n*(q.y-x.y)):=by grind
   rw [this,ey,Int.mul_zero]
  have v1:=Int.mul_nonneg (Int.le_of_lt hm) d1;have v2:=Int.mul_nonneg (Int.le_of_lt hn) d2;have v3:=Int.mul_nonneg (Int.le_of_lt hm) d3;have v4:=Int.mul_nonneg (Int.le_of_lt hn) d4;have w1:(t.x-x.x)*(p.x-x.x)=0:=(Int.mul_eq_zero.1 (show m*((t.x-x.x)*(p.x-x.x))=0 by omega)).resolve_left (by omega)
  have w3:(t.y-x.y)*(p.y-x.y)=0:=(Int.mul_eq_zero.1 (show m*((t.y-x.y)*(p.y-x.y))=0 by omega)).resolve_left (by omega)
  have hne:¬ (t.x=x.x/\t.y=x.y):=fun e=>ne (Pt.ext' e.1.symm e.2.symm)
  have hpx:¬ (p.x=x.x/\p.y=x.y):=fun e=>n1 (Pt.ext' e.1.symm e.2.symm)
  unfold Z5 turnV at z1;rcases Int.mul_eq_zero.1 w1 with c | c
  ·have c3:=(Int.mul_eq_zero.1 w3).resolve_left (by omega)
   rw [c,c3] at z1;have z1':(t.y-x.y)*(p.x-x.x)=0:=by grind
   have:=(Int.mul_eq_zero.1 z1').resolve_left (by omega)
   omega
  ·have c3:t.y-x.y=0:=(Int.mul_eq_zero.1 w3).resolve_right (by omega)
   rw [c,c3] at z1;have z1':(t.x-x.x)*(p.y-x.y)=0:=by grind
   have:=(Int.mul_eq_zero.1 z1').resolve_left (by omega)
   omega
section
attribute [local irreducible] wpQuiet
open Go.RowKit
def lenOf:Value->Nat
 | .slice _ n _=>n
 | _=>0
theorem Has.kept {W W':World} {B:Nat} {cs:Array Value} {t:TypeId} {row:Option Nat} (h:Has W B cs t) (hg:W.grownBy W' row) (hne:row≠some B):Has W' B cs t :=
 (hg.block B h.lt (fun e=>hne e.symm)).trans h
theorem Zc5 {W:World} {base k size:Nat} {e:TypeId} {v:Value} {xs:List Value} (h:W.ownsRow base e size v k xs):lenOf v=k:=by
 rcases h.2 with⟨rfl,h0⟩ | ⟨g,cap,cur,rfl,_⟩
 ·exact h0.symm
 ·rfl
open Classical in
noncomputable def polysB (ls:List (List Pt)):Bool:=decide (∀ j,j<ls.length->Zb (rk ls j)=true)
theorem Z8f {ls:List (List Pt)}:polysB ls=true↔∀ j,j<ls.length->Zb (rk ls j)=true:=by unfold polysB;rw [decide_eq_true_eq]
theorem Z7.has {W:World} {B:Nat} {cs:Array Value} {t:TypeId} {l:List Pt} {cap:Nat} (h:Has W B cs t) (hl:l.length<=70368744177663) (hcs:cs=(Za l).toArray) :
  Z7 W.heap.size W (.slice (some ⟨B,0,none⟩) l.length (l.length+cap)) l:=by
 subst hcs;refine⟨hl,some ⟨B,0,none⟩,cap,rfl,.inr ⟨B,0,rfl,h.lt,fun j hj=>?_⟩⟩
 obtain⟨f0,f1⟩:=Z09 l j hj;rw [Nat.zero_add];exact⟨h.cell (by simpa using f0),h.cell (by simpa using f1)⟩
theorem Z6.has {W:World} {B:Nat} {cs:Array Value} {t:TypeId} {ls:List (List Pt)} {cap:Nat} (h:Has W B cs t) (hl:ls.length<=70368744177663)
  (hcs:∀ j,j<ls.length->∃ u,cs[j]?=some u/\Z7 W.heap.size W u (rk ls j)) :
  Z6 W.heap.size W (.slice (some ⟨B,0,none⟩) ls.length (ls.length+cap)) ls:=by
 refine⟨hl,some ⟨B,0,none⟩,cap,rfl,.inr ⟨B,0,rfl,h.lt,fun j hj=>?_⟩⟩
 obtain⟨u,hu,hp⟩:=hcs j hj;exact⟨u,h.cell (by rw [Nat.zero_add];exact hu),hp⟩
end
theorem Z2r {c : List Pt} {ls : List (List Pt)} : ∀ {k i}, hitTo c ls k = some i -> i < k /\ touchB c (rk ls i) = true /\ ∀ j, j < i -> touchB c (rk ls j) = false
 | 0,i,h=>by cases h
 | k + 1, i, h => by
  simp only [hitTo] at h;cases hk:hitTo c ls k with
  | some q =>
   rw [hk] at h;simp only [Option.isSome_some,if_true] at h;cases h;obtain⟨h1,h2,h3⟩:=Z2r hk;exact⟨by omega,h2,h3⟩
  | none =>
   rw [hk] at h;simp only [Option.isSome_none,Bool.false_eq_true,if_false] at h
   split at h
   ·cases h
    refine⟨by omega,by assumption,fun j hj=>?_⟩
    exact hitTo_none hk j hj
   ·cases h
where
 hitTo_none {c:List Pt} {ls:List (List Pt)}:∀ {k},hitTo c ls k=none->∀ j,j<k->touchB c (rk ls j)=false
 | 0,_,j,hj=>by omega
 | k + 1, h, j, hj => by
  simp only [hitTo] at h;cases hk:hitTo c ls k with
  | some q=>rw [hk] at h;cases h
  | none =>
   rw [hk] at h;simp only [Option.isSome_none,Bool.false_eq_true,if_false] at h
   split at h
   ·cases h
   ·rename_i ht
    by_cases e:j=k
    ·rw [e];simpa using ht
    ·exact hitTo_none hk j (by omega)
theorem hitTo_none {c:List Pt} {ls:List (List Pt)} {k:Nat} (h:hitTo c ls k=none):∀ j,j<k->touchB c (rk ls j)=false:=Z2r.hitTo_none h
theorem fir_ok {c:List Pt} {ls:List (List Pt)} (h:ls.length<=100) (hk:okRocks c ls=true):firI c ls=natO (hitTo c ls ls.length)/\firB c ls=(hitTo c ls ls.length).isSome/\firE c ls=0:=by
 unfold firI firB firE;simp [h,hk]
theorem Z0V {l:List Pt} (h:GoValid l):Zb l=true:=by simpa [Zb] using h
def mvP (b x:Pt):Pt:=⟨x.x+b.x,x.y+b.y⟩
def mvL (b:Pt) (l:List Pt):List Pt:=l.map (mvP b)
def mvS (b:Pt) (s:Pt × Pt):Pt × Pt:=(mvP b s.1,mvP b s.2)
theorem Z0k (b:Pt) (l:List Pt):(mvL b l).length=l.length:=by simp [mvL]
theorem Z3m (b:Pt) {l:List Pt} {k:Nat} (h:k<l.length):nth (mvL b l) k=mvP b (nth l k):=by
 simp [mvL,nth,List.getD_eq_getElem?_getD,List.getElem?_eq_getElem h]
theorem ZbZ (b p q r:Pt):Z5 (mvP b p) (mvP b q) (mvP b r)=Z5 p q r:=by unfold Z5 turnV mvP;grind
theorem Zc2 (b:Pt) {l:List Pt} {k:Nat} (h:k<l.length):sideP (mvL b l) k=mvS b (sideP l k):=by
 unfold sideP mvS;rw [Z0k,Z3m b h,Z3m b (Nat.mod_lt _ (by omega))]
theorem Z1d {p:Pt}:Z3 p=true↔-500000<=p.x/\p.x<=500000/\-500000<=p.y/\p.y<=500000:=by simp [Z3,placeB]
theorem cmp_mv (b p q:Pt):cmpP (mvP b p) (mvP b q)=cmpP p q:=by
 have c:∀ u v w:Int,cmpI (u+w) (v+w)=cmpI u v:=fun u v w=>by
  unfold cmpI;repeat' split
  all_goals omega
 simp only [cmpP,cmpV,mvP,c]
section
variable {b:Pt} {l m:List Pt} (hl:Zb l=true) (hm:Zb m=true) (hl':Zb (mvL b l)=true) (hm':Zb (mvL b m)=true)
include hl hm hl' hm'
end
section
attribute [local irreducible] wpQuiet
open Go.RowKit
theorem ZaV (p q:Pt) (w:World) (hp:Z3 p=true) (hq:Z3 q=true) :
  Calls Tryz.prog 147 #[.agg #[O qL p.x,O qL p.y],.agg #[O qL q.x,O qL q.y]] w fun e w'=>e=.returned (.agg #[O qL (mvP q p).x,O qL (mvP q p).y])/\Below w.heap.size w w':=by
 rw [Z1d] at hp hq;obtain⟨px,py⟩:=p;obtain⟨qx,qy⟩:=q;simp only at hp hq
 show Calls _ _ _ _ fun e w'=>e=.returned (.agg #[O qL (px+qx),O qL (py+qy)])/\_
 have m1:IntKind.i64.wrap (px+qx)=px+qx:=zW2;have m2:IntKind.i64.wrap (py+qy)=py+qy:=zW2;clear hp hq;go_enter Tryz.func147,Tryz.ntmps147;go_wp2;refine bodyPost_ret (v:=.agg #[O qL (px+qx),O qL (py+qy)]) (by simp [results,Tryz.f147,go_sem]) rfl ⟨rfl,?_⟩
 repeat (first | exact qK _ _ | assumption | apply Below.drew | refine Below.setCell ?_ (by first | omega | (simp;done) | (simp;omega)) _ | refine Below.alloc ?_ (by first | omega | (simp;done) | (simp;omega)) _ | refine Below.call (by assumption) ?_ (by first | omega | (simp;done) | (simp;omega)))
theorem Z83 (Bd:Nat) (x d:Pt) (w:World) (hx:Z3 x=true) (hd:Z3 d=true) (HD:Has w Bd #[O qL d.x,O qL d.y] 36) :
  Calls Tryz.prog 146 #[.agg #[O qL x.x,O qL x.y],.pointer (some ⟨Bd,0,none⟩)] w fun e w'=>e=.returned (.agg #[O qL (mvP d x).x,O qL (mvP d x).y])/\Below w.heap.size w w':=by
 have f:=qH (fun w1=>ZaV x d w1 hx hd)
 have hlt:=HD.lt;have c0:=HD.cell (i:=0) rfl;have c1:=HD.cell (i:=1) rfl;have H:=Has.new (w.alloc (qC #[O qL x.x,O qL x.y] 36)) #[O qL 0,O qL 0] 36;rw [show (w.alloc (qC #[O qL x.x,O qL x.y] 36)).heap.size=w.heap.size+1 by simp] at H
 have H:=qH H;have B0:=qH (show Below w.heap.size w ((w.alloc (qC #[O qL x.x,O qL x.y] 36)).alloc (qC #[O qL 0,O qL 0] 36)) from ((qK _ _).alloc (qN _) _).alloc (by first | omega | (simp;done) | (simp;omega)) _)
 generalize mvP d x=r at *;clear HD hx hd;go_enter Tryz.func146,Tryz.ntmps146;go_wp2_with fail;refine (f.out _).mono ?_;rintro e w1 ⟨rfl,hb1⟩;have H1:=H.out.below hb1 (by simp)
 have x0:=Zl H1 (i:=0) rfl;have x1:=Zl H1 (i:=1) rfl;have y0:=Ze H1 0;have y1:=Ze H1 1;have z0:=Zl (H1.set 0 (O qL r.x)) (i:=0) rfl;have z1:=Zl ((H1.set 0 (O qL r.x)).set 1 (O qL r.y)) (i:=1) rfl;have B1:=zAf B0 hb1;clear hb1 H1 c0 c1;go_wp2;refine bodyPost_ret (v:=.agg #[O qL r.x,O qL r.y]) (by simp [results,Tryz.f146,go_sem,z0,z1]) rfl ⟨rfl,?_⟩
 exact (B1.out.setCell (p:=⟨w.heap.size+1,0,none⟩) (by simp) _).setCell (p:=⟨w.heap.size+1,1,none⟩) (by simp) _
theorem Z9l (d:Pt) (l:List Pt) {k:Nat} (h:k<l.length):mvL d (l.take (k+1))=mvL d (l.take k)++[mvP d (nth l k)]:=by
 have e:nth l k=l[k]:=by simp [nth,List.getD_eq_getElem?_getD,List.getElem?_eq_getElem h]
 unfold mvL;rw [List.take_add_one,List.getElem?_eq_getElem h,List.map_append,e]
 rfl
theorem Zbn (v : Value) (l : List Pt) (Bd : Nat) (d : Pt) (w : World) (hp : Z7 w.heap.size w v l) (HD : Has w Bd #[O qL d.x, O qL d.y] 36) (hs : l.length <= 64) (hpl : ∀ k, k < l.length -> Z3 (nth l k) = true) (hd : Z3 d = true) :
  Calls Tryz.prog 145 #[v,.func (.func 146) #[] #[.pointer (some ⟨Bd,0,none⟩)]] w (PtsQ (mvL d l) w):=by
 obtain⟨hll,a,cap,rfl,hc⟩:=hp;have HC:=qH hc;have HPL:=qH hpl;have HDD:=qH HD;have HDP:=qH hd;obtain⟨i0,hi,hz0',hz1',hz2'⟩:=info_parts ptInfo;clear hc hpl hd HD;go_enter Tryz.func145,Tryz.ntmps145;go_wp2
 go_loopw [5,10] (fun v i wr=>∃ k:Nat,k<=l.length/\i=O qL (k:Int)/\wr.ownsRow w.heap.size 36 2 v k (Za (mvL d (l.take k)))/\Below w.heap.size w wr) (fun _ i _=>l.length-(intOf i).toNat)
 case atStart=>exact⟨0,by omega,rfl,World.ownsRow_nil _ _ _ _,qK _ _⟩
 case round =>
  obtain⟨k,hk,rfl,hrow,hB⟩:=hrel;have hzB:=hB.size;by_cases hlt:k<l.length
  ·obtain⟨b,o,rfl,hb,hcc⟩:∃ b o,a=some ⟨b,o,none⟩/\b<w.heap.size/\∀ j,j<l.length->w.cell? ⟨b,o+j*2,none⟩=some (O qL (nth l j).x)/\w.cell? ⟨b,o+j*2+1,none⟩=some (O qL (nth l j).y):=by
    rcases HC.out with h | h
    ·rw [h] at hlt;simp at hlt
    ·exact h
   obtain⟨q0,q1⟩:=hcc k hlt;have c0:=(hB.cell (p:=⟨b,o+k*2,none⟩) hb).trans q0;have c1:=(hB.cell (p:=⟨b,o+k*2+1,none⟩) hb).trans q1;have hst:=qH (Z9l d l hlt);have f:=qH (fun w1 (B:Below w.heap.size w w1)=>Z83 Bd (nth l k) d w1 (HPL.out k hlt) HDP.out (HDD.out.below B HDD.out.lt))
   generalize mvP d (nth l k)=r at *;generalize (nth l k).x=px at *;generalize (nth l k).y=py at *;have kl:(k:Int)<l.length:=by omega
   have k0:(0:Int)<=k:=by omega
   have dk:decide ((k:Int)<(l.length:Int))=true:=by simp;omega
   have HR:=qH hrow;have HB:=qH hB;have BA:=qH (show Below wr.heap.size wr (wr.alloc (qC #[O qL px,O qL py] 36)) from (qK _ _).alloc (qN _) _)
   clear hcc q0 q1 hrow hB;go_wp2_with fail;refine (f.out _ (HB.out.trans (BA.out.mono HB.out.size))).mono ?_;rintro e w2 ⟨rfl,b2⟩;have B2:=zAf BA b2;have R2:=qH (Zy HR.out B2.out);have z2:=B2.out.size;clear b2;go_wp2_with (at_builtin;refine wpList_append_own _ rfl _ _ 23 rfl w.heap.size 36 i0 (.agg #[.int .i64 0,.int .i64 0]) 2 16 Tryz.underlying23 hi hz0' hz1' hz2' rfl (by decide) _ _ _ rfl (R2.out.alloc _) ⟨w2.heap.size,0,none⟩ 1 1 [.int .i64 r.x,.int .i64 r.y] rfl rfl (Z2C _ _ _) (by simp [Value.oneCell']) (by unfold maxLen;omega) (by omega) (by simp;omega) ?_;intro v' w4 hown' hgrow _)
   go_roundw
   case rel =>
    have A2:=(qK w2.heap.size w2).alloc (qN _) (qC #[O qL r.x,O qL r.y] 36);have b4:Below w.heap.size w w4:=(HB.out.trans ((B2.out.trans (A2.mono z2)).mono hzB)).grown hgrow (by simp;omega) (fun j ej=>(R2.out.lt j ej).1)
    refine⟨k+1,by omega,by go_num,?_,b4⟩
    rw [hst.out,ZR];exact hown'
   case measure=>simp [intOf];omega
  ·obtain rfl:k=l.length:=by omega
   have dk:decide ((l.length:Int)<(l.length:Int))=false:=by simp
   rw [List.take_length] at hrow;have P:=qH (Z7.own hrow (by rw [Z0k];omega))
   have HB:=qH hB;clear hrow hB;go_wp2;go_ret;exact⟨_,rfl,P.out,HB.out⟩
end
end Go.Proofs.YthipcinibldgnaaGreat
