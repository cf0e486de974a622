/- package rocks: First, Hit. | Plain: what Has, Common, First and Hit say of one another. | Plain geometry: polygons that have a point in common touc .. -/
import Derived.WalkMore
import Derived.Test.YthipcinibldgnaaGreatBin15
import Derived.Deep.CutRange
open Go.Value renaming int->O
open Go.Obj renaming cells->qC
open Go.IntKind renaming i64->qL
open Go.Lib renaming hid->qH
open Go.RowKit.Below renaming refl->qK
open Nat renaming le_refl->qN
set_option linter.unusedSimpArgs false
set_option maxRecDepth 8000
set_option maxHeartbeats 1600000
namespace Go.Proofs.YthipcinibldgnaaGreat
section
attribute [local irreducible] wpQuiet
open Go.RowKit
noncomputable def hitTo (c:List Pt) (ls:List (List Pt)):Nat->Option Nat
 | 0=>none
 | k+1=>if (hitTo c ls k).isSome=true then hitTo c ls k else if touchB c (rk ls k)=true then some k else none
def natO (o:Option Nat):Int:=match o with | some k=>k | none=>0
open Classical in
noncomputable def okRocks (c:List Pt) (ls:List (List Pt)):Bool:=Zb c && decide (∀ j,j<ls.length->Zb (rk ls j)=true)
noncomputable def firI (c:List Pt) (ls:List (List Pt)):Int:=if ls.length<=100/\okRocks c ls=true then natO (hitTo c ls ls.length) else 0
noncomputable def firB (c:List Pt) (ls:List (List Pt)):Bool:=if ls.length<=100/\okRocks c ls=true then (hitTo c ls ls.length).isSome else false
noncomputable def firE (c:List Pt) (ls:List (List Pt)):Int:=if ls.length<=100 then (if okRocks c ls=true then 0 else 1) else 2
theorem Zau {c:List Pt} {ls:List (List Pt)} (h:ls.length<=100) (hk:okRocks c ls=false):firI c ls=0/\firB c ls=false/\firE c ls=1:=by
 unfold firI firB firE;simp [h,hk]
theorem Z1w (vc vr : Value) (c : List Pt) (ls : List (List Pt)) (w : World) (hc : Z7 w.heap.size w vc c) (hr : Z6 w.heap.size w vr ls) :
  Calls Tryz.prog 53 #[vc,vr] w fun e w'=>e=.returned (.tuple #[O qL (firI c ls),.bool (firB c ls),O qL (firE c ls)])/\Below w.heap.size w w':=by
 obtain⟨_,ar,ac,rfl,E⟩:=hr;by_cases hbig:100<ls.length
 ·have d1:decide ((ls.length:Int)>100)=true:=by rw [decide_eq_true_eq];omega
  have l:=qH (show firI c ls=0/\firB c ls=false/\firE c ls=2 by unfold firI firB firE;simp [show ¬ ls.length<=100 by omega])
  obtain⟨R,m,rfl⟩:=hc.len;clear hbig E hc;go_enter Tryz.func53,Tryz.ntmps53;go_wp2
  go_step3
  go_wp2
  (try rw [Exit.noGoto_ret]);go_ret3
  exact⟨by rw [l.out.1,l.out.2.1,l.out.2.2];rfl,qK _ _⟩
 ·have d1 : decide ((ls.length : Int) > 100) = false := by rw [decide_eq_false_iff_not]; omega
  have D:ls.length<=100:=by omega
  have f1:=qH (fun J (B:Below w.heap.size w J)=>Z2N vc c J ((hc.below B).mono B.size))
  have f2:=qH (fun J (B:Below w.heap.size w J)=>Zs vc c J ((hc.below B).mono B.size))
  have HP:=qH hc;obtain⟨R,m,rfl⟩:=hc.len;have aa:=qH E;have hA:=(qK w.heap.size w).alloc (qN _) (qC #[.slice R c.length (c.length+m)] 23);have hN:=qH (Has.new w #[.slice R c.length (c.length+m)] 23);have HA:=qH hA;have Z:w.heap.size<(w.alloc (qC #[.slice R c.length (c.length+m)] 23)).heap.size:=by simp
  obtain⟨V,F⟩:∃ g,Zb c=g:=⟨_,rfl⟩;rw [F] at f2;have A:=qH F;clear hbig E hc hA F;go_enter Tryz.func53,Tryz.ntmps53;go_wp2
  go_step3
  go_wp2_with fail;refine (f1.out _ (qK _ _)).mono ?_;rintro e J ⟨rfl,rfl⟩;go_wp2_with fail;refine (f2.out _ HA.out).mono ?_;rintro e w2 ⟨rfl,H⟩;have G2:=qH (hN.out.below H Z);have B2:=zAd HA H;have W:=G2.out.lt;clear H;go_wp2
  go_step3
  go_wp2
  go_loopw [8,9,10,22] (fun x y r i wr=>∃ k:Nat,k<=ls.length/\i=O qL (k:Int)/\r=.bool V/\x=O qL (natO (hitTo c ls k))/\y=.bool (hitTo c ls k).isSome/\(∀ j,j<k->Zb (rk ls j)=true)/\Below w2.heap.size w2 wr) (fun _ _ _ i _=>ls.length-(intOf i).toNat)
  case atStart=>exact⟨0,by omega,rfl,rfl,rfl,rfl,fun j h=>by omega,qK _ _⟩
  case round =>
   obtain⟨k,hk,rfl,rfl,rfl,rfl,v,K⟩:=hrel;have n:=B2.out.trans (K.mono B2.out.size);have G:=G2.out.below K W;have hzr:=K.size;have t:=qH v;clear v;by_cases hlt:k<ls.length
   ·obtain ⟨b, o, rfl, hb, N⟩ : ∃ b o, ar = some ⟨b, o, none⟩ /\ b < w.heap.size /\ ∀ j, j < ls.length -> ∃ u, w.cell? ⟨b, o + j, none⟩ = some u /\ Z7 w.heap.size w u (rk ls j) := by
     rcases aa.out with h | h
     ·rw [h] at hlt;simp at hlt
     ·exact h
    obtain⟨u,hu,C⟩:=N k hlt;have e0:=cY n hu hb;have z:=(C.below n).mono n.size;have Q:=qH (Zs u (rk ls k) wr z);have U:=cX 0 G rfl;have s:Hid (hitTo c ls (k+1)=if (hitTo c ls k).isSome=true then hitTo c ls k else if touchB c (rk ls k)=true then some k else none):=rfl
    obtain⟨au,cu,rfl⟩:=C.len;have dk:decide ((k:Int)<(ls.length:Int))=true:=by simp;omega
    have kl:(k:Int)<ls.length:=by omega
    have k0:(0:Int)<=k:=by omega
    have HB:=qH K;have p:=qH n;have HG:=qH G;have T:=qH z;have ab:=qH ((HP.out.below n).mono n.size);clear N hu C K n G z U;generalize S:hitTo c ls k=P at *;cases hg:Zb (rk ls k)
    ·have l:=qH (Zau D (show okRocks c ls=false by
      unfold okRocks;rw [Bool.and_eq_false_iff]
      right
      refine decide_eq_false fun h=>?_
      have:=h k hlt;rw [hg] at this;cases this))
     rw [hg] at Q;clear hg S;go_wp2_with fail;refine Q.out.mono ?_;rintro e w3 ⟨rfl,d⟩;have I:=zAd p d;clear d;go_wp2
     (try rw [Exit.noGoto_ret]);go_ret3
     exact⟨by rw [l.out.1,l.out.2.1,l.out.2.2];rfl,I.out⟩
    ·rw [hg] at Q
     have f:Hid (∀ j,j<k+1->Zb (rk ls j)=true):=fun j hj=>by
      by_cases e:j=k
      ·rw [e];exact hg
      ·exact t.out j (by omega)
     clear hg;go_wp2_with fail;refine Q.out.mono ?_;rintro e w3 ⟨rfl,d⟩;have I:=qH (HB.out.trans (d.mono (by omega)))
     have G3:=HG.out.below d HG.out.lt;have c3:=qH (cX 0 G3 rfl);have Y:=qH ((ab.out.below d).mono d.size);have X:=qH ((T.out.below d).mono d.size);have hz3:=I.out.size;clear d G3;cases P with
     | some q =>
      have a:Hid (hitTo c ls (k+1)=some q):=by show _=_;rw [s.out];rfl
      go_wp2;go_roundw
      case rel=>exact⟨k+1,by omega,by go_num,rfl,by rw [a.out],by rw [a.out];rfl,f.out,I.out⟩
      case measure=>simp [intOf];omega
     | none =>
      cases V
      ·have a:Hid (hitTo c ls (k+1)=none):=by
        show _=_
        rw [s.out];have:touchB c (rk ls k)=false:=by unfold touchB;rw [A.out];rfl
        rw [this];rfl
       go_wp2;go_roundw
       case rel=>exact⟨k+1,by omega,by go_num,rfl,by rw [a.out],by rw [a.out];rfl,f.out,I.out⟩
       case measure=>simp [intOf];omega
      ·have P:=qH (Z23 w.heap.size _ _ c (rk ls k) w3 c3.out Y.out X.out)
       go_wp2_with fail;refine P.out.mono ?_;rintro e w4 ⟨rfl,M⟩;have B4:=qH (I.out.trans (M.mono (by omega)))
       clear M;cases htb:touchB c (rk ls k)
       ·have a:Hid (hitTo c ls (k+1)=none):=by show _=_;rw [s.out,htb];rfl
        clear htb;go_wp2;go_roundw
        case rel=>exact⟨k+1,by omega,by go_num,rfl,by rw [a.out],by rw [a.out];rfl,f.out,B4.out⟩
        case measure=>simp [intOf];omega
       ·have a:Hid (hitTo c ls (k+1)=some k):=by show _=_;rw [s.out,htb];rfl
        clear htb;go_wp2;go_roundw
        case rel=>exact⟨k+1,by omega,by go_num,rfl,by rw [a.out];rfl,by rw [a.out];rfl,f.out,B4.out⟩
        case measure=>simp [intOf];omega
   ·obtain rfl:k=ls.length:=by omega
    have dk:decide ((ls.length:Int)<(ls.length:Int))=false:=by simp
    have p:=qH n;clear K n G;cases V
    ·have l:=qH (Zau D (show okRocks c ls=false by unfold okRocks;rw [A.out];rfl))
     generalize hitTo c ls ls.length=P at *;go_wp2
     (try rw [Exit.noGoto_ret]);go_ret3
     exact⟨by rw [l.out.1,l.out.2.1,l.out.2.2];rfl,p.out⟩
    ·have L:okRocks c ls=true:=by
      unfold okRocks;rw [A.out,Bool.true_and];exact decide_eq_true t.out
     have l:=qH (show firI c ls=natO (hitTo c ls ls.length)/\firB c ls=(hitTo c ls ls.length).isSome/\firE c ls=0 by unfold firI firB firE;simp [D,L])
     clear L;go_wp2
     (try rw [Exit.noGoto_ret]);go_ret3
     exact⟨by rw [l.out.1,l.out.2.1,l.out.2.2];rfl,p.out⟩
theorem Z8Q (vp vq:Value) (l m:List Pt) (w:World) (hp:Z7 w.heap.size w vp l) (hq:Z7 w.heap.size w vq m) :
  Calls Tryz.prog 163 #[vp,vq] w fun e w'=>e=.returned (.tuple #[.agg #[O qL (if (Zb l && Zb m)=true then optX (comX l m) else 0),O qL (if (Zb l && Zb m)=true then optY (comX l m) else 0)],.bool (Zb l && Zb m && (comX l m).isSome),O qL (bothE l m)])/\Below w.heap.size w w':=by
 unfold bothE;cases h:(Zb l && Zb m)
 ·exact ZaO vp vq l m w hp hq h
 ·simp only [Bool.and_eq_true] at h
  exact Z8P vp vq l m w hp hq h.1 h.2
noncomputable def hitX (l m:List Pt):Int:=if (Zb l && Zb m)=true then optX (comX l m) else 0
noncomputable def hitY (l m:List Pt):Int:=if (Zb l && Zb m)=true then optY (comX l m) else 0
noncomputable def hitB (l m:List Pt):Bool:=Zb l && Zb m && (comX l m).isSome
noncomputable def hitE (l m:List Pt):Int:=if (Zb l && Zb m)=true then (if (comX l m).isSome=true then 0 else if touchB l m=true then 20 else 0) else 1
theorem Zbz {o:Option Pt} (h:o.isSome=false):optX o=0/\optY o=0:=by
 cases o
 ·exact⟨rfl,rfl⟩
 ·cases h
theorem Zd2 (vp vq : Value) (l m : List Pt) (w : World) (hp : Z7 w.heap.size w vp l) (hq : Z7 w.heap.size w vq m) :
  Calls Tryz.prog 140 #[vp,vq] w fun e w'=>e=.returned (.tuple #[.agg #[O qL (hitX l m),O qL (hitY l m)],.bool (hitB l m),O qL (hitE l m)])/\Below w.heap.size w w':=by
 have n:=qH (fun a (B:Below w.heap.size w a)=>Z8Q vp vq l m a ((hp.below B).mono B.size) ((hq.below B).mono B.size))
 have f2:=qH (fun a (B:Below w.heap.size w a)=>Z2N vp l a ((hp.below B).mono B.size))
 have f3:=qH (fun Bc a (B:Below w.heap.size w a) hc=>Z23 Bc vp vq l m a hc ((hp.below B).mono B.size) ((hq.below B).mono B.size))
 obtain⟨W,r,rfl⟩:=hp.len;obtain⟨aq,capq,rfl⟩:=hq.len;have hA:=(qK w.heap.size w).alloc (qN _) (qC #[O qL 0,O qL 0] 36);have N:=qH (Has.new w #[O qL 0,O qL 0] 36);have o:=qH hA;have C:w.heap.size<(w.alloc (qC #[O qL 0,O qL 0] 36)).heap.size:=by simp
 obtain⟨X,q⟩:∃ X,(if (Zb l && Zb m)=true then optX (comX l m) else 0)=X:=⟨_,rfl⟩
 obtain⟨Y,s⟩:∃ Y,(if (Zb l && Zb m)=true then optY (comX l m) else 0)=Y:=⟨_,rfl⟩
 have I:hitX l m=X:=q;have L:hitY l m=Y:=s;rw [q,s] at n;rw [I,L];clear hp hq hA I L;have K:∀ (a:World) (b:Bool) (e x y:Int),Has a w.heap.size #[O qL 0,O qL 0] 36->Below w.heap.size w a ->
   (a.cell? ⟨w.heap.size,0,none⟩=some (O qL 0)/\a.cell? ⟨w.heap.size,1,none⟩=some (O qL 0)/\a.frozen? ⟨w.heap.size,0,none⟩=false/\a.frozen? ⟨w.heap.size,1,none⟩=false) /\
   (((a.setCell ⟨w.heap.size,0,none⟩ (O qL x)).setCell ⟨w.heap.size,1,none⟩ (O qL y)).cell? ⟨w.heap.size,0,none⟩=some (O qL x)/\((a.setCell ⟨w.heap.size,0,none⟩ (O qL x)).setCell ⟨w.heap.size,1,none⟩ (O qL y)).cell? ⟨w.heap.size,1,none⟩=some (O qL y)) /\
   Below w.heap.size w ((a.setCell ⟨w.heap.size,0,none⟩ (O qL x)).setCell ⟨w.heap.size,1,none⟩ (O qL y)):=fun a b e x y G B=>by
  have HZ:=(G.set 0 (O qL x)).set 1 (O qL y);exact⟨⟨cX 0 G rfl,cX 1 G rfl,Ze G 0,Ze G 1⟩,⟨cX 0 HZ rfl,cX 1 HZ rfl⟩,(B.setCell (p:=⟨w.heap.size,0,none⟩) (by simp) _).setCell (p:=⟨w.heap.size,1,none⟩) (by simp) _⟩
 have u:=qH K;clear K;cases hv:(Zb l && Zb m)
 ·have f:=qH (show hitB l m=false/\hitE l m=1/\bothE l m=1 by unfold hitB hitE bothE;rw [hv];simp)
  rw [f.out.2.2,hv] at n;simp only [Bool.false_and] at n;clear hv q s;go_enter Tryz.func140,Tryz.ntmps140;go_wp2_with fail;refine (n.out _ o.out).mono ?_;rintro e a ⟨rfl,d⟩;have j:=N.out.below d C;have k:=o.out.trans (d.mono o.out.size);have c:=(qK a.heap.size a).alloc (qN _) (qC #[O qL X,O qL Y] 36);obtain⟨⟨x0,x1,y0,y1⟩,⟨F,E⟩,t⟩:=u.out _ false 1 X Y (j.below c j.lt) (k.trans (c.mono k.size));have g:=qH t;clear d j k c t;go_wp2;exact bodyPost_ret (v:=.tuple #[.agg #[O qL X,O qL Y],.bool false,O qL 1]) (by simp [results,Tryz.f140,go_sem,F,E]) rfl ⟨by rw [f.out.1,f.out.2.1],g.out⟩
 ·rw [hv] at q s
  simp only [if_true] at q s;cases hs:(comX l m).isSome
  ·have Z:=Zbz hs
   rw [q,s] at Z;obtain⟨rfl,rfl⟩:=Z;have f:=qH (show hitB l m=false/\hitE l m=(if touchB l m=true then 20 else 0)/\bothE l m=0 by unfold hitB hitE bothE;rw [hv,hs];simp)
   rw [f.out.2.2,hv,hs] at n;simp only [Bool.and_false] at n;clear hv hs q s;go_enter Tryz.func140,Tryz.ntmps140;go_wp2_with fail;refine (n.out _ o.out).mono ?_;rintro e a ⟨rfl,d⟩;have c:=(qK a.heap.size a).alloc (qN _) (qC #[O qL 0,O qL 0] 36);have j:=N.out.below d C;have S:=qH (j.below c j.lt);have k:=o.out.trans (d.mono o.out.size);have U:=qH (k.trans (c.mono k.size));have M:=qH c;clear d j k c;obtain⟨H,A⟩:∃ H,a.alloc (qC #[O qL 0,O qL 0] 36)=H:=⟨_,rfl⟩;rw [A] at S U M;have V:=qH A;clear A;have P:=S.out.lt;go_upto_region 4 with fail
   rw [V.out];go_wp2_with fail;refine (f2.out _ U.out).mono ?_;rintro e w3 ⟨rfl,rfl⟩;have D:=(qK H.heap.size H).alloc (qN _) (qC #[.slice W l.length (l.length+r)] 23);have J:=(Has.new H #[.slice W l.length (l.length+r)] 23).cell (i:=0) rfl;have R:=zAd U D;have G3:=qH (S.out.below D P);have Q:=G3.out.lt;have ht:=qH (f3.out H.heap.size _ R.out J);clear D J;go_wp2_with fail;refine ht.out.mono ?_;rintro e w4 ⟨rfl,z⟩;have G4:=G3.out.below z Q;have B4:=R.out.trans (z.mono R.out.size);obtain⟨⟨x0,x1,y0,y1⟩,⟨F,E⟩,t⟩:=u.out _ false 1 0 0 G4 B4;have g:=qH t;clear z G4 B4 t;cases htb:touchB l m
   ·have T:=qH htb
    clear htb;go_wp2;exact bodyPost_ret (v:=.tuple #[.agg #[O qL 0,O qL 0],.bool false,O qL 0]) (by simp [results,Tryz.f140,go_sem,F,E]) rfl ⟨by rw [f.out.1,f.out.2.1,T.out];rfl,g.out⟩
   ·have T:=qH htb
    clear htb;go_wp2;exact bodyPost_ret (v:=.tuple #[.agg #[O qL 0,O qL 0],.bool false,O qL 20]) (by simp [results,Tryz.f140,go_sem,F,E]) rfl ⟨by rw [f.out.1,f.out.2.1,T.out];rfl,g.out⟩
  ·have f:=qH (show hitB l m=true/\hitE l m=0/\bothE l m=0 by unfold hitB hitE bothE;rw [hv,hs];simp)
   rw [f.out.2.2,hv,hs] at n;simp only [Bool.and_true] at n;clear hv hs q s;go_enter Tryz.func140,Tryz.ntmps140;go_wp2_with fail;refine (n.out _ o.out).mono ?_;rintro e a ⟨rfl,d⟩;have j:=N.out.below d C;have k:=o.out.trans (d.mono o.out.size);have c:=(qK a.heap.size a).alloc (qN _) (qC #[O qL X,O qL Y] 36);obtain⟨⟨x0,x1,y0,y1⟩,⟨F,E⟩,t⟩:=u.out _ false 1 X Y (j.below c j.lt) (k.trans (c.mono k.size));have g:=qH t;clear d j k c t;go_wp2;exact bodyPost_ret (v:=.tuple #[.agg #[O qL X,O qL Y],.bool true,O qL 0]) (by simp [results,Tryz.f140,go_sem,F,E]) rfl ⟨by rw [f.out.1,f.out.2.1],g.out⟩
end
def validC (l : List Pt) : Bool :=
 decide (1<=l.length/\l.length<=64) && (List.range l.length).all (fun k=>Z3 (nth l k) && (decide (k=0) || decide (cmpP (nth l 0) (nth l k)<0))) &&
  (decide (l.length<3) || (List.range l.length).all (fun i=>(List.range l.length).all (fun k=>decide (nth l k=(sideP l i).1) || decide (nth l k=(sideP l i).2) || decide (0<Z5 (sideP l i).1 (sideP l i).2 (nth l k)))))
theorem Z4f (l : List Pt) : validC l = true ↔ GoValid l := by
 simp only [validC,Bool.and_eq_true,Bool.or_eq_true,decide_eq_true_eq,List.all_eq_true,List.mem_range];constructor
 ·rintro ⟨⟨⟨d,b⟩,a⟩,c⟩
  refine⟨d,b,fun k hk=>⟨(a k hk).1,fun h0=>?_⟩,fun hn i hi k hk e1 e2=>?_⟩
  ·rcases (a k hk).2 with h | h
   ·omega
   ·exact h
  ·rcases c with h | h
   ·omega
   ·rcases h i hi k hk with (h | h) | h
    ·exact absurd h e1
    ·exact absurd h e2
    ·exact h
 ·rintro ⟨d,b,a,c⟩
  refine⟨⟨⟨d,b⟩,fun k hk=>⟨(a k hk).1,?_⟩⟩,?_⟩
  ·rcases Nat.eq_zero_or_pos k with h | h
   ·exact .inl h
   ·exact .inr ((a k hk).2 h)
  ·rcases Nat.lt_or_ge l.length 3 with h | h
   ·exact .inl h
   ·refine .inr fun i hi k hk=>?_
    by_cases e1:nth l k=(sideP l i).1
    ·exact .inl (.inl e1)
    ·by_cases e2:nth l k=(sideP l i).2
     ·exact .inl (.inr e2)
     ·exact .inr (c h i hi k hk e1 e2)
theorem Z0s (l:List Pt):Zb l=validC l:=by
 cases h:validC l
 ·have:¬ GoValid l:=fun h2=>by rw [(Z4f l).2 h2] at h;cases h
  simpa [Zb] using this
 ·have:=(Z4f l).1 h
  simpa [Zb] using this
theorem ZY {l:List Pt} (h:Zb l=true):GoValid l:=by simpa [Zb] using h
theorem Z3G (f:Pt->Int) (l:List Pt):∀ k,(∀ j,j<k->loTo f l k<=f (nth l j))/\loTo f l k<=f (nth l 0)
 | 0=>⟨fun j h=>by omega,Int.le_refl _⟩
 | k + 1 => by
  have ih:=Z3G f l k;simp only [loTo];constructor
  ·intro j hj
   by_cases e:j=k
   ·subst e;split <;> omega
   ·have:=ih.1 j (by omega);split <;> omega
  ·have:=ih.2;split <;> omega
theorem Z3N (f:Pt->Int) (l:List Pt):∀ k,(∀ j,j<k->f (nth l j)<=hiTo f l k)/\f (nth l 0)<=hiTo f l k
 | 0=>⟨fun j h=>by omega,Int.le_refl _⟩
 | k + 1 => by
  have ih:=Z3N f l k;simp only [hiTo];constructor
  ·intro j hj
   by_cases e:j=k
   ·subst e;split <;> omega
   ·have:=ih.1 j (by omega);split <;> omega
  ·have:=ih.2;split <;> omega
theorem Z2a {l:List Pt} (h:GoValid l) {k:Nat} (hk:k<l.length):inside l (nth l k)=true:=by
 unfold inside;by_cases h3:l.length<3
 ·rw [if_pos h3,decide_eq_true_eq]
  refine⟨?_,(Z3G bxF1 l l.length).1 k hk,(Z3N bxF1 l l.length).1 k hk,(Z3G bxF2 l l.length).1 k hk,(Z3N bxF2 l l.length).1 k hk⟩;rcases (show k=0\/k=l.length-1 by omega) with e | e
  ·rw [e];unfold Z5 turnV;grind
  ·rw [e];unfold Z5 turnV;grind
 ·rw [if_neg h3,decide_eq_true_eq]
  intro i hi;by_cases e1:nth l k=(sideP l i).1
  ·rw [e1];unfold Z5 turnV;grind
  ·by_cases e2:nth l k=(sideP l i).2
   ·rw [e2];unfold Z5 turnV;grind
   ·have:=h.2.2.2 (by omega) i hi k hk e1 e2;omega
theorem Z1c {l:List Pt} (h:Zb l=true) {k:Nat} (hk:k<l.length):hasB l (nth l k)=true:=by
 have g:=ZY h;simp only [hasB,h,(g.2.2.1 k hk).1,Z2a g hk,Bool.and_true]
theorem Z6O {l:List Pt} {k:Nat} (hk:k<l.length):nth l k ∈ l:=by simp [nth,List.getD,List.getElem?_eq_getElem hk]
theorem Z27 {l:List Pt}:∀ k,k<l.length->minTo l k ∈ l
 | 0,h=>Z6O h
 | k + 1, h => by
  have ih:=Z27 k (show k<l.length by omega)
  simp only [minTo]
  split
  ·exact Z6O h
  ·exact ih
theorem Z7c {l m:List Pt} (hl:Zb l=true) (hm:Zb m=true) {x:Pt}:∀ k,x ∈ comL l m k->hasB l x=true/\hasB m x=true
 | 0, h => by
  obtain⟨j,hj,e,hb⟩:=(Z00 _).1 (show x ∈ cornersTo l m l.length from h)
  rw [<- e] at hb ⊢;exact⟨Z1c hl hj,hb⟩
 | 1, h => by
  obtain⟨j,hj,e,hb⟩:=(Z00 _).1 (show x ∈ cornersTo m l m.length from h)
  rw [<- e] at hb ⊢;exact⟨hb,Z1c hm hj⟩
 | k + 2, h => by
  have h':x ∈ cornersP (cornersP (crossP l m) l) m:=by
   unfold comL at h
   rwa [if_neg (by omega),if_neg (by omega)] at h
  obtain⟨j,hj,e,hb⟩:=(Z00 _).1 (show x ∈ cornersTo (cornersP (crossP l m) l) m _ from h')
  have b:x ∈ cornersTo (crossP l m) l (crossP l m).length:=by rw [<- e];exact Z6O hj
  obtain⟨_,_,_,a⟩:=(Z00 _).1 b;exact⟨a,hb⟩
theorem Zde {l m:List Pt} (hl:Zb l=true) (hm:Zb m=true) {x:Pt} (h:comX l m=some x):hasB l x=true/\hasB m x=true:=by
 unfold comX at h
 split at h
 ·cases h;exact Z7c hl hm 0 (Z27 _ (by omega))
 ·split at h
  ·cases h;exact Z7c hl hm 1 (Z27 _ (by omega))
  ·split at h
   ·cases h;exact Z7c hl hm 2 (Z27 _ (by omega))
   ·cases h
theorem Zat {c p:List Pt} (hc:Zb c=true) (hp:Zb p=true):firB c [p]=touchB c p/\firE c [p]=0:=by
 have a:okRocks c [p]=true:=by
  unfold okRocks;rw [hc,Bool.true_and];refine decide_eq_true fun j hj=>?_
  obtain rfl:j=0:=by simpa using hj
  exact hp
 unfold firB firE;simp only [List.length_singleton,a,and_true,if_true,show (1:Nat)<=100 by omega]
 show (if (none:Option Nat).isSome=true then none else if touchB c p=true then some 0 else none:Option Nat).isSome=touchB c p
 cases touchB c p <;> rfl
noncomputable def cornersC (l m:List Pt):Nat->List Pt
 | 0=>[]
 | k+1=>if (Z3 (nth l k) && inside m (nth l k))=true then cornersC l m k++[nth l k] else cornersC l m k
theorem ZJ {l m:List Pt} (hm:Zb m=true):∀ k,cornersTo l m k=cornersC l m k
 | 0=>rfl
 | k+1=>by simp only [cornersTo,cornersC,hasB,hm,Bool.true_and,ZJ hm k]
def InH (l:List Pt) (X Y W:Int):Prop :=
 if l.length<3 then SegH (nth l 0) (nth l (l.length-1)) X Y W else ∀ i,i<l.length->0<=hturn (sideP l i).1 (sideP l i).2 X Y W
theorem Zb2 {l:List Pt} {k:Nat} (hk:k<l.length):(boxL l).x<=(nth l k).x/\(boxL l).y<=(nth l k).y:=⟨(Z3G bxF1 l l.length).1 k hk,(Z3G bxF2 l l.length).1 k hk⟩
theorem Zb3 {l:List Pt} {k:Nat} (hk:k<l.length):(nth l k).x<=(boxH l).x/\(nth l k).y<=(boxH l).y:=⟨(Z3N bxF1 l l.length).1 k hk,(Z3N bxF2 l l.length).1 k hk⟩
theorem Z5c (f:Pt->Int) (l:List Pt):∀ k,(∃ j,(j<k\/j=0)/\loTo f l k=f (nth l j))
 | 0=>⟨0,.inr rfl,rfl⟩
 | k + 1 => by
  obtain⟨j,hj,e⟩:=Z5c f l k;simp only [loTo];by_cases h:f (nth l k)<loTo f l k
  ·exact⟨k,.inl (by omega),by split <;> omega⟩
  ·exact⟨j,by omega,by split <;> omega⟩
theorem Z5j (f:Pt->Int) (l:List Pt):∀ k,(∃ j,(j<k\/j=0)/\hiTo f l k=f (nth l j))
 | 0=>⟨0,.inr rfl,rfl⟩
 | k + 1 => by
  obtain⟨j,hj,e⟩:=Z5j f l k;simp only [hiTo];by_cases h:hiTo f l k<f (nth l k)
  ·exact⟨k,.inl (by omega),by split <;> omega⟩
  ·exact⟨j,by omega,by split <;> omega⟩
theorem SegH.turn {a b:Pt} {X Y W K s t:Int} (e1:K*X=s*a.x+t*b.x) (e2:K*Y=s*a.y+t*b.y) (e3:K*W=s+t) (u v:Pt):K*hturn u v X Y W=s*Z5 u v a+t*Z5 u v b:=by
 rw [<- Z1b,e1,e2,e3];unfold hturn Z5 turnV;grind
theorem Z0B {K a:Int} (hK:0<K) (h:0<=K*a):0<=a:=by
 rcases Int.lt_or_le a 0 with b | b
 ·have:=Int.mul_neg_of_pos_of_neg hK b;omega
 ·exact b
def Ord (a b:Pt):Prop:=a=b\/a.x<b.x\/a.x=b.x/\a.y<b.y
theorem GoValid.ord {l:List Pt} (h:GoValid l) (h3:l.length<3):Ord (nth l 0) (nth l (l.length-1)):=by
 by_cases e:l.length=1
 ·left;rw [e]
 ·have b:=h.1
  have a:l.length=2:=by omega
  have:=(h.2.2.1 1 (by omega)).2 (by omega)
  rw [a];unfold cmpP at this;rw [Z0K] at this;exact .inr this
theorem Z4n {a b x:Pt} (ho:Ord a b) (ht:Z5 a b x=0) (h1:(if b.x<a.x then b.x else a.x)<=x.x) (h2:x.x<=(if a.x<b.x then b.x else a.x)) (h3:(if b.y<a.y then b.y else a.y)<=x.y) (h4:x.y<=(if a.y<b.y then b.y else a.y)):SegH a b x.x x.y 1:=by
 rcases ho with rfl | h | ⟨h,c⟩
 ·simp only [Int.lt_irrefl,if_false] at h1 h2 h3 h4
  exact⟨1,1,0,by omega,by omega,by omega,by omega,by omega,by omega⟩
 ·rw [if_neg (by omega)] at h1
  rw [if_pos h] at h2;refine⟨b.x-a.x,b.x-x.x,x.x-a.x,by omega,by omega,by omega,by grind,?_,by omega⟩
  unfold Z5 turnV at ht;grind
 ·have d:x.x=a.x:=by rw [h,if_neg (by omega)] at h1 h2;omega
  rw [if_neg (by omega)] at h3
  rw [if_pos c] at h4;refine⟨b.y-a.y,b.y-x.y,x.y-a.y,by omega,by omega,by omega,?_,by grind,by omega⟩
  rw [d,h];grind
theorem Z01 {l:List Pt} (hl:GoValid l) {x:Pt} (h:inside l x=true):InH l x.x x.y 1:=by
 unfold inside at h;unfold InH;by_cases h3:l.length<3
 ·rw [if_pos h3] at h ⊢
  rw [decide_eq_true_eq] at h;obtain⟨d,f,k,n,m⟩:=h;have g:=hl.1;have a:∀ j,(j<l.length\/j=0)->nth l j=nth l 0\/nth l j=nth l (l.length-1):=fun j b=>by
   rcases (show j=0\/j=l.length-1 by omega) with rfl | rfl
   ·exact .inl rfl
   ·exact .inr rfl
  refine Z4n (hl.ord h3) d ?_ ?_ ?_ ?_
  ·obtain⟨j,b,e⟩:=Z5c bxF1 l l.length
   have c:(boxL l).x=(nth l j).x:=e;rcases a j b with q | q <;> rw [q] at c <;> split <;> omega
  ·obtain⟨j,b,e⟩:=Z5j bxF1 l l.length
   have c:(boxH l).x=(nth l j).x:=e;rcases a j b with q | q <;> rw [q] at c <;> split <;> omega
  ·obtain⟨j,b,e⟩:=Z5c bxF2 l l.length
   have c:(boxL l).y=(nth l j).y:=e;rcases a j b with q | q <;> rw [q] at c <;> split <;> omega
  ·obtain⟨j,b,e⟩:=Z5j bxF2 l l.length
   have c:(boxH l).y=(nth l j).y:=e;rcases a j b with q | q <;> rw [q] at c <;> split <;> omega
 ·rw [if_neg h3] at h ⊢
  rw [decide_eq_true_eq] at h;exact fun i hi=>by rw [Z13];exact h i hi
theorem ZM {l : List Pt} (h1 : 1 <= l.length) {x : Pt} (h : InH l x.x x.y 1) : inside l x = true := by
 unfold InH at h;unfold inside;by_cases h3:l.length<3
 ·rw [if_pos h3] at h ⊢
  rw [decide_eq_true_eq];obtain⟨K,s,t,o,hs,u,g,f,B⟩:=h;have v:=SegH.turn g f B (nth l 0) (nth l (l.length-1));rw [Z13,Z2e,Z2d,Int.mul_zero,Int.mul_zero,Int.add_zero] at v;have z:=Zb2 (l:=l) (k:=0) (by omega)
  have j:=Zb2 (l:=l) (k:=l.length-1) (by omega)
  have w:=Zb3 (l:=l) (k:=0) (by omega)
  have m:=Zb3 (l:=l) (k:=l.length-1) (by omega)
  generalize nth l 0=a at *;generalize nth l (l.length-1)=b at *;have n:∀ c p q r:Int,c<=p->c<=q->K*r=s*p+t*q->c<=r:=fun c p q r hp hq e=>by
   have C:=Int.mul_nonneg hs (show 0<=p-c by omega)
   have A:=Int.mul_nonneg u (show 0<=q-c by omega)
   have:0<=r-c:=Z0B o (by
    have:K*(r-c)=s*(p-c)+t*(q-c):=by rw [Int.mul_sub,e];grind
    omega)
   omega
  have d:∀ c p q r:Int,p<=c->q<=c->K*r=s*p+t*q->r<=c:=fun c p q r hp hq e=>by
   have C:=Int.mul_nonneg hs (show 0<=c-p by omega)
   have A:=Int.mul_nonneg u (show 0<=c-q by omega)
   have:0<=c-r:=Z0B o (by
    have:K*(c-r)=s*(c-p)+t*(c-q):=by rw [Int.mul_sub,e];grind
    omega)
   omega
  refine⟨?_,n _ _ _ _ z.1 j.1 g,d _ _ _ _ w.1 m.1 g,n _ _ _ _ z.2 j.2 f,d _ _ _ _ w.2 m.2 f⟩;rcases Int.mul_eq_zero.1 v with h | h
  ·omega
  ·exact h
 ·rw [if_neg h3] at h ⊢
  rw [decide_eq_true_eq];exact fun i d=>by rw [<- Z13];exact h i d
theorem GoValid.conv {l:List Pt} (h:GoValid l) (h3:3<=l.length):Conv (nth l) l.length:=by
 have d:=Z3Q (l:=l) (fun k h1 hk=>(h.2.2.1 k hk).2 h1) (fun i hi k hk a b=>h.2.2.2 h3 i hi k hk a b)
 have f:∀ i k,i<l.length->k<l.length->i≠k->nth l i≠nth l k:=by
  intro i k hi hk hne e;rcases Nat.lt_or_gt_of_ne hne with c | c
  ·exact d _ i k rfl c hk e
  ·exact d _ k i rfl c hi e.symm
 refine⟨h3,fun i hi k hk e1 e2=>h.2.2.2 h3 i hi k hk (f _ _ hk hi e1) (f _ _ hk (nx_lt h3) e2)⟩
theorem Z2A {l:List Pt} (h:GoValid l) {k:Nat} (hk:k<l.length):InH l (nth l k).x (nth l k).y 1:=Z01 h (Z2a h hk)
theorem Z2z {l : List Pt} {X Y W X1 Y1 W1 X2 Y2 W2 K s t : Int} (hK : 0 < K) (hs : 0 <= s) (ht : 0 <= t) (e1 : K * X = s * X1 + t * X2) (e2 : K * Y = s * Y1 + t * Y2) (e3 : K * W = s * W1 + t * W2)
  (h1:InH l X1 Y1 W1) (h2:InH l X2 Y2 W2):InH l X Y W:=by
 unfold InH at *;by_cases h3:l.length<3
 ·rw [if_pos h3] at *
  obtain⟨k,p,q,f,v,y,u,x,n⟩:=h1;obtain⟨c,o,m,d,e,g,w,j,r⟩:=h2;have A:=Int.mul_nonneg (Int.mul_nonneg hs (Int.le_of_lt d)) v;have B:=Int.mul_nonneg (Int.mul_nonneg ht (Int.le_of_lt f)) e;have z:=Int.mul_nonneg (Int.mul_nonneg hs (Int.le_of_lt d)) y;have C:=Int.mul_nonneg (Int.mul_nonneg ht (Int.le_of_lt f)) g;refine⟨k*c*K,s*c*p+t*k*o,s*c*q+t*k*m,Int.mul_pos (Int.mul_pos f d) hK,by omega,by omega,?_,?_,?_⟩
  ·have:k*c*K*X=s*c*(k*X1)+t*k*(c*X2):=by
    have:k*c*K*X=k*c*(K*X):=by grind
    rw [this,e1];grind
   rw [this,u,w];grind
  ·have:k*c*K*Y=s*c*(k*Y1)+t*k*(c*Y2):=by
    have:k*c*K*Y=k*c*(K*Y):=by grind
    rw [this,e2];grind
   rw [this,x,j];grind
  ·have:k*c*K*W=s*c*(k*W1)+t*k*(c*W2):=by
    have:k*c*K*W=k*c*(K*W):=by grind
    rw [this,e3];grind
   rw [this,n,r];grind
 ·rw [if_neg h3] at *
  intro i hi;have a:=Int.mul_nonneg hs (h1 i hi);have b:=Int.mul_nonneg ht (h2 i hi);refine Z0B hK ?_;rw [<- Z1b,e1,e2,e3,Z1s];omega
theorem Zd1 {l:List Pt} {a b:Pt} (ha:InH l a.x a.y 1) (hb:InH l b.x b.y 1) {X Y W:Int} (hs:SegH a b X Y W):InH l X Y W:=by
 obtain⟨K,s,t,e,f,d,g,c,j⟩:=hs;exact Z2z e f d g c (by omega) ha hb
def CrossS (S T:Pt × Pt):Prop:=(crossB (Z5 S.1 S.2 T.1) (Z5 S.1 S.2 T.2) && crossB (Z5 T.1 T.2 S.1) (Z5 T.1 T.2 S.2))=true
theorem CrossS.symm {S T:Pt × Pt} (h:CrossS S T):CrossS T S:=by unfold CrossS at *;rwa [Bool.and_comm]
theorem Z9u {P:Nat->Pt} {n:Nat} (h:Conv P n) {u v:Pt} {X Y W:Int} (hW:0<W) (hin:∀ j,j<n->0<=hs P n j X Y W) (hsg:SegH u v X Y W) :
  (∀ j,j<n->0<=hs P n j u.x u.y 1)\/(∀ j,j<n->0<=hs P n j v.x v.y 1)\/(∃ k,k<n/\SegH u v (P k).x (P k).y 1)\/∃ i,i<n/\CrossS (P i,P ((i+1) % n)) (u,v):=by
 by_cases hu:∀ j,j<n->0<=hs P n j u.x u.y 1
 ·exact .inl hu
 by_cases hv:∀ j,j<n->0<=hs P n j v.x v.y 1
 ·exact .inr (.inl hv)
 right;right
 have M:∃ j,j<n/\hs P n j u.x u.y 1<0:=by
  apply Classical.byContradiction
  intro hc;exact hu fun j hj=>by
   rcases Int.lt_or_le (hs P n j u.x u.y 1) 0 with a | a
   ·exact absurd ⟨j,hj,a⟩ hc
   ·exact a
 obtain⟨i,F,T,d⟩:=Z73 (fun j=>hs P n j X Y W) (fun j=>hs P n j u.x u.y 1) n hin M
 obtain⟨B,hB⟩:∃ B,-(hs P n i u.x u.y 1)=B:=⟨_,rfl⟩;obtain⟨A,V⟩:∃ A,hs P n i X Y W=A:=⟨_,rfl⟩;simp only [hB,V] at d;have f:0<B:=by omega
 have H:0<=A:=by have:=hin i F;omega
 have R:∀ j,j<n->0<=hs P n j (B*X+A*u.x) (B*Y+A*u.y) (B*W+A*1):=fun j hj=>by
  have:=d j hj;unfold hs at *;rw [Z1s];exact this
 have D:hs P n i (B*X+A*u.x) (B*Y+A*u.y) (B*W+A*1)=0:=by
  unfold hs at *;rw [Z1s,V];have:hturn (P i) (P ((i+1) % n)) u.x u.y 1=-B:=by omega
  rw [this];grind
 have o:0<B*W+A*1:=by have:=Int.mul_pos f hW;omega
 have g:=h.on_side R F D;obtain⟨K,s,t,E,Q,N,e1,e2,e3⟩:=hsg;have m:K*(B*X+A*u.x)=(B*s+K*A)*u.x+(B*t)*v.x:=by
  have:K*(B*X+A*u.x)=B*(K*X)+K*A*u.x:=by grind
  rw [this,e1];grind
 have z:K*(B*Y+A*u.y)=(B*s+K*A)*u.y+(B*t)*v.y:=by
  have:K*(B*Y+A*u.y)=B*(K*Y)+K*A*u.y:=by grind
  rw [this,e2];grind
 have w:K*(B*W+A*1)=(B*s+K*A)+(B*t):=by
  have:K*(B*W+A*1)=B*(K*W)+K*A:=by grind
  rw [this,e3];grind
 have U:0<=B*s+K*A:=by have:=Int.mul_nonneg (Int.le_of_lt f) Q;have:=Int.mul_nonneg (Int.le_of_lt E) H;omega
 have L:0<=B*t:=Int.mul_nonneg (Int.le_of_lt f) N;generalize B*s+K*A=p at *;generalize B*t=q at *;generalize B*X+A*u.x=X1 at *;generalize B*Y+A*u.y=Y1 at *;generalize B*W+A*1=W1 at *;have tq:=SegH.turn m z w (P i) (P ((i+1) % n));have C:hturn (P i) (P ((i+1) % n)) X1 Y1 W1=0:=D;have Z:Z5 (P i) (P ((i+1) % n)) u<0:=by have:hs P n i u.x u.y 1=_:=Z13 _ _ u;omega
 rw [C,Int.mul_zero] at tq;have sv:SegH u v X1 Y1 W1:=⟨K,p,q,E,U,L,m,z,w⟩;have pp:0<p:=by
  rcases Int.lt_or_le 0 p with a | a
  ·exact a
  ·exfalso
   have pz:p=0:=by omega
   rw [pz] at m z w;refine hv fun j hj=>?_
   have qq:0<q:=by have:=Int.mul_pos E o;omega
   refine Z0B qq ?_;have:=Int.mul_nonneg (Int.le_of_lt E) (R j hj);unfold hs at *;rw [<- Z1b] at this ⊢;rw [show q*v.x=K*X1 by omega,show q*v.y=K*Y1 by omega,show q*1=K*W1 by omega]
   exact this
 have tv:0<q*Z5 (P i) (P ((i+1) % n)) v:=by have:=Int.mul_neg_of_pos_of_neg pp Z;omega
 have J:0<Z5 (P i) (P ((i+1) % n)) v:=by
  rcases Int.lt_or_le 0 (Z5 (P i) (P ((i+1) % n)) v) with a | a
  ·exact a
  ·have:=Int.mul_nonneg L (show 0<=-Z5 (P i) (P ((i+1) % n)) v by omega)
   rw [Int.mul_neg] at this;omega
 obtain⟨b,G,I,l,s0',t0',f1,f2,f3⟩:=g;have e:∀ c:Pt,∀ r:Int,0<r->r*c.x=b*X1->r*c.y=b*Y1->r=b*W1->SegH u v c.x c.y 1:=fun c r hr z1 z2 z3=>by
  have n1:=Int.mul_nonneg (Int.le_of_lt l) U;have n2:=Int.mul_nonneg (Int.le_of_lt l) L;refine⟨K*r,b*p,b*q,Int.mul_pos E hr,n1,n2,?_,?_,?_⟩
  ·rw [Int.mul_assoc,z1,show K*(b*X1)=b*(K*X1) by grind,m];grind
  ·rw [Int.mul_assoc,z2,show K*(b*Y1)=b*(K*Y1) by grind,z];grind
  ·rw [Int.mul_assoc,Int.mul_one,z3,show K*(b*W1)=b*(K*W1) by grind,w];grind
 have kw:0<b*W1:=Int.mul_pos l o;by_cases hs':G=0
 ·subst hs'
  exact .inl ⟨(i+1) % n,nx_lt h.n3,e _ I (by omega) (by omega) (by omega) (by omega)⟩
 by_cases ht':I=0
 ·subst ht'
  exact .inl ⟨i,F,e _ G (by omega) (by omega) (by omega) (by omega)⟩
 right
 refine⟨i,F,?_⟩;have tt:=SegH.turn f1 f2 f3 u v;have tz:hturn u v X1 Y1 W1=0:=by
  have:=SegH.turn m z w u v;rw [Z2e,Z2d,Int.mul_zero,Int.mul_zero,Int.add_zero] at this;rcases Int.mul_eq_zero.1 this with a | a
  ·omega
  ·exact a
 rw [tz,Int.mul_zero] at tt;have df:Z5 u v (P ((i+1) % n))-Z5 u v (P i)=Z5 (P i) (P ((i+1) % n)) u-Z5 (P i) (P ((i+1) % n)) v:=by unfold Z5 turnV;grind
 unfold CrossS crossB;simp only [Bool.and_eq_true,decide_eq_true_eq];refine⟨.inl ⟨Z,J⟩,?_⟩;generalize Z5 u v (P ((i+1) % n))=β at *;generalize Z5 u v (P i)=α at *;have hlt:β<α:=by omega
 have s1:0<G:=by omega
 have S:0<I:=by omega
 right
 constructor
 ·rcases Int.lt_or_le 0 α with a | a
  ·exact a
  ·have m1:=Int.mul_nonneg (Int.le_of_lt s1) (show 0<=-α by omega)
   have m2:=Int.mul_neg_of_pos_of_neg S (show β<0 by omega)
   rw [Int.mul_neg] at m1;omega
 ·rcases Int.lt_or_le β 0 with a | a
  ·exact a
  ·have m1:=Int.mul_nonneg (Int.le_of_lt S) a
   have m2:=Int.mul_pos s1 (show 0<α by omega)
   omega
theorem Z9t {a b u v : Pt} (h1 : Ord a b) (h2 : Ord u v) {X Y W : Int} (hW : 0 < W) (hs1 : SegH a b X Y W) (hs2 : SegH u v X Y W) :
  SegH u v a.x a.y 1\/SegH u v b.x b.y 1\/SegH a b u.x u.y 1\/SegH a b v.x v.y 1\/CrossS (a,b) (u,v):=by
 have E:=hs1;have P:=hs2;obtain⟨K,s,t,J,s0,t0,I,H,n⟩:=hs1;obtain⟨L,p,q,A,p0,q0,D,F,o⟩:=hs2;have kw:0<K*W:=Int.mul_pos J hW;have lw:0<L*W:=Int.mul_pos A hW;have j:∀ (c d e:Pt) (r M:Int),0<M->0<r->r*c.x=M*X->r*c.y=M*Y->r=M*W->SegH d e X Y W->SegH d e c.x c.y 1:=fun c d e r M hM hr R V z3 hse=>by
  obtain⟨N,x,y,hN,x0,y0,a1,a2,a3⟩:=hse;refine⟨N*r,M*x,M*y,Int.mul_pos hN hr,Int.mul_nonneg (by omega) x0,Int.mul_nonneg (by omega) y0,?_,?_,?_⟩
  ·rw [Int.mul_assoc,R,show N*(M*X)=M*(N*X) by grind,a1];grind
  ·rw [Int.mul_assoc,V,show N*(M*Y)=M*(N*Y) by grind,a2];grind
  ·rw [Int.mul_assoc,Int.mul_one,z3,show N*(M*W)=M*(N*W) by grind,a3];grind
 by_cases zs:s=0
 ·subst zs;exact .inr (.inl (j b u v t K J (by omega) (by omega) (by omega) (by omega) P))
 by_cases zt:t=0
 ·subst zt;exact .inl (j a u v s K J (by omega) (by omega) (by omega) (by omega) P)
 by_cases zp:p=0
 ·subst zp;exact .inr (.inr (.inr (.inl (j v a b q L A (by omega) (by omega) (by omega) (by omega) E))))
 by_cases zq:q=0
 ·subst zq;exact .inr (.inr (.inl (j u a b p L A (by omega) (by omega) (by omega) (by omega) E)))
 have T:0<s:=by omega
 have tp:0<t:=by omega
 have Q:0<p:=by omega
 have S:0<q:=by omega
 have R:hturn u v X Y W=0:=by
  have:=SegH.turn D F o u v;rw [Z2e,Z2d,Int.mul_zero,Int.mul_zero,Int.add_zero] at this;rcases Int.mul_eq_zero.1 this with f | f <;> omega
 have V:hturn a b X Y W=0:=by
  have:=SegH.turn I H n a b;rw [Z2e,Z2d,Int.mul_zero,Int.mul_zero,Int.add_zero] at this;rcases Int.mul_eq_zero.1 this with f | f <;> omega
 have G:=SegH.turn I H n u v;have w:=SegH.turn D F o a b;rw [R,Int.mul_zero] at G;rw [V,Int.mul_zero] at w;have df:Z5 u v b-Z5 u v a=Z5 a b u-Z5 a b v:=by unfold Z5 turnV;grind
 by_cases ha:Z5 u v a=0
 ·
  have hb:Z5 u v b=0:=by
   rw [ha,Int.mul_zero,Int.zero_add] at G;rcases Int.mul_eq_zero.1 G.symm with f | f
   ·omega
   ·exact f
  have huv:Z5 a b u=Z5 a b v:=by omega
  have B:Z5 a b u=0:=by
   rw [<- huv,<- Int.add_mul] at w;rcases Int.mul_eq_zero.1 w.symm with f | f <;> omega
  have hv:Z5 a b v=0:=by omega
  have lo:∀ c d r:Int,c<d->0<=r->0<r->r*c<r*d:=fun c d r h _ hr=>Int.mul_lt_mul_of_pos_left h hr
  rcases h1 with rfl | h1 | ⟨h1,C⟩
  ·exact .inl (j a u v (s+t) K J (by omega) (by grind) (by grind) (by omega) P)
  ·rcases h2 with rfl | h2 | ⟨h2,m⟩
   ·exact .inr (.inr (.inl (j u a b (p+q) L A (by omega) (by grind) (by grind) (by omega) E)))
   ·
    have c1:u.x<b.x:=by
     rcases Int.lt_or_le u.x b.x with f | f
     ·exact f
     ·exfalso
      have m1:=Int.mul_lt_mul_of_pos_left h1 T;have m2:=Int.mul_lt_mul_of_pos_left h2 S;have l:K*X<K*(W*b.x):=by rw [I,<- Int.mul_assoc,n];grind
      have k:L*(W*u.x)<L*X:=by rw [D,<- Int.mul_assoc,o];grind
      have Z:=Int.lt_of_mul_lt_mul_left l (by omega)
      have U:=Int.lt_of_mul_lt_mul_left k (by omega)
      have:=Int.mul_le_mul_of_nonneg_left f (Int.le_of_lt hW);omega
    have c2:a.x<v.x:=by
     rcases Int.lt_or_le a.x v.x with f | f
     ·exact f
     ·exfalso
      have m1:=Int.mul_lt_mul_of_pos_left h1 tp;have m2:=Int.mul_lt_mul_of_pos_left h2 Q;have l:K*(W*a.x)<K*X:=by rw [I,<- Int.mul_assoc,n];grind
      have k:L*X<L*(W*v.x):=by rw [D,<- Int.mul_assoc,o];grind
      have Z:=Int.lt_of_mul_lt_mul_left l (by omega)
      have U:=Int.lt_of_mul_lt_mul_left k (by omega)
      have:=Int.mul_le_mul_of_nonneg_left f (Int.le_of_lt hW);omega
    rcases Int.le_total a.x u.x with f | f
    ·refine .inr (.inr (.inl ⟨b.x-a.x,b.x-u.x,u.x-a.x,by omega,by omega,by omega,by grind,?_,by omega⟩))
     unfold Z5 turnV at B;grind
    ·refine .inl ⟨v.x-u.x,v.x-a.x,a.x-u.x,by omega,by omega,by omega,by grind,?_,by omega⟩
     unfold Z5 turnV at ha;grind
   ·
    exfalso
    have:(b.x-a.x)*(v.y-u.y)=0:=by unfold Z5 turnV at ha hb;grind
    rcases Int.mul_eq_zero.1 this with f | f <;> omega
  ·rcases h2 with rfl | h2 | ⟨h2,m⟩
   ·exact .inr (.inr (.inl (j u a b (p+q) L A (by omega) (by grind) (by grind) (by omega) E)))
   ·exfalso
    have:(v.x-u.x)*(b.y-a.y)=0:=by unfold Z5 turnV at B hv;grind
    rcases Int.mul_eq_zero.1 this with f | f <;> omega
   ·have ex:u.x=a.x:=by
     have:(b.y-a.y)*(u.x-a.x)=0:=by unfold Z5 turnV at B;grind
     rcases Int.mul_eq_zero.1 this with f | f <;> omega
    have c1:u.y<b.y:=by
     rcases Int.lt_or_le u.y b.y with f | f
     ·exact f
     ·exfalso
      have m1:=Int.mul_lt_mul_of_pos_left C T;have m2:=Int.mul_lt_mul_of_pos_left m S;have l:K*Y<K*(W*b.y):=by rw [H,<- Int.mul_assoc,n];grind
      have k:L*(W*u.y)<L*Y:=by rw [F,<- Int.mul_assoc,o];grind
      have Z:=Int.lt_of_mul_lt_mul_left l (by omega)
      have U:=Int.lt_of_mul_lt_mul_left k (by omega)
      have:=Int.mul_le_mul_of_nonneg_left f (Int.le_of_lt hW);omega
    have c2:a.y<v.y:=by
     rcases Int.lt_or_le a.y v.y with f | f
     ·exact f
     ·exfalso
      have m1:=Int.mul_lt_mul_of_pos_left C tp;have m2:=Int.mul_lt_mul_of_pos_left m Q;have l:K*(W*a.y)<K*Y:=by rw [H,<- Int.mul_assoc,n];grind
      have k:L*Y<L*(W*v.y):=by rw [F,<- Int.mul_assoc,o];grind
      have Z:=Int.lt_of_mul_lt_mul_left l (by omega)
      have U:=Int.lt_of_mul_lt_mul_left k (by omega)
      have:=Int.mul_le_mul_of_nonneg_left f (Int.le_of_lt hW);omega
    rcases Int.le_total a.y u.y with f | f
    ·exact .inr (.inr (.inl ⟨b.y-a.y,b.y-u.y,u.y-a.y,by omega,by omega,by omega,by grind,by grind,by omega⟩))
    ·exact .inl ⟨v.y-u.y,v.y-a.y,a.y-u.y,by omega,by omega,by omega,by grind,by grind,by omega⟩
 ·
  refine .inr (.inr (.inr (.inr ?_)));have z:∀ x y α β:Int,0<x->0<y->0=x*α+y*β->α≠0->(α<0/\0<β\/0<α/\β<0):=fun x y α β hx hy e hα=>by
   rcases Int.lt_or_lt_of_ne hα with f | f
   ·have:=Int.mul_neg_of_pos_of_neg hx f
    refine .inl ⟨f,?_⟩;rcases Int.lt_or_le 0 β with g | g
    ·exact g
    ·have:=Int.mul_nonneg (Int.le_of_lt hy) (show 0<=-β by omega)
     rw [Int.mul_neg] at this;omega
   ·have:=Int.mul_pos hx f
    refine .inr ⟨f,?_⟩;rcases Int.lt_or_le β 0 with g | g
    ·exact g
    ·have:=Int.mul_nonneg (Int.le_of_lt hy) g;omega
  have o1:=z s t _ _ T tp G ha;have B:Z5 a b u≠0:=fun f=>by
   rw [f,Int.mul_zero,Int.zero_add] at w;rcases Int.mul_eq_zero.1 w.symm with g | g <;> omega
  have o2:=z p q _ _ Q S w B;unfold CrossS crossB;simp only [Bool.and_eq_true,decide_eq_true_eq];exact⟨o2,o1⟩
def Touch (l m:List Pt):Prop:=(∃ k,k<l.length/\inside m (nth l k)=true)\/(∃ k,k<m.length/\inside l (nth m k)=true)\/∃ i j,i<l.length/\j<m.length/\CrossS (sideP l i) (sideP m j)
theorem Touch.symm {l m:List Pt} (h:Touch l m):Touch m l:=by
 rcases h with h | h | ⟨i,j,b,a,h⟩
 ·exact .inr (.inl h)
 ·exact .inl h
 ·exact .inr (.inr ⟨j,i,a,b,h.symm⟩)
theorem Z3m {m:List Pt} (h1:1<=m.length) (h3:m.length<3):sideP m 0=(nth m 0,nth m (m.length-1)):=by
 unfold sideP;rcases (show m.length=1\/m.length=2 by omega) with e | e <;> rw [e]
theorem Z5x {l m:List Pt} (hl:GoValid l) (hm:GoValid m) (h3:3<=l.length) {j:Nat} (hj:j<m.length) {X Y W:Int} (hW:0<W) (h1:InH l X Y W) (h2:SegH (sideP m j).1 (sideP m j).2 X Y W):Touch l m:=by
 have g:=hl.conv h3
 have d:¬ l.length<3:=by omega
 have c:(j+1) % m.length<m.length:=Nat.mod_lt _ (by omega)
 have b:∀ x:Pt,(∀ i,i<l.length->0<=hs (nth l) l.length i x.x x.y 1)->inside l x=true:=fun x h=>ZM hl.1 (by unfold InH;rw [if_neg d];exact h)
 have a:∀ i,i<l.length->0<=hs (nth l) l.length i X Y W:=by unfold InH at h1;rwa [if_neg d] at h1
 rcases Z9u g hW a h2 with h | h | ⟨k,e,h⟩ | ⟨i,f,h⟩
 ·exact .inr (.inl ⟨j,hj,b _ h⟩)
 ·exact .inr (.inl ⟨(j+1) % m.length,c,b _ h⟩)
 ·exact .inl ⟨k,e,ZM hm.1 (Zd1 (Z2A hm hj) (Z2A hm c) h)⟩
 ·exact .inr (.inr ⟨i,j,f,hj,h⟩)
theorem Z5y {l m:List Pt} (hl:GoValid l) (hm:GoValid m) (h3:3<=l.length) {X Y W:Int} (hW:0<W) (h1:InH l X Y W) (h2:InH m X Y W):Touch l m:=by
 by_cases m3:m.length<3
 ·have a:=h2
  unfold InH at a;rw [if_pos m3] at a;refine Z5x hl hm h3 (j:=0) hm.1 hW h1 ?_;rw [Z3m hm.1 m3];exact a
 ·by_cases hin:inside m (nth l 0)=true
  ·exact .inl ⟨0,hl.1,hin⟩
  have f:=hm.conv (by omega)
  have a:∀ i,i<m.length->0<=hs (nth m) m.length i X Y W:=by unfold InH at h2;rwa [if_neg m3] at h2
  have d:∃ j,j<m.length/\hs (nth m) m.length j (nth l 0).x (nth l 0).y 1<0:=by
   apply Classical.byContradiction
   intro hc;refine hin (ZM hm.1 ?_);unfold InH;rw [if_neg m3];intro j e;rcases Int.lt_or_le (hturn (sideP m j).1 (sideP m j).2 (nth l 0).x (nth l 0).y 1) 0 with n | n
   ·exact absurd ⟨j,e,n⟩ hc
   ·exact n
  obtain⟨j,e,q,b⟩:=Z73 (fun j=>hs (nth m) m.length j X Y W) (fun j=>hs (nth m) m.length j (nth l 0).x (nth l 0).y 1) m.length a d
  obtain⟨B,u⟩:∃ B,-(hs (nth m) m.length j (nth l 0).x (nth l 0).y 1)=B:=⟨_,rfl⟩;obtain⟨A,r⟩:∃ A,hs (nth m) m.length j X Y W=A:=⟨_,rfl⟩;simp only [u,r] at b;have g:0<B:=by omega
  have p:0<=A:=by have:=a j e;omega
  have v:∀ i,i<m.length->0<=hs (nth m) m.length i (B*X+A*(nth l 0).x) (B*Y+A*(nth l 0).y) (B*W+A*1):=fun i hi=>by
   have:=b i hi;unfold hs at *;rw [Z1s];exact this
  have o:hs (nth m) m.length j (B*X+A*(nth l 0).x) (B*Y+A*(nth l 0).y) (B*W+A*1)=0:=by
   unfold hs at *;rw [Z1s,r];have:hturn (nth m j) (nth m ((j+1) % m.length)) (nth l 0).x (nth l 0).y 1=-B:=by omega
   rw [this];grind
  have k:0<B*W+A*1:=by have:=Int.mul_pos g hW;omega
  have c:=f.on_side v e o;refine Z5x hl hm h3 e k ?_ c;exact Z2z (K:=1) (s:=B) (t:=A) (by omega) (by omega) p (by omega) (by omega) (by omega) h1 (Z2A hl hl.1)
theorem Z6x {l m:List Pt} (hl:GoValid l) (hm:GoValid m) {X Y W:Int} (hW:0<W) (h1:InH l X Y W) (h2:InH m X Y W):Touch l m:=by
 by_cases h3:3<=l.length
 ·exact Z5y hl hm h3 hW h1 h2
 by_cases m3:3<=m.length
 ·exact (Z5y hm hl m3 hW h2 h1).symm
 have c:l.length<3:=by omega
 have a:m.length<3:=by omega
 have e:=h1;have d:=h2;unfold InH at e d;rw [if_pos c] at e;rw [if_pos a] at d;have b:∀ {x:Pt},SegH (nth m 0) (nth m (m.length-1)) x.x x.y 1->inside m x=true:=fun h=>ZM hm.1 (by unfold InH;rwa [if_pos a])
 have inl:∀ {x:Pt},SegH (nth l 0) (nth l (l.length-1)) x.x x.y 1->inside l x=true:=fun h=>ZM hl.1 (by unfold InH;rwa [if_pos c])
 have f:=hl.1;have g:=hm.1;rcases Z9t (hl.ord c) (hm.ord a) hW e d with h | h | h | h | h
 ·exact .inl ⟨0,by omega,b h⟩
 ·exact .inl ⟨l.length-1,by omega,b h⟩
 ·exact .inr (.inl ⟨0,by omega,inl h⟩)
 ·exact .inr (.inl ⟨m.length-1,by omega,inl h⟩)
 ·exact .inr (.inr ⟨0,0,by omega,by omega,by rw [Z3m f c,Z3m g a];exact h⟩)
def wideN (n:Nat):Nat:=if isqrt (2*n*n)*isqrt (2*n*n)=2*n*n then isqrt (2*n*n) else isqrt (2*n*n)+1
theorem Z1C (n:Nat):2*n*n<=wideN n*wideN n/\∀ m,m<wideN n->m*m<2*n*n:=by
 have h:=Z07 (2*n*n);unfold wideN;generalize isqrt (2*n*n)=r at *;generalize 2*n*n=q at *
 split
 ·refine⟨by omega,fun m hm=>?_⟩
  have:=Nat.mul_lt_mul'' hm hm;omega
 ·refine⟨by omega,fun m hm=>?_⟩
  have:=Nat.mul_le_mul (show m<=r by omega) (show m<=r by omega)
  omega
theorem Zb9 {n m:Nat} (h:2*n*n<=m*m):wideN n<=m:=by
 rcases Nat.lt_or_ge m (wideN n) with a | a
 ·have:=(Z1C n).2 m a;omega
 ·exact a
theorem Z7i (n:Nat):n<=wideN n:=by
 rcases Nat.lt_or_ge (wideN n) n with a | a
 ·have:=(Z1C n).1
  have b:=Nat.mul_lt_mul'' a a;rw [Nat.mul_assoc] at this;omega
 ·exact a
theorem Z5v (n:Nat):wideN n<=2*n:=Zb9 (by
 have:2*n*(2*n)=2*(2*n*n):=by grind
 omega)
def octK (n:Nat):Int:=(wideN n:Int)-n
theorem Z55 (n:Nat):0<=octK n/\octK n<=n:=by
 have:=Z7i n;have:=Z5v n;unfold octK;omega
theorem oct_in {P : Int -> Int -> Int -> Prop} (mix : ∀ {X1 Y1 W1 X2 Y2 W2 K s t X Y W : Int}, 0 < K -> 0 <= s -> 0 <= t -> K * X = s * X1 + t * X2 -> K * Y = s * Y1 + t * Y2 -> K * W = s * W1 + t * W2 -> P X1 Y1 W1 -> P X2 Y2 W2 -> P X Y W)
  {n k:Int} (h0:0<=k) (hn:k<=n) (p1:P n (-k) 1) (p2:P n k 1) (p3:P k n 1) (p4:P (-k) n 1) (p5:P (-n) k 1) (p6:P (-n) (-k) 1) (p7:P (-k) (-n) 1) (p8:P k (-n) 1)
  {x y:Int} (x1:-n<=x) (x2:x<=n) (y1:-n<=y) (y2:y<=n) (q1:x+y<=n+k) (q2:x-y<=n+k) (q3:-x+y<=n+k) (q4:-x-y<=n+k):P x y 1:=by
 have a:∃ e,0<=e/\-e<=x/\x<=e/\P e y 1/\P (-e) y 1:=by
  by_cases c:-k<=y/\y<=k
  ·refine⟨n,by omega,x1,x2,?_,?_⟩
   ·by_cases z:k=0
    ·subst z;rw [show y=0 by omega];exact p2
    ·exact mix (K:=2*k) (s:=y+k) (t:=k-y) (by omega) (by omega) (by omega) (by grind) (by grind) (by grind) p2 p1
   ·by_cases z:k=0
    ·subst z;rw [show y=0 by omega];exact p5
    ·exact mix (K:=2*k) (s:=y+k) (t:=k-y) (by omega) (by omega) (by omega) (by grind) (by grind) (by grind) p5 p6
  ·by_cases c2:k<y
   ·refine⟨n+k-y,by omega,by omega,by omega,?_,?_⟩
    ·exact mix (K:=n-k) (s:=n-y) (t:=y-k) (by omega) (by omega) (by omega) (by grind) (by grind) (by grind) p2 p3
    ·exact mix (K:=n-k) (s:=n-y) (t:=y-k) (by omega) (by omega) (by omega) (by grind) (by grind) (by grind) p5 p4
   ·refine⟨n+k+y,by omega,by omega,by omega,?_,?_⟩
    ·exact mix (K:=n-k) (s:=n+y) (t:=-y-k) (by omega) (by omega) (by omega) (by grind) (by grind) (by grind) p1 p8
    ·exact mix (K:=n-k) (s:=n+y) (t:=-y-k) (by omega) (by omega) (by omega) (by grind) (by grind) (by grind) p6 p7
 obtain⟨e,g,j,f,b,d⟩:=a;by_cases z:e=0
 ·subst z;rw [show x=0 by omega];exact b
 ·exact mix (K:=2*e) (s:=x+e) (t:=e-x) (by omega) (by omega) (by omega) (by grind) (by grind) (by grind) b d
theorem Z8R {n:Nat} {x y:Int} (h:x*x+y*y<=(n:Int)*n):(-(n:Int)<=x/\x<=n/\-(n:Int)<=y/\y<=n)/\(x+y<=n+octK n/\x-y<=n+octK n/\-x+y<=n+octK n/\-x-y<=n+octK n):=by
 have z:=sq_nn (x);have o:=sq_nn (y);have c:∀ a b:Int,0<=b->a*a<=b*b->a<=b:=fun a b hb hab=>by
  rcases Int.lt_or_le b a with d | d
  ·have e:=Int.mul_le_mul (show b+1<=a by omega) (show b+1<=a by omega) (by omega) (by omega)
   have f:(b+1)*(b+1)=b*b+2*b+1:=by grind
   omega
  ·exact d
 have w:=(Z1C n).1;have m:2*((n:Int)*n)<=(wideN n:Int)*wideN n:=by
  have:((2*n*n:Nat):Int)<=((wideN n*wideN n:Nat):Int):=by exact_mod_cast w
  push_cast at this
  rw [Int.mul_assoc] at this;exact this
 have g:(n:Int)+octK n=wideN n:=by unfold octK;omega
 rw [g];have p:(x+y)*(x+y)+(x-y)*(x-y)=2*(x*x+y*y):=by grind
 have v:=sq_nn (x+y);have A:=sq_nn (x-y);have s:-x*-x=x*x:=Int.neg_mul_neg x x;have f:-y*-y=y*y:=Int.neg_mul_neg y y;have u:(-x-y)*(-x-y)=(x+y)*(x+y):=by grind
 have D:(-x+y)*(-x+y)=(x-y)*(x-y):=by grind
 have r:=c x n (by omega) (by omega)
 have C:=c (-x) n (by omega) (by omega)
 have l:=c y n (by omega) (by omega)
 have B:=c (-y) n (by omega) (by omega)
 have t:=c (x+y) (wideN n) (by omega) (by omega)
 have j:=c (x-y) (wideN n) (by omega) (by omega)
 have q:=c (-x+y) (wideN n) (by omega) (by omega)
 have k:=c (-x-y) (wideN n) (by omega) (by omega)
 omega
theorem Z5g {l h : List Pt} (k : HullOf l h) {x : Pt} (hx : x ∈ l) : InH h x.x x.y 1 := by
 have f:l≠[]:=List.ne_nil_of_mem hx;have p:=k.some f;unfold InH;by_cases h3:h.length<3
 ·rw [if_pos h3]
  rcases (show h.length=1\/h.length=2 by omega) with e | e
  ·have d:=k.next 0 (by omega)
   rw [e] at d ⊢;have:=d.2.1 rfl x hx;simp only [Nat.sub_self];rw [this];exact⟨1,1,0,by omega,by omega,by omega,by omega,by omega,by omega⟩
  ·have d:=k.next 0 (by omega)
   have g:=k.next 1 (by omega)
   rw [e] at d g ⊢;have a:=d.2.2 x hx;have b:=(g.2.2 x hx).1
   change 0<=Z5 (nth h 0) (nth h 1) x/\(Z5 (nth h 0) (nth h 1) x=0->Btw (nth h 0) (nth h 1) x) at a
   change 0<=Z5 (nth h 1) (nth h 0) x at b
   have o:Z5 (nth h 1) (nth h 0) x=-Z5 (nth h 0) (nth h 1) x:=Zbf _ _ _;have z:Z5 (nth h 0) (nth h 1) x=0:=by omega
   have n:=a.2 z;have j:LexLt (nth h 0) (nth h 1):=by
    have m:nth h 1 ∈ l:=d.1;have:=(k.first f).2 _ m
    rcases LexLt.tri (nth h 0) (nth h 1) with c | c | c
    ·exact c
    ·exact absurd c.symm (k.back 1 (by omega) (by omega))
    ·exact absurd c this
   show SegH (nth h 0) (nth h 1) x.x x.y 1
   unfold Btw at n;unfold LexLt at j;exact Z4n (.inr j) z (by split <;> omega) (by split <;> omega) (by split <;> omega) (by split <;> omega)
 ·rw [if_neg h3]
  intro i hi;rw [Z13];exact ((k.next i hi).2.2 x hx).1
theorem Z2b {l h:List Pt} (k:HullOf l h) {i:Nat} (hi:i<h.length):nth h i ∈ l:=by
 by_cases h0:i=0
 ·subst h0
  by_cases hl:l=[]
  ·rw [k.none hl] at hi;simp at hi
  ·exact (k.first hl).1
 ·have:=k.next (i-1) (by omega)
  rw [show i-1+1=i by omega,Nat.mod_eq_of_lt hi] at this
  exact this.1
theorem ZaQ {a b:Pt}:cmpP a b<0↔LexLt a b:=by
 unfold cmpP LexLt cmpV orI cmpI
 repeat' split
 all_goals omega
theorem Z4z {l h : List Pt} (k : HullOf l h) (hl : l ≠ []) (h64 : h.length <= 64) (hp : ∀ x, x ∈ l -> Z3 x = true) : GoValid h := by
 have g:∀ i,0<i->i<h.length->LexLt (nth h 0) (nth h i):=fun i h0 hi=>by
  have:=(k.first hl).2 _ (Z2b k hi)
  rcases LexLt.tri (nth h 0) (nth h i) with c | c | c
  ·exact c
  ·exact absurd c.symm (k.back i h0 hi)
  ·exact absurd c this
 refine⟨k.some hl,h64,fun i hi=>⟨hp _ (Z2b k hi),fun h0=>ZaQ.2 (g i h0 hi)⟩,fun h3 i hi j hj n1 n2=>?_⟩
 have a:=(k.next i hi).2.2 _ (Z2b k hj);unfold sideP at n1 n2 ⊢;simp only at n1 n2 ⊢;rcases Int.lt_or_le 0 (Z5 (nth h i) (nth h ((i+1) % h.length)) (nth h j)) with c | c
 ·exact c
 ·exfalso
  have z:Z5 (nth h i) (nth h ((i+1) % h.length)) (nth h j)=0:=by omega
  have T:=a.2 z;have u:=Z2b k hi;have f:=Z2b k (Nat.mod_lt (i+1) (by omega):(i+1) % h.length<h.length)
  have r:=k.next j hj;have E:=r.2.2 _ u;have o:=r.2.2 _ f;have X:nth h j≠nth h ((j+1) % h.length):=fun e=>by
   have B:=r.2.1 e.symm;exact n1 (B _ u).symm
  generalize nth h i=p at *;generalize nth h ((i+1) % h.length)=q at *;generalize nth h j=x at *;generalize nth h ((j+1) % h.length)=t at *;clear r u f a c k g;have s:∃ m n:Int,0<m/\0<n/\m*(p.x-x.x)+n*(q.x-x.x)=0/\m*(p.y-x.y)+n*(q.y-x.y)=0:=by
   unfold Btw at T;have V:¬ (x.x=p.x/\x.y=p.y):=fun e=>n1 (Pt.ext' e.1 e.2)
   have L:¬ (x.x=q.x/\x.y=q.y):=fun e=>n2 (Pt.ext' e.1 e.2)
   unfold Z5 turnV at z;by_cases hx:x.x=p.x
   ·have b:(q.x-p.x)*(x.y-p.y)=0:=by rw [hx] at z;grind
    have D:q.x=p.x:=by have:=(Int.mul_eq_zero.1 b).resolve_right (by omega);omega
    have P:p.x-x.x=0:=by omega
    have J:q.x-x.x=0:=by omega
    rw [P,J];rcases Int.lt_or_le p.y x.y with c | c
    ·exact⟨q.y-x.y,x.y-p.y,by omega,by omega,by omega,by grind⟩
    ·exact⟨x.y-q.y,p.y-x.y,by omega,by omega,by omega,by grind⟩
   ·by_cases hx2:x.x=q.x
    ·have b:(q.x-p.x)*(x.y-q.y)=0:=by rw [hx2] at z;grind
     have:=(Int.mul_eq_zero.1 b).resolve_left (by omega)
     omega
    ·rcases Int.lt_or_le p.x x.x with c | c
     ·exact⟨q.x-x.x,x.x-p.x,by omega,by omega,by grind,by grind⟩
     ·exact⟨x.x-q.x,p.x-x.x,by omega,by omega,by grind,by grind⟩
  obtain⟨m,n,v,w,I,G⟩:=s;have K:m*Z5 x t p+n*Z5 x t q=0:=by
   have:m*Z5 x t p+n*Z5 x t q=(t.x-x.x)*(m*(p.y-x.y)+n*(q.y-x.y))-(t.y-x.y)*(m*(p.x-x.x)+n*(q.x-x.x)):=by unfold Z5 turnV;grind
   rw [this,I,G];simp
  have u1:=Int.mul_nonneg (Int.le_of_lt v) E.1;have Z:=Int.mul_nonneg (Int.le_of_lt w) o.1;have b:Z5 x t p=0:=(Int.mul_eq_zero.1 (show m*Z5 x t p=0 by omega)).resolve_left (by omega)
  have D:Z5 x t q=0:=(Int.mul_eq_zero.1 (show n*Z5 x t q=0 by omega)).resolve_left (by omega)
  have F:=E.2 b;have C:=o.2 D;have M:0<=(t.x-x.x)*(p.x-x.x):=by
   unfold Btw at F;rcases Int.le_total x.x t.x with c | c
   ·exact Int.mul_nonneg (by omega) (by omega)
   ·have:=Int.mul_nonneg (show 0<=-(t.x-x.x) by omega) (show 0<=-(p.x-x.x) by omega);rwa [Int.neg_mul_neg] at this
  have N:0<=(t.x-x.x)*(q.x-x.x):=by
   unfold Btw at C;rcases Int.le_total x.x t.x with c | c
   ·exact Int.mul_nonneg (by omega) (by omega)
   ·have:=Int.mul_nonneg (show 0<=-(t.x-x.x) by omega) (show 0<=-(q.x-x.x) by omega);rwa [Int.neg_mul_neg] at this
  have W:0<=(t.y-x.y)*(p.y-x.y):=by
   unfold Btw at F;rcases Int.le_total x.y t.y with c | c
   ·exact Int.mul_nonneg (by omega) (by omega)
   ·have:=Int.mul_nonneg (show 0<=-(t.y-x.y) by omega) (show 0<=-(p.y-x.y) by omega);rwa [Int.neg_mul_neg] at this
  have Q:0<=(t.y-x.y)*(q.y-x.y):=by
   unfold Btw at C;rcases Int.le_total x.y t.y with c | c
   ·exact Int.mul_nonneg (by omega) (by omega)
   ·have:=Int.mul_nonneg (show 0<=-(t.y-x.y) by omega) (show 0<=-(q.y-x.y) by omega);rwa [Int.neg_mul_neg] at this
  have s1:m*((t.x-x.x)*(p.x-x.x))+n*((t.x-x.x)*(q.x-x.x))=0:=by
   have:m*((t.x-x.x)*(p.x-x.x))+n*((t.x-x.x)*(q.x-x.x))=(t.x-x.x)*(m*(p.x-x.x)+n*(q.x-x.x)):=by grind
   rw [this,I,Int.mul_zero]
  have s2:m*((t.y-x.y)*(p.y-x.y))+n*((t.y-x.y)*(q.y-x.y))=0:=by
   have:m*((t.y-x.y)*(p.y-x.y))+n*((t.y-x.y)*(q.y-x.y))=(t.y-x.y)*(m*(p.y-x.y)+n*(q.y-x.y)):=by grind
   rw [this,G,Int.mul_zero]
  have v1:=Int.mul_nonneg (Int.le_of_lt v) M;have v2:=Int.mul_nonneg (Int.le_of_lt w) N;have Y:=Int.mul_nonneg (Int.le_of_lt v) W;have v4:=Int.mul_nonneg (Int.le_of_lt w) Q;have S:(t.x-x.x)*(p.x-x.x)=0:=(Int.mul_eq_zero.1 (show m*((t.x-x.x)*(p.x-x.x))=0 by omega)).resolve_left (by omega)
  have H:(t.y-x.y)*(p.y-x.y)=0:=(Int.mul_eq_zero.1 (show m*((t.y-x.y)*(p.y-x.y))=0 by omega)).resolve_left (by omega)
  have R:¬ (t.x=x.x/\t.y=x.y):=fun e=>X (Pt.ext' e.1.symm e.2.symm)
  have U:¬ (p.x=x.x/\p.y=x.y):=fun e=>n1 (Pt.ext' e.1.symm e.2.symm)
  unfold Z5 turnV at b;rcases Int.mul_eq_zero.1 S with c | c
  ·have A:=(Int.mul_eq_zero.1 H).resolve_left (by omega)
   rw [c,A] at b;have d:(t.y-x.y)*(p.x-x.x)=0:=by grind
   have:=(Int.mul_eq_zero.1 d).resolve_left (by omega)
   omega
  ·have A:t.y-x.y=0:=(Int.mul_eq_zero.1 H).resolve_right (by omega)
   rw [c,A] at b;have d:(t.x-x.x)*(p.y-x.y)=0:=by grind
   have:=(Int.mul_eq_zero.1 d).resolve_left (by omega)
   omega
section
attribute [local irreducible] wpQuiet
open Go.RowKit
def lenOf:Value->Nat
 | .slice _ n _=>n
 | _=>0
theorem Has.kept {W W':World} {B:Nat} {cs:Array Value} {t:TypeId} {row:Option Nat} (h:Has W B cs t) (hg:W.grownBy W' row) (hne:row≠some B):Has W' B cs t :=
 (hg.block B h.lt (fun e=>hne e.symm)).trans h
theorem ZcH {W:World} {base k size:Nat} {e:TypeId} {v:Value} {xs:List Value} (h:W.ownsRow base e size v k xs):lenOf v=k:=by
 rcases h.2 with⟨rfl,a⟩ | ⟨g,c,b,rfl,_⟩
 ·exact a.symm
 ·rfl
open Classical in
noncomputable def polysB (ls:List (List Pt)):Bool:=decide (∀ j,j<ls.length->Zb (rk ls j)=true)
theorem Z8v {ls:List (List Pt)}:polysB ls=true↔∀ j,j<ls.length->Zb (rk ls j)=true:=by unfold polysB;rw [decide_eq_true_eq]
theorem Z7.has {W:World} {B:Nat} {cs:Array Value} {t:TypeId} {l:List Pt} {cap:Nat} (h:Has W B cs t) (hl:l.length<=70368744177663) (hcs:cs=(Za l).toArray) :
  Z7 W.heap.size W (.slice (some ⟨B,0,none⟩) l.length (l.length+cap)) l:=by
 subst hcs;refine⟨hl,some ⟨B,0,none⟩,cap,rfl,.inr ⟨B,0,rfl,h.lt,fun j hj=>?_⟩⟩
 obtain⟨b,a⟩:=Z0e l j hj;rw [Nat.zero_add];exact⟨h.cell (by simpa using b),h.cell (by simpa using a)⟩
theorem Z6.has {W:World} {B:Nat} {cs:Array Value} {t:TypeId} {ls:List (List Pt)} {cap:Nat} (h:Has W B cs t) (hl:ls.length<=70368744177663)
  (hcs:∀ j,j<ls.length->∃ u,cs[j]?=some u/\Z7 W.heap.size W u (rk ls j)) :
  Z6 W.heap.size W (.slice (some ⟨B,0,none⟩) ls.length (ls.length+cap)) ls:=by
 refine⟨hl,some ⟨B,0,none⟩,cap,rfl,.inr ⟨B,0,rfl,h.lt,fun j hj=>?_⟩⟩
 obtain⟨u,a,b⟩:=hcs j hj;exact⟨u,h.cell (by rw [Nat.zero_add];exact a),b⟩
end
theorem Z2C {c : List Pt} {ls : List (List Pt)} : ∀ {k i}, hitTo c ls k = some i -> i < k /\ touchB c (rk ls i) = true /\ ∀ j, j < i -> touchB c (rk ls j) = false
 | 0,i,h=>by cases h
 | k + 1, i, h => by
  simp only [hitTo] at h;cases hk:hitTo c ls k with
  | some q =>
   rw [hk] at h;simp only [Option.isSome_some,if_true] at h;cases h;obtain⟨h1,h2,h3⟩:=Z2C hk;exact⟨by omega,h2,h3⟩
  | none =>
   rw [hk] at h;simp only [Option.isSome_none,Bool.false_eq_true,if_false] at h
   split at h
   ·cases h
    refine⟨by omega,by assumption,fun j hj=>?_⟩
    exact hitTo_none hk j hj
   ·cases h
where
 hitTo_none {c:List Pt} {ls:List (List Pt)}:∀ {k},hitTo c ls k=none->∀ j,j<k->touchB c (rk ls j)=false
 | 0,_,j,hj=>by omega
 | k + 1, h, j, hj => by
  simp only [hitTo] at h;cases hk:hitTo c ls k with
  | some q=>rw [hk] at h;cases h
  | none =>
   rw [hk] at h;simp only [Option.isSome_none,Bool.false_eq_true,if_false] at h
   split at h
   ·cases h
   ·rename_i ht
    by_cases e:j=k
    ·rw [e];simpa using ht
    ·exact hitTo_none hk j (by omega)
theorem hitTo_none {c:List Pt} {ls:List (List Pt)} {k:Nat} (h:hitTo c ls k=none):∀ j,j<k->touchB c (rk ls j)=false:=Z2C.hitTo_none h
theorem fir_ok {c:List Pt} {ls:List (List Pt)} (h:ls.length<=100) (hk:okRocks c ls=true):firI c ls=natO (hitTo c ls ls.length)/\firB c ls=(hitTo c ls ls.length).isSome/\firE c ls=0:=by
 unfold firI firB firE;simp [h,hk]
theorem Zar (a b:Pt) (s t:Int):frameP a b s t≠[]:=by unfold frameP;simp
theorem Z4F {S T:Pt × Pt}:crossST S T≠[]↔CrossS S T:=by
 unfold crossST CrossS
 split
 ·exact⟨fun _=>by assumption,fun _=>Zar _ _ _ _⟩
 ·rename_i h;exact⟨fun h'=>absurd rfl h',fun h'=>absurd h' h⟩
theorem ZaM {l m:List Pt}:crossP l m≠[]↔∃ i j,i<l.length/\j<m.length/\CrossS (sideP l i) (sideP m j):=by
 unfold crossP crossL rowS sidesL;constructor
 ·intro h
  obtain⟨x,b⟩:=List.exists_mem_of_ne_nil _ h;simp only [List.mem_flatMap,Z1I] at b;obtain⟨S,⟨i,d,rfl⟩,T,⟨j,c,rfl⟩,b⟩:=b;exact⟨i,j,d,c,Z4F.1 (List.ne_nil_of_mem b)⟩
 ·rintro ⟨i,j,d,c,h⟩
  obtain⟨x,b⟩:=List.exists_mem_of_ne_nil _ (Z4F.2 h);refine List.ne_nil_of_mem (a:=x) ?_;simp only [List.mem_flatMap,Z1I];exact⟨_,⟨i,d,rfl⟩,_,⟨j,c,rfl⟩,b⟩
theorem Z0g {l:List Pt} (h:GoValid l):Zb l=true:=by simpa [Zb] using h
theorem Z0T {l:List Pt} {x:Pt} (hl:GoValid l) (hx:Z3 x=true):hasB l x=true↔inside l x=true:=by
 unfold hasB;rw [Z0g hl,hx];simp
theorem Z3Z {l m:List Pt} (hl:GoValid l) (hm:GoValid m):cornersP l m≠[]↔∃ k,k<l.length/\inside m (nth l k)=true:=by
 constructor
 ·intro h
  obtain⟨x,b⟩:=List.exists_mem_of_ne_nil _ h;obtain⟨k,a,rfl,c⟩:=(Z00 _).1 b;exact⟨k,a,(Z0T hm (hl.2.2.1 k a).1).1 c⟩
 ·rintro ⟨k,a,h⟩
  exact List.ne_nil_of_mem ((Z00 _).2 ⟨k,a,rfl,(Z0T hm (hl.2.2.1 k a).1).2 h⟩)
theorem Z8e {l m:List Pt} (hl:GoValid l) (hm:GoValid m):touchB l m=true↔Touch l m:=by
 unfold touchB;rw [Z0g hl,Z0g hm];simp only [Bool.and_true,Bool.true_and,Bool.not_eq_true',decide_eq_false_iff_not];rw [show ((sharedP l m).length=0)=(sharedP l m=[]) from propext List.length_eq_zero_iff]
 unfold sharedP Touch;rw [<- Z3Z hl hm,<- Z3Z hm hl,<- ZaM];by_cases h1:cornersP l m=[]
 ·by_cases h2:cornersP m l=[]
  ·by_cases h3:crossP l m=[]
   ·simp [h1,h2,h3]
   ·simp [h1,h2,h3]
  ·simp [h2]
 ·simp [h1]
theorem ZaT {c p:List Pt} (hc:Zb c=true) (hp:Zb p=true) (h:touchB c p=false) {x:Pt} (hx:hasB c x=true):hasB p x=false:=by
 cases hb:hasB p x
 ·rfl
 have b:=ZY hc;have a:=ZY hp;unfold hasB at hx hb;simp only [Bool.and_eq_true] at hx hb;have:=(Z8e b a).2 (Z6x b a (X:=x.x) (Y:=x.y) (W:=1) (by omega) (Z01 b hx.2) (Z01 a hb.2))
 rw [this] at h;cases h
theorem Z6U {l : List Pt} (hl : GoValid l) {X Y W : Int} (h : InH l X Y W) : ∃ a b c : Nat, a < l.length /\ b < l.length /\ c < l.length /\ ∃ K r s t : Int, 0 < K /\ 0 <= r /\ 0 <= s /\ 0 <= t /\
  K*X=r*(nth l a).x+s*(nth l b).x+t*(nth l c).x/\K*Y=r*(nth l a).y+s*(nth l b).y+t*(nth l c).y/\K*W=r+s+t:=by
 have w:=hl.1;unfold InH at h;by_cases h3:l.length<3
 ·rw [if_pos h3] at h
  obtain⟨K,s,t,u,hs,v,B,z,C⟩:=h;exact⟨0,l.length-1,0,by omega,by omega,by omega,K,s,t,0,u,hs,v,by omega,by omega,by omega,by omega⟩
 ·rw [if_neg h3] at h
  have n:=hl.conv (by omega)
  have g:∃ k,1<=k/\k+1<l.length/\0<=hturn (nth l 0) (nth l k) X Y W/\hturn (nth l 0) (nth l (k+1)) X Y W<=0:=by
   have o:0<=hturn (nth l 0) (nth l 1) X Y W:=by have:=h 0 (by omega);unfold sideP at this;rwa [Nat.mod_eq_of_lt (by omega)] at this
   have E:hturn (nth l 0) (nth l (l.length-1)) X Y W<=0:=by
    have:=h (l.length-1) (by omega)
    unfold sideP at this;rw [show l.length-1+1=l.length by omega,Nat.mod_self] at this
    have j:0<=hturn (nth l (l.length-1)) (nth l 0) X Y W:=this;have e:hturn (nth l 0) (nth l (l.length-1)) X Y W=-hturn (nth l (l.length-1)) (nth l 0) X Y W:=by unfold hturn;grind
    omega
   have f:∀ d k,1<=k->k+d=l.length-1->0<=hturn (nth l 0) (nth l k) X Y W->(k<l.length-1)->∃ k,1<=k/\k+1<l.length/\0<=hturn (nth l 0) (nth l k) X Y W/\hturn (nth l 0) (nth l (k+1)) X Y W<=0:=fun d=>by
    induction d with
    | zero=>intro k h1 h2 h4 h5;omega
    | succ d ih =>
     intro k h1 h2 h4 h5;rcases Int.lt_or_le 0 (hturn (nth l 0) (nth l (k+1)) X Y W) with m | m
     ·by_cases e:k+1=l.length-1
      ·rw [e] at m;omega
      ·exact ih (k+1) (by omega) (by omega) (by omega) (by omega)
     ·exact⟨k,h1,by omega,h4,m⟩
   exact f (l.length-2) 1 (by omega) (by omega) o (by omega)
  obtain⟨k,A,D,p,q⟩:=g;have r:=h k (by omega)
  unfold sideP at r;rw [Nat.mod_eq_of_lt (by omega)] at r
  have T:=n.left k (by omega) 0 (by omega) (by omega) (by rw [Nat.mod_eq_of_lt (by omega)];omega)
  rw [Nat.mod_eq_of_lt (by omega)] at T
  refine⟨0,k,k+1,by omega,by omega,by omega,Z5 (nth l k) (nth l (k+1)) (nth l 0),hturn (nth l k) (nth l (k+1)) X Y W,-hturn (nth l 0) (nth l (k+1)) X Y W,hturn (nth l 0) (nth l k) X Y W,T,r,by omega,p,?_,?_,?_⟩
  all_goals generalize nth l 0=a at *
  all_goals generalize nth l k=b at *
  all_goals generalize nth l (k+1)=c at *
  ·unfold Z5 turnV hturn;grind
  ·unfold Z5 turnV hturn;grind
  ·unfold Z5 turnV hturn;grind
theorem Z2y {l m:List Pt} (hl:GoValid l) (h:∀ k,k<l.length->inside m (nth l k)=true) (hm:GoValid m) {X Y W:Int} (hx:InH l X Y W):InH m X Y W:=by
 obtain⟨a,b,c,e,j,f,K,r,s,t,o,d,hs,q,w,v,z⟩:=Z6U hl hx;have u:=Z01 hm (h a e);have p:=Z01 hm (h b j);have g:=Z01 hm (h c f);have n:InH m (r*(nth l a).x+s*(nth l b).x) (r*(nth l a).y+s*(nth l b).y) (r+s):=Z2z (K:=1) (by omega) d hs (by omega) (by omega) (by omega) u p
 exact Z2z (s:=1) (t:=t) o (by omega) q (by omega) (by omega) (by omega) n g
def mvP (b x:Pt):Pt:=⟨x.x+b.x,x.y+b.y⟩
def mvL (b:Pt) (l:List Pt):List Pt:=l.map (mvP b)
def mvS (b:Pt) (s:Pt × Pt):Pt × Pt:=(mvP b s.1,mvP b s.2)
theorem Z0k (b:Pt) (l:List Pt):(mvL b l).length=l.length:=by simp [mvL]
theorem Z1S (b:Pt) {l:List Pt} {k:Nat} (h:k<l.length):nth (mvL b l) k=mvP b (nth l k):=by
 simp [mvL,nth,List.getD_eq_getElem?_getD,List.getElem?_eq_getElem h]
theorem Z9b (b p q r:Pt):Z5 (mvP b p) (mvP b q) (mvP b r)=Z5 p q r:=by unfold Z5 turnV mvP;grind
theorem Z9r (b:Pt) {l:List Pt} {k:Nat} (h:k<l.length):sideP (mvL b l) k=mvS b (sideP l k):=by
 unfold sideP mvS;rw [Z0k,Z1S b h,Z1S b (Nat.mod_lt _ (by omega))]
theorem Z1o {p:Pt}:Z3 p=true↔-500000<=p.x/\p.x<=500000/\-500000<=p.y/\p.y<=500000:=by simp [Z3,placeB]
theorem cmp_mv (b p q:Pt):cmpP (mvP b p) (mvP b q)=cmpP p q:=by
 have c:∀ u v w:Int,cmpI (u+w) (v+w)=cmpI u v:=fun u v w=>by
  unfold cmpI;repeat' split
  all_goals omega
 simp only [cmpP,cmpV,mvP,c]
section
variable {b:Pt} {l m:List Pt} (hl:Zb l=true) (hm:Zb m=true) (hl':Zb (mvL b l)=true) (hm':Zb (mvL b m)=true)
include hl hm hl' hm'
end
section
attribute [local irreducible] wpQuiet
open Go.RowKit
theorem Z2n {l m:List Pt}:∀ k,(cornersTo l m k).length=k->∀ j,j<k->hasB m (nth l j)=true
 | 0,_,j,hj=>by omega
 | k + 1, h, j, hj => by
  have hl:=Z0m l m k;simp only [cornersTo] at h
  split at h
  ·rename_i hb
   simp only [List.length_append,List.length_singleton] at h;by_cases e:j=k
   ·rw [e];exact hb
   ·exact Z2n k (by omega) j (by omega)
  ·omega
theorem Zbx (p q:Pt) (w:World) (hp:Z3 p=true) (hq:Z3 q=true) :
  Calls Tryz.prog 147 #[.agg #[O qL p.x,O qL p.y],.agg #[O qL q.x,O qL q.y]] w fun e w'=>e=.returned (.agg #[O qL (mvP q p).x,O qL (mvP q p).y])/\Below w.heap.size w w':=by
 rw [Z1o] at hp hq;obtain⟨d,a⟩:=p;obtain⟨c,b⟩:=q;simp only at hp hq
 show Calls _ _ _ _ fun e w'=>e=.returned (.agg #[O qL (d+c),O qL (a+b)])/\_
 have g:IntKind.i64.wrap (d+c)=d+c:=zW2;have f:IntKind.i64.wrap (a+b)=a+b:=zW2;clear hp hq;go_enter Tryz.func147,Tryz.ntmps147;go_wp2;refine bodyPost_ret (v:=.agg #[O qL (d+c),O qL (a+b)]) (by simp [results,Tryz.f147,go_sem]) rfl ⟨rfl,?_⟩
 repeat (first | exact qK _ _ | assumption | apply Below.drew | refine Below.setCell ?_ (by first | omega | (simp;done) | (simp;omega)) _ | refine Below.alloc ?_ (by first | omega | (simp;done) | (simp;omega)) _ | refine Below.call (by assumption) ?_ (by first | omega | (simp;done) | (simp;omega)))
theorem Z8i (Bd:Nat) (x d:Pt) (w:World) (hx:Z3 x=true) (hd:Z3 d=true) (HD:Has w Bd #[O qL d.x,O qL d.y] 36) :
  Calls Tryz.prog 146 #[.agg #[O qL x.x,O qL x.y],.pointer (some ⟨Bd,0,none⟩)] w fun e w'=>e=.returned (.agg #[O qL (mvP d x).x,O qL (mvP d x).y])/\Below w.heap.size w w':=by
 have f:=qH (fun c=>Zbx x d c hx hd)
 have m:=HD.lt;have g:=cX 0 HD rfl;have o:=cX 1 HD rfl;have H:=Has.new (w.alloc (qC #[O qL x.x,O qL x.y] 36)) #[O qL 0,O qL 0] 36;rw [show (w.alloc (qC #[O qL x.x,O qL x.y] 36)).heap.size=w.heap.size+1 by simp] at H
 have H:=qH H;have j:=qH (show Below w.heap.size w ((w.alloc (qC #[O qL x.x,O qL x.y] 36)).alloc (qC #[O qL 0,O qL 0] 36)) from ((qK _ _).alloc (qN _) _).alloc (by first | omega | (simp;done) | (simp;omega)) _)
 generalize mvP d x=r at *;clear HD hx hd;go_enter Tryz.func146,Tryz.ntmps146;go_wp2_with fail;refine (f.out _).mono ?_;rintro e c ⟨rfl,b⟩;have a:=H.out.below b (by simp)
 have u:=Zl a (i:=0) rfl;have s:=Zl a (i:=1) rfl;have q:=Ze a 0;have t:=Ze a 1;have l:=Zl (a.set 0 (O qL r.x)) (i:=0) rfl;have k:=Zl ((a.set 0 (O qL r.x)).set 1 (O qL r.y)) (i:=1) rfl;have n:=zAd j b;clear b a g o;go_wp2;refine bodyPost_ret (v:=.agg #[O qL r.x,O qL r.y]) (by simp [results,Tryz.f146,go_sem,l,k]) rfl ⟨rfl,?_⟩
 exact (n.out.setCell (p:=⟨w.heap.size+1,0,none⟩) (by simp) _).setCell (p:=⟨w.heap.size+1,1,none⟩) (by simp) _
theorem Z9R (d:Pt) (l:List Pt) {k:Nat} (h:k<l.length):mvL d (l.take (k+1))=mvL d (l.take k)++[mvP d (nth l k)]:=by
 have e:nth l k=l[k]:=by simp [nth,List.getD_eq_getElem?_getD,List.getElem?_eq_getElem h]
 unfold mvL;rw [List.take_add_one,List.getElem?_eq_getElem h,List.map_append,e]
 rfl
theorem ZbZ (v : Value) (l : List Pt) (Bd : Nat) (d : Pt) (w : World) (hp : Z7 w.heap.size w v l) (HD : Has w Bd #[O qL d.x, O qL d.y] 36) (hs : l.length <= 64) (hpl : ∀ k, k < l.length -> Z3 (nth l k) = true) (hd : Z3 d = true) :
  Calls Tryz.prog 145 #[v,.func (.func 146) #[] #[.pointer (some ⟨Bd,0,none⟩)]] w (PtsQ (mvL d l) w):=by
 obtain⟨S,a,T,rfl,L⟩:=hp;have M:=qH L;have z:=qH hpl;have q:=qH HD;have u:=qH hd;obtain⟨R,X,p,t,n⟩:=info_parts ptInfo;clear L hpl hd HD;go_enter Tryz.func145,Tryz.ntmps145;go_wp2
 go_loopw [5,10] (fun v i wr=>∃ k:Nat,k<=l.length/\i=O qL (k:Int)/\wr.ownsRow w.heap.size 36 2 v k (Za (mvL d (l.take k)))/\Below w.heap.size w wr) (fun _ i _=>l.length-(intOf i).toNat)
 case atStart=>exact⟨0,by omega,rfl,World.ownsRow_nil _ _ _ _,qK _ _⟩
 case round =>
  obtain⟨k,Y,rfl,c,g⟩:=hrel;have A:=g.size;by_cases hlt:k<l.length
  ·obtain⟨b,o,rfl,G,s⟩:∃ b o,a=some ⟨b,o,none⟩/\b<w.heap.size/\∀ j,j<l.length->w.cell? ⟨b,o+j*2,none⟩=some (O qL (nth l j).x)/\w.cell? ⟨b,o+j*2+1,none⟩=some (O qL (nth l j).y):=by
    rcases M.out with h | h
    ·rw [h] at hlt;simp at hlt
    ·exact h
   obtain⟨J,H⟩:=s k hlt;have Z:=cY g J G;have c1:=cY g H G;have C:=qH (Z9R d l hlt);have f:=qH (fun w1 (B:Below w.heap.size w w1)=>Z8i Bd (nth l k) d w1 (z.out k hlt) u.out (q.out.below B q.out.lt))
   generalize mvP d (nth l k)=r at *;generalize (nth l k).x=px at *;generalize (nth l k).y=py at *;have kl:(k:Int)<l.length:=by omega
   have k0:(0:Int)<=k:=by omega
   have W:decide ((k:Int)<(l.length:Int))=true:=by simp;omega
   have N:=qH c;have m:=qH g;have K:=qH (show Below wr.heap.size wr (wr.alloc (qC #[O qL px,O qL py] 36)) from (qK _ _).alloc (qN _) _)
   clear s J H c g;go_wp2_with fail;refine (f.out _ (m.out.trans (K.out.mono m.out.size))).mono ?_;rintro e E ⟨rfl,F⟩;have D:=zAd K F;have I:=qH (Zz N.out D.out);have U:=D.out.size;clear F;go_wp2_with (at_builtin;refine wpList_append_own _ rfl _ _ 23 rfl w.heap.size 36 R (.agg #[.int .i64 0,.int .i64 0]) 2 16 Tryz.underlying23 X p t n rfl (by decide) _ _ _ rfl (I.out.alloc _) ⟨E.heap.size,0,none⟩ 1 1 [.int .i64 r.x,.int .i64 r.y] rfl rfl (Z2P _ _ _) (by simp [Value.oneCell']) (by unfold maxLen;omega) (by omega) (by simp;omega) ?_;intro v' w4 hown' hgrow _)
   go_roundw
   case rel =>
    have Q:=(qK E.heap.size E).alloc (qN _) (qC #[O qL r.x,O qL r.y] 36);have V:Below w.heap.size w w4:=(m.out.trans ((D.out.trans (Q.mono U)).mono A)).grown hgrow (by simp;omega) (fun j ej=>(I.out.lt j ej).1)
    refine⟨k+1,by omega,by go_num,?_,V⟩
    rw [C.out,ZV];exact hown'
   case measure=>simp [intOf];omega
  ·obtain rfl:k=l.length:=by omega
   have W:decide ((l.length:Int)<(l.length:Int))=false:=by simp
   rw [List.take_length] at c;have P:=qH (Z7.own c (by rw [Z0k];omega))
   have m:=qH g;clear c g;go_wp2;go_ret;exact⟨_,rfl,P.out,m.out⟩
end
end Go.Proofs.YthipcinibldgnaaGreat
