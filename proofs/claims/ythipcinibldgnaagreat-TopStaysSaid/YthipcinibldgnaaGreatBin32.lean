/- landfalltop.r7Sum, r7Within, r7Off. | landfalltop.r7Along. -/
import Derived.Test.YthipcinibldgnaaGreatBin30
import Derived.Test.YthipcinibldgnaaGreatBin31
open Go.Value renaming int->O
open Go.IntKind renaming wrap->qW,i64->qL
open Go.Lib renaming hid->qH
open Go.RowKit.Below renaming refl->qK
open Go.World renaming setCell->qU,alloc->qV
open Go.Act renaming put->qJ
set_option linter.unusedSimpArgs false
set_option linter.unusedVariables false
set_option maxRecDepth 8000
set_option maxHeartbeats 6400000
namespace Go.Proofs.YthipcinibldgnaaGreat
section
attribute [local irreducible] wpQuiet
open Go.RowKit
theorem set2w {X Z:World} {B:Nat} {cs:Array Value} {T:TypeId} {v0 v1:Value} (H:Has X B cs T) (hs:cs.size=2) (hz:((X.setCell ⟨B,0,none⟩ v0).setCell ⟨B,1,none⟩ v1)=Z) :
  Has Z B #[v0,v1] T/\(∀ n,n<=B->Below n X Z)/\Z.heap.size=X.heap.size/\∀ b,b≠B->Z.heap[b]?=X.heap[b]?:=by
 subst hz;obtain⟨l,rfl⟩:∃ l:List Value,cs=l.toArray:=⟨cs.toList,by simp⟩
 obtain⟨c,a,rfl⟩:∃ c a,l=[c,a]:=by
  match l,hs with
  | [c,a],_=>exact⟨_,_,rfl⟩
 refine⟨?_,fun n hn=>?_,by simp,fun b hb=>?_⟩
 ·have:=((H.set 0 v0).set 1 v1)
  simpa only [zq4,zr4,zs4] using this
 ·exact (((qK n X).setCell (p:=⟨B,0,none⟩) hn v0).setCell (p:=⟨B,1,none⟩) hn v1)
 ·iterate 2 (rw [Below.heap_setCell _ _ _ _ (by exact hb)])
theorem Z0F (ax ay bx cy:Int) (w:World) (hax:-2000000<=ax/\ax<=2000000) (hay:-2000000<=ay/\ay<=2000000) (hbx:-2000000<=bx/\bx<=2000000) (hcy:-2000000<=cy/\cy<=2000000) :
  Calls Tryz.prog 22 #[.agg #[O qL ax,O qL ay],.agg #[O qL bx,O qL cy]] w fun e w'=>e=.returned (.agg #[O qL (ax+bx),O qL (ay+cy)])/\Below w.heap.size w w':=by
 have C:=qH (fun l=>Z51 (ax+bx) (ay+cy) l)
 have K:qW qL (ax+bx)=ax+bx:=zW2;have L:qW qL (ay+cy)=ay+cy:=zW2;clear hax hay hbx hcy;have f:=qH (qK w.heap.size w);go_enter Tryz.func22,Tryz.ntmps22;go_upto_region 1 with fail
 generalize a:qV (qV (qV w _) _) _=X0;obtain⟨j,g,n,r,d⟩:=box3 a;clear a;have f:=qH r;clear r;have p:=qH j;clear j;have o:=qH g;clear g;have J:=qH n;clear n d;have H:=cX 0 p.out rfl;have B:=cX 1 p.out rfl;have D:=cX 0 o.out rfl;have y:=cX 1 o.out rfl;go_wp2_with fail;refine (C.out X0).mono ?_;rintro e l ⟨rfl,m⟩;replace f:=zAd f m;have c:=qH m;clear m H B D y;have b:=(zCj J c);have x:=b.lt;have j:=cX 0 b rfl;have g:=cX 1 b rfl;have u:=Ze b 0;have A:=Ze b 1;have t:=qH b;clear b;go_wp2;clear j g u A;generalize s:qU (qU l _ _) _ _=Z;obtain⟨q,k,G,z⟩:=set2w t.out rfl s;clear s;have F:=f.out.trans (k w.heap.size (by omega))
 have I:=cX 0 q rfl;have E:=cX 1 q rfl;exact bodyPost_ret (v:=.agg #[O qL (ax+bx),O qL (ay+cy)]) (by simp [results,Tryz.f22,go_sem,I,E]) rfl ⟨rfl,F⟩
theorem Z1n (ax ay r:Int) (w:World) (hax:-2000000<=ax/\ax<=2000000) (hay:-2000000<=ay/\ay<=2000000) (hr:-2000000<=r/\r<=2000000) :
  Calls Tryz.prog 21 #[.agg #[O qL ax,O qL ay],O qL r] w fun e w'=>e=.returned (.bool (decide (wn ax ay r)))/\Below w.heap.size w w':=by
 have p:=ZH (a:=ax) (b:=ax) (m:=2000000) (n:=2000000) (by omega) (by omega) (by omega) (by omega)
 have l:=ZH (a:=ay) (b:=ay) (m:=2000000) (n:=2000000) (by omega) (by omega) (by omega) (by omega)
 have o:=ZH (a:=r) (b:=r) (m:=2000000) (n:=2000000) (by omega) (by omega) (by omega) (by omega)
 have u:qW qL (ax*ax)=ax*ax:=zW2;have s:qW qL (ay*ay)=ay*ay:=zW2;have q:qW qL (ax*ax+ay*ay)=ax*ax+ay*ay:=zW2;have t:qW qL (r*r)=r*r:=zW2;unfold wn;clear hax hay hr p l o;have f:=qH (qK w.heap.size w);go_enter Tryz.func21,Tryz.ntmps21;go_upto_region 1 with fail
 generalize c:qV w _=X0;obtain⟨j,k,d⟩:=box1 c;clear c;have f:=qH k;clear k;have g:=qH j;clear j d;have v:=cX 0 g.out rfl;have x:=cX 1 g.out rfl;go_wp2;go_ret;exact⟨rfl,f.out⟩
theorem Z9C (vl:Value) (l:List Pt) (i:Nat) (r:Int) (w:World) (hl:Z7 w.heap.size w vl l) (hi:i<=1000) (hr:0<=r/\r<=2000000) :
  Calls Tryz.prog 19 #[vl,O qL (i:Int),O qL r] w fun e w'=>∃ x y,e=.returned (.agg #[O qL x,O qL y])/\Below w.heap.size w w'/\wn x y r:=by
 have I:wn 0 0 r:=by unfold wn;have:=sq_nn r;omega
 obtain⟨hll,al,cl,rfl,R⟩:=hl;have jr:qW qL (-r)=-r:=zW2;have E:=qH (qK w.heap.size w);go_enter Tryz.func19,Tryz.ntmps19;go_upto_region 1 with fail
 generalize F:qV w _=X0;obtain⟨o,J,L⟩:=box1 F;clear F;have E:=qH J;clear J;have H:=qH o;clear o L;by_cases hz:l.length=0
 ·skip
  have d0:((l.length:Int) == 0)=true:=by rw [beq_iff_eq];omega
  clear R;have c:=H.out;have C:=c.lt;have o:=cX 0 c rfl;have p:=cX 1 c rfl;have B:=Ze c 0;have t:=Ze c 1;have q:=qH c;clear c;go_wp2;clear o p B t;generalize k:qU (qU X0 _ _) _ _=Z;obtain⟨g,d,z,s⟩:=set2w q.out rfl k;clear k;have D:=E.out.trans (d w.heap.size (by omega))
  have A:=cX 0 g rfl;have u:=cX 1 g rfl;exact bodyPost_ret (v:=.agg #[O qL 0,O qL 0]) (by simp [results,Tryz.f19,go_sem,A,u]) rfl ⟨_,_,rfl,D,I⟩
 have d0:((l.length:Int) == 0)=false:=by rw [beq_eq_false_iff_ne];omega
 have nz:¬ ((l.length:Int)=0):=by omega
 obtain⟨j,hj,P,-⟩:=Z9S (i:=i) (n:=l.length) (by omega)
 have X:(0:Int)<=(j:Int):=by omega
 have U:(j:Int)<l.length:=by omega
 obtain⟨bl,ol,rfl,N,M⟩:=R.resolve_left (by intro h;rw [h] at hz;simp at hz)
 obtain⟨T,S⟩:=M j P;have V:=cY E.out T N;have g2:=cY E.out S N;clear M T S;generalize (nth l j).x=px at *;generalize (nth l j).y=py at *;go_upto_region 4 with fail
 generalize G:qV X0 _=X3;obtain⟨o,J,K⟩:=box1 G;clear G;replace E:=zAd E J;have f:=qH J;clear J;have VB:=qH o;clear o K V g2;have Q:=VB.out;have v0:=cX 0 Q rfl;have v1:=cX 1 Q rfl;by_cases k0:px < -r
 ·skip
  have t0:decide (px < -r)=true:=decide_eq_true k0;have c:=(zCj H f);have C:=c.lt;have o:=cX 0 c rfl;have p:=cX 1 c rfl;have B:=Ze c 0;have t:=Ze c 1;have q:=qH c;clear c;go_wp2;clear o p B t;generalize k:qU (qU X3 _ _) _ _=Z;obtain⟨g,d,z,s⟩:=set2w q.out rfl k;clear k;have D:=E.out.trans (d w.heap.size (by omega))
  have A:=cX 0 g rfl;have u:=cX 1 g rfl;exact bodyPost_ret (v:=.agg #[O qL 0,O qL 0]) (by simp [results,Tryz.f19,go_sem,A,u]) rfl ⟨_,_,rfl,D,I⟩
 have t0:decide (px < -r)=false:=decide_eq_false k0;by_cases k1:px>r
 ·skip
  have t1:decide (px>r)=true:=decide_eq_true k1;have c:=(zCj H f);have C:=c.lt;have o:=cX 0 c rfl;have p:=cX 1 c rfl;have B:=Ze c 0;have t:=Ze c 1;have q:=qH c;clear c;go_wp2;clear o p B t;generalize k:qU (qU X3 _ _) _ _=Z;obtain⟨g,d,z,s⟩:=set2w q.out rfl k;clear k;have D:=E.out.trans (d w.heap.size (by omega))
  have A:=cX 0 g rfl;have u:=cX 1 g rfl;exact bodyPost_ret (v:=.agg #[O qL 0,O qL 0]) (by simp [results,Tryz.f19,go_sem,A,u]) rfl ⟨_,_,rfl,D,I⟩
 have t1:decide (px>r)=false:=decide_eq_false k1;by_cases k2:py < -r
 ·skip
  have t2:decide (py < -r)=true:=decide_eq_true k2;have c:=(zCj H f);have C:=c.lt;have o:=cX 0 c rfl;have p:=cX 1 c rfl;have B:=Ze c 0;have t:=Ze c 1;have q:=qH c;clear c;go_wp2;clear o p B t;generalize k:qU (qU X3 _ _) _ _=Z;obtain⟨g,d,z,s⟩:=set2w q.out rfl k;clear k;have D:=E.out.trans (d w.heap.size (by omega))
  have A:=cX 0 g rfl;have u:=cX 1 g rfl;exact bodyPost_ret (v:=.agg #[O qL 0,O qL 0]) (by simp [results,Tryz.f19,go_sem,A,u]) rfl ⟨_,_,rfl,D,I⟩
 have t2:decide (py < -r)=false:=decide_eq_false k2;by_cases k3:py>r
 ·skip
  have t3:decide (py>r)=true:=decide_eq_true k3;have c:=(zCj H f);have C:=c.lt;have o:=cX 0 c rfl;have p:=cX 1 c rfl;have B:=Ze c 0;have t:=Ze c 1;have q:=qH c;clear c;go_wp2;clear o p B t;generalize k:qU (qU X3 _ _) _ _=Z;obtain⟨g,d,z,s⟩:=set2w q.out rfl k;clear k;have D:=E.out.trans (d w.heap.size (by omega))
  have A:=cX 0 g rfl;have u:=cX 1 g rfl;exact bodyPost_ret (v:=.agg #[O qL 0,O qL 0]) (by simp [results,Tryz.f19,go_sem,A,u]) rfl ⟨_,_,rfl,D,I⟩
 have t3:decide (py>r)=false:=decide_eq_false k3;have p:=ZH (a:=px) (b:=px) (m:=2000000) (n:=2000000) (by omega) (by omega) (by omega) (by omega)
 have W:=ZH (a:=py) (b:=py) (m:=2000000) (n:=2000000) (by omega) (by omega) (by omega) (by omega)
 have Y:=ZH (a:=r) (b:=r) (m:=2000000) (n:=2000000) (by omega) (by omega) (by omega) (by omega)
 have w3:qW qL (px*px)=px*px:=zW2;have w4:qW qL (py*py)=py*py:=zW2;have w5:qW qL (px*px+py*py)=px*px+py*py:=zW2;have w6:qW qL (r*r)=r*r:=zW2;clear p W Y;by_cases k4:px*px+py*py>r*r
 ·skip
  have t4:decide (px*px+py*py>r*r)=true:=decide_eq_true k4;have c:=(zCj H f);have C:=c.lt;have o:=cX 0 c rfl;have p:=cX 1 c rfl;have B:=Ze c 0;have t:=Ze c 1;have q:=qH c;clear c;go_wp2;clear o p B t;generalize k:qU (qU X3 _ _) _ _=Z;obtain⟨g,d,z,s⟩:=set2w q.out rfl k;clear k;have D:=E.out.trans (d w.heap.size (by omega))
  have A:=cX 0 g rfl;have u:=cX 1 g rfl;exact bodyPost_ret (v:=.agg #[O qL 0,O qL 0]) (by simp [results,Tryz.f19,go_sem,A,u]) rfl ⟨_,_,rfl,D,I⟩
 have t4:decide (px*px+py*py>r*r)=false:=decide_eq_false k4;have hw:wn px py r:=by unfold wn;omega
 have c:=(zCj H f);have C:=c.lt;have o:=cX 0 c rfl;have p:=cX 1 c rfl;have B:=Ze c 0;have t:=Ze c 1;have q:=qH c;clear c;go_wp2;clear o p B t;generalize k:qU (qU X3 _ _) _ _=Z;obtain⟨g,d,z,s⟩:=set2w q.out rfl k;clear k;have D:=E.out.trans (d w.heap.size (by omega))
 have A:=cX 0 g rfl;have u:=cX 1 g rfl;exact bodyPost_ret (v:=.agg #[O qL px,O qL py]) (by simp [results,Tryz.f19,go_sem,A,u]) rfl ⟨_,_,rfl,D,hw⟩
theorem Zco {a n M:Int} (h1:-M<=a) (h2:a<=M):-M<=a.tdiv n/\a.tdiv n<=M:=by
 have h:=Int.natAbs_tdiv_le_natAbs a n;omega
theorem Zcn {a n:Int} {M:Int} (h1:-M<=a) (h2:a<=M):-M<=a.tmod n/\a.tmod n<=M:=by
 have h:=Int.natAbs_tmod a n;have b:=Nat.mod_le a.natAbs n.natAbs;omega
theorem Z6I (m : Msn) (vw vh vr : Value) (vc : Value) (c : List Pt) (px py qx qy : Int) (n : Nat) (w : World) (hm : MsnAt w.heap.size w m vw vh vr) (hc : Z7 w.heap.size w vc c) (hn : 0 < n) (hn2 : n <= 12) (hr : m.rocks.length <= 100) (hpx : -2000000 <= px /\ px <= 2000000) (hpy : -2000000 <= py /\ py <= 2000000) (hqx : -2000000 <= qx /\ qx <= 2000000) (hqy : -2000000 <= qy /\ qy <= 2000000)
  (hin:∀ (s:Nat) (z:Pt),s<=n->(n:Int)*z.x=px*((n:Int)-s)+qx*s->(n:Int)*z.y=py*((n:Int)-s)+qy*s->(hasB c z=true/\hasE c z=0)/\∀ j,j<m.rocks.length->hasB (rk m.rocks j) z=false/\hasE (rk m.rocks j) z=0) :
  Calls Tryz.prog 23 #[.agg (Zc m vw vh vr),vc,.agg #[O qL px,O qL py],.agg #[O qL qx,O qL qy],O qL (n:Int)] w fun e w'=>e=.returned (.bool true)/\Below w.heap.size w w':=by
 have fc:=fun z w1 (B:Below w.heap.size w w1)=>Z3O vc c z w1 ((hc.below B).mono B.size)
 have hrk:=hm.2.2;obtain⟨⟨-,a1,c1,rfl,-⟩,⟨-,a2,c2,rfl,-⟩,⟨-,a3,c3,rfl,hcr⟩⟩:=hm;obtain⟨-,ac,cc,rfl,-⟩:=hc;have HCR:=qH hcr;have HIN:=qH hin;replace fc:=qH fc;clear hcr hrk hin;unfold Zc at *;have S:=qH (qK w.heap.size w);go_enter Tryz.func23,Tryz.ntmps23;go_upto_region 1 with fail
 generalize L:qV (qV (qV w _) _) _=X0;obtain⟨q0,q1,q2,p,hzX0⟩:=box3 L;clear L;have S:=qH p;clear p;have MB:=qH q0;clear q0;have PB:=qH q1;clear q1;have QB:=qH q2;clear q2 hzX0;have nz:((n:Int) == 0)=false:=by rw [beq_eq_false_iff_ne];omega
 have nz':¬ ((n:Int)=0):=by omega
 have nz2:¬ (n=0):=by omega
 have HN:=qH (And.intro hpx (And.intro hpy (And.intro hqx hqy)));clear hpx hpy hqx hqy;go_wp2
 go_loopw [11] (fun s wr=>∃ j:Nat,j<=n+1/\s=O qL (j:Int)/\Below X0.heap.size X0 wr) (fun s _=>n+1-(intOf s).toNat)
 case atStart=>exact⟨0,by omega,rfl,qK _ _⟩
 case round =>
  obtain⟨j,hj,rfl,hB⟩:=hrel;obtain⟨wo,hwo⟩:∃ x,x=wr:=⟨_,rfl⟩;subst hwo;have D:=qH hB;have A:=qH (qK wo.heap.size wo);clear hB;by_cases hjn:j<=n
  ·skip
   have d1:decide ((j:Int)<=(n:Int))=true:=by rw [decide_eq_true_eq];omega
   obtain⟨hpx,hpy,hqx,hqy⟩:=HN.out;have js:qW qL ((n:Int)-(j:Int))=(n:Int)-(j:Int):=zW2;have q1:=ZH (a:=px) (b:=(n:Int)-(j:Int)) (m:=2000000) (n:=12) (by omega) (by omega) (by omega) (by omega)
   have q2:=ZH (a:=qx) (b:=(j:Int)) (m:=2000000) (n:=12) (by omega) (by omega) (by omega) (by omega)
   have q3:=ZH (a:=py) (b:=(n:Int)-(j:Int)) (m:=2000000) (n:=12) (by omega) (by omega) (by omega) (by omega)
   have q4:=ZH (a:=qy) (b:=(j:Int)) (m:=2000000) (n:=12) (by omega) (by omega) (by omega) (by omega)
   have i1:qW qL (px*((n:Int)-(j:Int)))=px*((n:Int)-(j:Int)):=zW2;have i2:qW qL (qx*(j:Int))=qx*(j:Int):=zW2;have i3:qW qL (py*((n:Int)-(j:Int)))=py*((n:Int)-(j:Int)):=zW2;have i4:qW qL (qy*(j:Int))=qy*(j:Int):=zW2;obtain⟨x,hx⟩:∃ x,px*((n:Int)-(j:Int))+qx*(j:Int)=x:=⟨_,rfl⟩;obtain⟨y,hy⟩:∃ x,py*((n:Int)-(j:Int))+qy*(j:Int)=x:=⟨_,rfl⟩;have i5:qW qL (px*((n:Int)-(j:Int))+qx*(j:Int))=x:=by rw [hx];exact zW2
   have i6:qW qL (py*((n:Int)-(j:Int))+qy*(j:Int))=y:=by rw [hy];exact zW2
   have bx:-48000000<=x/\x<=48000000:=by omega
   have E:-48000000<=y/\y<=48000000:=by omega
   have U:=qH (And.intro hx hy);clear hx hy q1 q2 q3 q4 hpx hpy hqx hqy;have MB0:=qH (zCj MB D);have W:=PB.out.below D.out PB.out.lt;have V:=QB.out.below D.out QB.out.lt;have e0:=Low.fact (cX 0 W rfl);have e1:=Low.fact (cX 1 W rfl);have f0:=Low.fact (cX 0 V rfl);have f1:=Low.fact (cX 1 V rfl);clear W V;go_wp2
   (refine Zg (by kernel_rfl) (by kernel_rfl) ?_;(iterate 24 (apply qw3;(case hw=>rfl);(case hval=>(intro w1 hw1 hcx;simp only [Oper.quietAt];go_simp;first | done | rfl | exact⟨rfl,rfl⟩));simp only [pT]));refine wpQuiet_nil ?_;intro w2 hw2)
   obtain⟨H,hwa⟩:∃ x,x=w2:=⟨_,rfl⟩;subst hwa;have p:Below wo.heap.size wo H:=hw2.out;clear hw2 e0 e1 f0 f1 i1 i2 i3 i4 i5 i6 js;replace A:=qH p;clear p;have jn1:qW qL ((j:Int)+1)=((j+1:Nat):Int):=by rw [show (j:Int)+1=((j+1:Nat):Int) by omega];exact zW2
   have m1:=Zcn (a:=x) (n:=(n:Int)) bx.1 bx.2;have m2:=Zcn (a:=y) (n:=(n:Int)) E.1 E.2
   obtain⟨rx,hrx⟩:∃ z,x.tmod (n:Int)=z:=⟨_,rfl⟩;obtain⟨ry,hry⟩:∃ z,y.tmod (n:Int)=z:=⟨_,rfl⟩;rw [hrx] at m1;rw [hry] at m2;have j1:qW qL rx=rx:=zW2;have j2:qW qL ry=ry:=zW2;clear m1 m2;by_cases hz:rx=0;rotate_left
   ·skip
    have dz:(rx != 0)=true:=by simpa using hz
    go_wp2;go_roundw
    case rel=>exact⟨j+1,by omega,by go_num,D.out.trans (A.out.mono D.out.size)⟩
    case measure=>simp [intOf];omega
   have dz:(rx != 0)=false:=by simpa using hz
   by_cases G:ry=0;rotate_left
   ·skip
    have dz2:(ry != 0)=true:=by simpa using G
    go_wp2;go_roundw
    case rel=>exact⟨j+1,by omega,by go_num,D.out.trans (A.out.mono D.out.size)⟩
    case measure=>simp [intOf];omega
   have dz2:(ry != 0)=false:=by simpa using G
   subst hz G;have t1:=Zco (a:=x) (n:=(n:Int)) bx.1 bx.2;have t2:=Zco (a:=y) (n:=(n:Int)) E.1 E.2
   have ex:=Int.mul_tdiv_add_tmod x n;have ey:=Int.mul_tdiv_add_tmod y n;obtain⟨l,hzx⟩:∃ z,x.tdiv (n:Int)=z:=⟨_,rfl⟩;obtain⟨d,hzy⟩:∃ z,y.tdiv (n:Int)=z:=⟨_,rfl⟩;rw [hzx] at t1;rw [hzy] at t2;rw [hzx,hrx,Int.add_zero] at ex;rw [hzy,hry,Int.add_zero] at ey;have j3:qW qL l=l:=zW2;have j4:qW qL d=d:=zW2;obtain⟨⟨in1,in2⟩,T⟩:=HIN.out j ⟨l,d⟩ hjn (by rw [U.out.1];exact ex) (by rw [U.out.2];exact ey)
   have q:=fun w1 B=>fc.out ⟨l,d⟩ w1 B
   rw [in1,in2] at q;simp only at q;replace q:=qH q;have fh:=fun k (hk:k<m.rocks.length) v w1 Z=>Z3O v (rk m.rocks k) ⟨l,d⟩ w1 Z
   have fh':∀ k,k<m.rocks.length->∀ v w1,Z7 w1.heap.size w1 v (rk m.rocks k)->Calls Tryz.prog 27 #[v,.agg #[O qL l,O qL d]] w1 fun e w'=>e=.returned (.tuple #[.bool false,O qL 0])/\Below w1.heap.size w1 w':=fun k hk v w1 Z=>by
    have:=fh k hk v w1 Z;rw [(T k hk).1,(T k hk).2] at this;exact this
   have fh9:=qH fh';have fa:=qH (fun w1=>Z51 l d w1)
   clear t1 t2 ex ey in1 in2 T fh fh' bx E U
   have t:=qH ((S.out.trans (D.out.mono S.out.size)).trans (A.out.mono (S.out.trans (D.out.mono S.out.size)).size))
   skip
   go_upto_region 6 with fail
   go_cut [14] from 26 (fun b1 wx=>∃ (x:Nat),b1=.pointer (some ⟨x,0,none⟩)/\H.heap.size<=x/\Has wx x #[O qL l,O qL d] 36/\Below H.heap.size H wx)
   case first =>
    refine (wpIn_wide (n:=9)).1 ?_;refine Zi (Zk _) 8 (fun X=>Below H.heap.size H X) (by kernel_rfl) (by kernel_rfl) (by kernel_rfl) fun hH inv0=>?_
    refine sk hH 0 (O qL x) (Zd rfl) inv0 (fun X hX=>?_) fun R=>?_
    ·go_simp
    simp only [pT];clear inv0;refine sk hH 1 (O qL (n:Int)) (Zd rfl) R (fun X hX=>?_) fun Q=>?_
    ·go_simp
    simp only [pT];clear R;refine sk hH 2 (O qL l) (Zd rfl) Q (fun X hX=>?_) fun M=>?_
    ·go_simp
    simp only [pT];clear Q;refine sk hH 3 (O qL y) (Zd rfl) M (fun X hX=>?_) fun P=>?_
    ·go_simp
    simp only [pT];clear M;refine sk hH 4 (O qL (n:Int)) (Zd rfl) P (fun X hX=>?_) fun N=>?_
    ·go_simp
    simp only [pT];clear P;refine sk hH 5 (O qL d) (Zd rfl) N (fun X hX=>?_) fun inv6=>?_
    ·go_simp
    simp only [pT];clear N inv6 hH;have o:Below H.heap.size H H.drew:=Below.drew (qK _ _);have hz0:=o.size;generalize H.drew=X0 at *;refine Zw (rs:=[6,7]) (by kernel_rfl) (by simp) o (by simp) (fun i hi'=>?_)
    simp only [List.mem_cons,List.not_mem_nil,or_false] at hi';rcases hi' with rfl | rfl
    ·skip
     refine Zo (Zd rfl) rfl (f:=60) (args:=#[O qL l,O qL d]) (by go_simp) (fa.out X0) ?_
     rintro e F ⟨rfl,b⟩;refine⟨_,rfl,?_⟩;simp only [pT];replace o:=o.trans (b.mono o.size);have hz1:=b.size;clear b;refine sa1 (r:=7) o ?_;refine ZC (Zd rfl) rfl (v:=.pointer (some ⟨F.heap.size,0,none⟩)) (w':=F.alloc (.cells #[O qL 0,O qL 0] 36)) (by go_simp) ?_
     simp only [pT];have p:=Has.new F #[O qL 0,O qL 0] 36;replace o:=o.alloc (by omega) (.cells #[O qL 0,O qL 0] 36)
     have G:F.heap.size<(F.alloc (.cells #[O qL 0,O qL 0] 36)).heap.size:=by simp
     generalize F.alloc (.cells #[O qL 0,O qL 0] 36)=X2 at *;refine Zj (by kernel_rfl) o ?_
     simp only [List.drop_succ_cons,List.drop_zero];refine ZF rfl rfl (g:=F.heap.size) (cells:=#[O qL l,O qL d]) rfl rfl p (by kernel_rfl) rfl (by simp [Value.oneCell']) ?_
     have hP:=Has.put (cells:=#[O qL l,O qL d]) p;have hT:=Below.setRow o (C:=F.heap.size) (by omega) #[O qL l,O qL d]
     generalize X2.setRow F.heap.size #[O qL l,O qL d]=X3 at *;gi_wp2;go_meet;exact⟨_,rfl,by omega,hP,hT⟩
    ·skip
     refine ZC (Zd rfl) rfl (v:=.pointer (some ⟨X0.heap.size,0,none⟩)) (w':=X0.alloc (.cells #[O qL 0,O qL 0] 36)) (by go_simp) ?_
     simp only [pT];have p:=Has.new X0 #[O qL 0,O qL 0] 36;replace o:=o.alloc (by omega) (.cells #[O qL 0,O qL 0] 36)
     have hz1:X0.heap.size<(X0.alloc (.cells #[O qL 0,O qL 0] 36)).heap.size:=by simp
     generalize X0.alloc (.cells #[O qL 0,O qL 0] 36)=F at *;refine sa1 (r:=6) o ?_;refine Zo (Zd rfl) rfl (f:=60) (args:=#[O qL l,O qL d]) (by go_simp) (fa.out F) ?_
     rintro e X2 ⟨rfl,b⟩;refine⟨_,rfl,?_⟩;simp only [pT];replace o:=o.trans (b.mono o.size);have G:=b.size;replace p:=p.below b p.lt;clear b;refine Zj (by kernel_rfl) o ?_
     simp only [List.drop_succ_cons,List.drop_zero];refine ZF rfl rfl (g:=X0.heap.size) (cells:=#[O qL l,O qL d]) rfl rfl p (by kernel_rfl) rfl (by simp [Value.oneCell']) ?_
     have hP:=Has.put (cells:=#[O qL l,O qL d]) p;have hT:=Below.setRow o (C:=X0.heap.size) (by omega) #[O qL l,O qL d]
     generalize X2.setRow X0.heap.size #[O qL l,O qL d]=X3 at *;gi_wp2;go_meet;exact⟨_,rfl,by omega,hP,hT⟩
   case rest =>
    obtain⟨bx,rfl,hbx,HX0,hC⟩:=hcut;replace A:=zAd A hC;replace t:=zAd t hC;clear hC;have BX:=qH HX0;clear HX0 fa;have s0:=cX 0 BX.out rfl;have s1:=cX 1 BX.out rfl;go_wp2_with fail;refine (q.out wc t.out).mono ?_;rintro e I ⟨rfl,J⟩;replace A:=zAd A J;replace t:=zAd t J;have B_wc:=qH J;clear J s0 s1 q;have mb:=(zCj MB0 A);have c3':=cX 3 mb rfl;clear mb;go_wp2;clear c3';have BXl:=qH (zCj BX B_wc);have Bll:=qH (qK I.heap.size I)
    go_loopw [80] (fun s wq=>∃ k:Nat,k<=m.rocks.length/\s=O qL (k:Int)/\Below I.heap.size I wq) (fun s _=>m.rocks.length-(intOf s).toNat)
    case atStart=>exact⟨0,by omega,rfl,qK _ _⟩
    case round =>
     obtain⟨k,hk,rfl,hB⟩:=hrel;obtain⟨wk,hwk⟩:∃ x,x=wr:=⟨_,rfl⟩;subst hwk;have BK:=qH hB;have Y:=zAd t hB;have K:=BXl.out.below hB BXl.out.lt;by_cases hkn:k<m.rocks.length
     ·have d2:decide ((k:Int)<(m.rocks.length:Int))=true:=by rw [decide_eq_true_eq];omega
      obtain⟨b3,o3,rfl,hb3,hc3⟩:=HCR.out.resolve_left (by intro h;rw [h] at hkn;simp at hkn)
      obtain⟨u,hu,Z⟩:=hc3 k hkn;have g1:=cY Y.out hu hb3;have hp9:=(Z.below Y.out).mono Y.out.size;obtain⟨-,ua,uc,rfl,-⟩:=Z;have s0:=cX 0 K rfl;have s1:=cX 1 K rfl;have hki:(k:Int)<m.rocks.length:=by omega
      have hk0:(0:Int)<=k:=by omega
      have g9:=qH (fh9.out k hkn _ _ hp9);clear hc3 hu hp9;go_wp2_with fail;refine (g9.out).mono ?_;rintro e wl ⟨rfl,bl⟩;have BL:=zAd BK bl;clear bl g1 s0 s1 K;go_wp2;go_roundw
      case rel=>exact⟨k+1,by omega,by go_num,BL.out⟩
      case measure=>simp [intOf];omega
     ·obtain rfl:k=m.rocks.length:=by omega
      have d2:decide ((m.rocks.length:Int)<(m.rocks.length:Int))=false:=by simp
      replace A:=qH (A.out.trans (BK.out.mono A.out.size));clear K;go_wp2;go_roundw
      case rel=>exact⟨j+1,by omega,by go_num,D.out.trans (A.out.mono D.out.size)⟩
      case measure=>simp [intOf];omega
  ·have d1:decide ((j:Int)<=(n:Int))=false:=by rw [decide_eq_false_iff_not];omega
   have BF:=qH (S.out.trans (D.out.mono S.out.size));go_wp2;go_ret;exact⟨rfl,BF.out⟩
end
end Go.Proofs.YthipcinibldgnaaGreat
