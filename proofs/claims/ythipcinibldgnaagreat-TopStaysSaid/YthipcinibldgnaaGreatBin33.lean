/- The walk of the law: A vehicle that is driven off by no more than the growth stays in the corridors of the certificate and out of all rocks; if it .. -/
import Derived.Test.YthipcinibldgnaaGreatBin32
open Go.Value renaming int->O
open Go.IntKind renaming wrap->qW,i64->qL
open Go.Lib renaming hid->qH
open Go.RowKit.Below renaming refl->qK
open Go.World renaming block_lt_of_cell?->qO
open And renaming intro->qI
open Go.Act renaming put->qJ
namespace Go.Proofs.YthipcinibldgnaaGreat.topStays
open Go.RowKit
attribute [local irreducible] wpQuiet
theorem Z5k {p:List Pt} {x:Pt} (h:Zb p=true) (hx:Z3 x=true):hasE p x=0:=by
 unfold hasE;rw [if_pos (by rw [h,hx];rfl)]
theorem Zbk {m:Msn} {l:List Int} (V:VMsn m) {i:Nat} (hi:i+1<m.ways.length):0<=gLeg m i (i+1)/\gLeg m i (i+1)<=100000:=by
 have b:=rd_le V l (k:=i) (by omega)
 have a:=rd_le V l (k:=i+1) hi;have g:=ZW V.leg V.ways (i:=i) (j:=i+1) (by omega) hi
 have e:=Z0Q m l i;omega
theorem Zbl {m:Msn} {l:List Int} {k:Nat} {x y:Int} (h1:wn x y (rdB m l (k+1))) (h2:wn x y (wy m.ways (k+1)).fix):wn x y (rdA m l (k+1)):=by
 rw [Z0R]
 split
 ·rcases (Z9U (rdB m l (k+1)) (wy m.ways (k+1)).fix).2.2 with e | e
  ·rw [e];exact h1
  ·rw [e];exact h2
 ·exact h1
theorem Z9p {m:Msn} {l:List Int} (V:VMsn m) {a:Nat} (ha:a<m.ways.length) {j:Nat} (hj:j<dep m a) {ox oy gx gy:Int} (h1:wn ox oy (bkR m a (rdB m l a) j)) (h2:wn gx gy (gLeg m (itB m a j) (itB m a (j+1)))):wn (ox+gx) (oy+gy) (bkR m a (rdB m l a) (j+1)):=by
 have b:=bk_bd V l ha (j:=j) (by omega)
 have g:=ZW V.leg V.ways (i:=itB m a j) (j:=itB m a (j+1)) (Z0o V.ways ha (by omega)) (Z0o V.ways ha hj)
 exact Zck (by omega) (by omega) h1 h2
theorem Zch {m:Msn} {l:List Int} (V:VMsn m) {a:Nat} (ha:a<m.ways.length) {j:Nat} (hj:j<dep m a):0<=gLeg m (itB m a j) (itB m a (j+1))/\gLeg m (itB m a j) (itB m a (j+1))<=100000:=by
 have c:=bk_bd V l ha (j:=j) (by omega)
 have b:=bk_bd V l ha (j:=j+1) hj;have g:=ZW V.leg V.ways (i:=itB m a j) (j:=itB m a (j+1)) (Z0o V.ways ha (by omega)) (Z0o V.ways ha hj)
 have e:bkR m a (rdB m l a) (j+1)=bkR m a (rdB m l a) j+gLeg m (itB m a j) (itB m a (j+1)):=rfl;omega
def offR (m:Msn) (l:List Int) (en j:Nat):Int:=if j<en then rdA m l j else rdB m l en
set_option linter.unusedSimpArgs false in
set_option linter.unusedVariables false in
set_option maxRecDepth 8000 in
set_option maxHeartbeats 25600000 in
theorem walk (w : World) (m : Msn) (vw vh vr vl : Value) (l : List Int) (vo : Value) (lo : List Pt) (tu st : Int) (hm : MsnAt w.heap.size w m vw vh vr) (hl : Z8 w.heap.size w vl l) (hlo : Z7 w.heap.size w vo lo) (hu0 : (Lit.int .u8 tu).wf = true) (hs0 : (Lit.int .u8 st).wf = true) :
  Calls Tryz.prog 4 #[.agg (Zc m vw vh vr),vl,vo,O .u8 tu,O .u8 st] w fun e w'=>e=.returned (.bool true)/\Below w.heap.size w w':=by
 obtain⟨tu,rfl,htu⟩:=u8_bd hu0;obtain⟨st,rfl,hst⟩:=u8_bd hs0;have hd:=qH (fun w1=>Z6K w1)
 have ff:=fun w1 (B:Below w.heap.size w w1)=>Zd6 m vw vh vr w1 ((hm.below B).mono B.size)
 have fv:=fun w1 (B:Below w.heap.size w w1)=>Z5N m vw vh vr w1 ((hm.below B).mono B.size)
 have fs:=fun w1 (B:Below w.heap.size w w1) hfx=>Z5I m vw vh vr vl l w1 hfx ((hm.1.below B).mono B.size) ((hl.below B).mono B.size)
 have mk:=fun w1 (B:Below w.heap.size w w1) h=>Z5b m vw vh vr vl l w1 ((hm.below B).mono B.size) ((hl.below B).mono B.size) h
 have fk:=fun w1 (B:Below w.heap.size w w1)=>Z0X m vw vh vr vl l w1 ((hm.below B).mono B.size) ((hl.below B).mono B.size)
 have fo:=fun (i:Nat) r w1 (B:Below w.heap.size w w1) hi hr=>Z9C vo lo i r w1 ((hlo.below B).mono B.size) hi hr
 have fg:=fun (i j:Nat) w1 (B:Below w.heap.size w w1)=>Z1U m vw vh vr i j w1 ((hm.below B).mono B.size)
 have fal:=fun vc c px py qx qy n w1 (B:Below w.heap.size w w1) hc hn hn2 hr h1 h2 h3 h4 hin=>Z6I m vw vh vr vc c px py qx qy n w1 ((hm.below B).mono B.size) hc hn hn2 hr h1 h2 h3 h4 hin
 have fh:=fun s w1 (B:Below w.heap.size w w1)=>Z8q vl l s w1 ((hl.below B).mono B.size)
 have frt:=fun k w1 (B:Below w.heap.size w w1) hV hk=>Z3q m vw vh vr k w1 ((hm.below B).mono B.size) hV hk
 have fph:=fun k w1 (B:Below w.heap.size w w1) hV hk=>Z1p m vw vh vr k w1 ((hm.below B).mono B.size) hV hk
 have fhm:=fun x w1 (B:Below w.heap.size w w1)=>Z3O vh m.home x w1 ((hm.below B).mono B.size).2.1
 obtain⟨⟨hm1,a1,cw1,rfl,hcw⟩,⟨-,a2,cw2,rfl,-⟩,⟨-,a3,cw3,rfl,-⟩⟩:=hm;obtain⟨-,al,cl,rfl,-⟩:=hl;obtain⟨-,ao,co,rfl,-⟩:=hlo;have HCW:=qH hcw;clear hm1 hcw hu0 hs0;unfold Zc at *;replace ff:=qH ff;replace fv:=qH fv;replace fs:=qH fs;replace mk:=qH mk;replace fk:=qH fk;replace fo:=qH fo;replace fg:=qH fg;replace fal:=qH fal;replace fh:=qH fh;replace frt:=qH frt;replace fph:=qH fph;replace fhm:=qH fhm;have S:=qH (qK w.heap.size w);go_enter Tryz.func4,Tryz.ntmps4;go_upto_region 1 with fail
 generalize hXX0:World.alloc w _=X0;obtain⟨q0,A,hzX0⟩:=box1 hXX0;clear hXX0;have S:=qH A;clear A;have MB:=qH q0;clear q0 hzX0;go_wp2_with fail;refine (hd.out X0).mono ?_;rintro e w41 ⟨rfl,b41⟩;replace S:=zAd S b41;have d:=qH b41;clear b41;obtain⟨c0,c1,c2,c3,c4,c5,c6,c7,c8,c9,I⟩:=Zh (m:=m) (zCj MB d);go_wp2_with fail;refine (ff.out _ S.out).mono ?_;rintro e w42 ⟨rfl,b42⟩;replace S:=zAd S b42;replace d:=zAd d b42;clear b42 c0 c1 c2 c3 c4 c5 c6 c7 c8 c9 I;obtain⟨c0,c1,c2,c3,c4,c5,c6,c7,c8,c9,I⟩:=Zh (m:=m) (zCj MB d);cases hfew:fewB m
 ·skip
  go_wp2;go_ret;exact⟨rfl,S.out⟩
 have h8:m.ways.length<=8:=ZbV hfew;have hr100:m.rocks.length<=100:=by simp only [fewB,Bool.and_eq_true,decide_eq_true_eq] at hfew;omega
 clear hfew;go_wp2_with fail;refine (fv.out _ S.out).mono ?_;rintro e w43 ⟨rfl,b43⟩;replace S:=zAd S b43;replace d:=zAd d b43;clear b43 c0 c1 c2 c3 c4 c5 c6 c7 c8 c9 I;obtain⟨c0,c1,c2,c3,c4,c5,c6,c7,c8,c9,I⟩:=Zh (m:=m) (zCj MB d);cases hV:validB m
 ·skip
  go_wp2;go_ret;exact⟨rfl,S.out⟩
 have V:=(Zm m).1 hV;have n2:=V.n2;by_cases h60:60<l.length
 ·skip
  have d60:decide ((l.length:Int)>60)=true:=by rw [decide_eq_true_eq];omega
  go_wp2;go_ret;exact⟨rfl,S.out⟩
 have d60:decide ((l.length:Int)>60)=false:=by rw [decide_eq_false_iff_not];omega
 have n60:¬ ((l.length:Int)>60):=by omega
 have gs:=qH (fun w1 B=>fs.out w1 B (fun k hk=>(ZP (Z0b V.ways hk)).2.2.2.2.1))
 clear fs;go_wp2_with fail;refine (gs.out _ S.out).mono ?_;rintro e w44 ⟨rfl,b44⟩;replace S:=zAd S b44;replace d:=zAd d b44;clear b44 c0 c1 c2 c3 c4 c5 c6 c7 c8 c9 I;obtain⟨c0,c1,c2,c3,c4,c5,c6,c7,c8,c9,I⟩:=Zh (m:=m) (zCj MB d);cases H:stopsB m l
 ·skip
  go_wp2;go_ret;exact⟨rfl,S.out⟩
 have hok:radOkB m l=true:=by unfold radOkB;rw [hV,H];rfl
 have hmd:=Zbh hok;have hke:=(kp_of hok).2.2;have g4:=fun w1 B=>mk.out w1 B (by omega)
 have g5:=fk.out;obtain⟨fl,hfl⟩:∃ f,kpL m l=f:=⟨_,rfl⟩;obtain⟨fq,hfq⟩:∃ f,kpK m l=f:=⟨_,rfl⟩;obtain⟨em,hem⟩:∃ f,mkE m l=f:=⟨_,rfl⟩;obtain⟨nl,hnl⟩:∃ n,(m.ways.length:Int)-1=n:=⟨_,rfl⟩;have jw:qW qL ((m.ways.length:Int)-1)=nl:=by rw [<- hnl];exact zW2
 rw [hfl,hfq,hke] at g5;rw [hem] at g4;rw [hfl,hem,hnl] at hmd;replace g4:=qH g4;replace g5:=qH g5;obtain⟨bb,t1,t2,t3⟩:∃ bb:Bool,(em == 0)=bb/\(fl == nl)=bb/\(bb != bb)=false:=by
  rcases hmd with⟨h1,h2⟩ | ⟨h1,h2⟩
  ·exact⟨true,by simpa using h1,by simpa using h2,rfl⟩
  ·exact⟨false,by simpa using h1,by simpa using h2,rfl⟩
 have HEM:=qH hem;clear hmd hke hfl hfq hem fk mk hok H hnl;go_wp2_with fail;refine (g4.out _ S.out).mono ?_;rintro e w45 ⟨vs,vp,ve,rfl,p4,b45⟩;replace S:=zAd S b45;replace d:=zAd d b45;clear b45;have CC:=qH p4;clear p4 g4;obtain⟨ea1,en1,ec1,ea2,en2,ec2,ea3,en3,ec3,rfl,rfl,rfl⟩:=ZaL CC.out;clear c0 c1 c2 c3 c4 c5 c6 c7 c8 c9 I;go_upto_region 5 with fail
 generalize hXX4:World.alloc w45 _=X4;obtain⟨q0,A,hzX4⟩:=box1 hXX4;clear hXX4;replace S:=zAd S A;replace d:=zAd d A;have R:=qH A;clear A;have CB:=qH q0;clear q0 hzX4;obtain⟨c0,c1,c2,c3,c4,c5,c6,c7,c8,c9,I⟩:=Zh (m:=m) (zCj MB d);go_wp2_with fail;refine (g5.out _ S.out).mono ?_;rintro e w46 ⟨rfl,b46⟩;replace S:=zAd S b46;replace d:=zAd d b46;replace R:=zAd R b46;have B_X4:=qH b46;clear b46 g5 c0 c1 c2 c3 c4 c5 c6 c7 c8 c9 I;obtain⟨c0,c1,c2,c3,c4,c5,c6,c7,c8,c9,I⟩:=Zh (m:=m) (zCj MB d);by_cases e0:em=0;rotate_left
 ·skip
  have t4:(em != 0)=true:=by simpa using e0
  go_wp2;go_ret;exact⟨rfl,S.out⟩
 have t4:(em != 0)=false:=by simpa using e0
 subst e0;obtain rfl:true=bb:=t1;have hE:=HEM.out;obtain⟨n1,hn1⟩:∃ n,m.ways.length-1=n:=⟨_,rfl⟩;have hnl:nl=(n1:Int):=by
  have:=jw;rw [show (m.ways.length:Int)-1=(n1:Int) by omega,IntWalk.i64_in (n1:Int) (by omega)] at this
  exact this.symm
 subst hnl;obtain⟨-,⟨-,pa,pk,hvp,hpc⟩,⟨-,ra9,rk9,hvr,hrc⟩⟩:=CC.out;have ep:(mkC m l).psg=upto (mkP m l) n1:=by rw [Z2R hE,hn1]
 have er:(mkC m l).ret=upto (mkR m) n1:=by rw [Z2R hE,hn1]
 have epl:(mkC m l).psg.length=n1:=by rw [ep,Zq]
 have erl:(mkC m l).ret.length=n1:=by rw [er,Zq]
 rw [epl] at hvp hpc;rw [erl] at hvr hrc;simp only [Value.slice.injEq] at hvp hvr;obtain⟨h1,h2,h3⟩:=hvp;subst h1 h3;obtain rfl:n1=en2:=h2.symm;obtain⟨h1,h2,h3⟩:=hvr;subst h1 h3;obtain rfl:n1=en3:=h2.symm;obtain⟨pb,po,rfl,hpb,hpc2⟩:=hpc.resolve_left (by intro h;rw [h] at epl;simp at epl;omega)
 clear hpc;obtain⟨rb,ro,rfl,hrb,hrc2⟩:=hrc.resolve_left (by intro h;rw [h] at erl;simp at erl;omega)
 clear hrc;have ae:Hid (pb<w45.heap.size/\∀ j,j<n1->PsgAt w45.heap.size w45 pb (po+j*5) (mkP m l j)):=⟨hpb,fun j hj=>by have h:=hpc2 j hj;rw [ep,Z18 _ hj] at h;exact h⟩
 have HRC:Hid (rb<w45.heap.size/\∀ j,j<n1->w45.cell? ⟨rb,ro+j,none⟩=some (O qL (mkR m j))):=⟨hrb,fun j hj=>by have h:=hrc2 j hj;rw [er,Z3R _ hj] at h;exact h⟩
 clear hpb hrb hpc2 hrc2 ep er epl erl CC;obtain⟨ww,ow,rfl,hww,hcw⟩:=HCW.out.resolve_left (by intro h;rw [h] at n2;simp at n2)
 have HW:=qH (qI hww hcw);clear HCW hww hcw;obtain⟨r9,hr9,hrl,-⟩:=Z9S (i:=tu) (n:=n1) (by omega)
 obtain⟨s9,hs9,hsl,-⟩:=Z9S (i:=st) (n:=12) (by omega)
 obtain⟨en,hen⟩:∃ n,1+r9=n:=⟨_,rfl⟩;obtain⟨sn,hsn⟩:∃ n,1+s9=n:=⟨_,rfl⟩;have j1:qW qL (1+(r9:Int))=(en:Int):=by rw [show 1+(r9:Int)=(en:Int) by omega];exact zW2
 have j2:qW qL (1+(s9:Int))=(sn:Int):=by rw [show 1+(s9:Int)=(sn:Int) by omega];exact zW2
 have j3:qW qL (r9:Int)=(r9:Int):=zW2;have j4:qW qL (s9:Int)=(s9:Int):=zW2;have dz:((n1:Int) == 0)=false:=by rw [beq_eq_false_iff_ne];omega
 have nz:¬ ((n1:Int)=0):=by omega
 have hs9':((st:Nat):Int).tmod 12=(s9:Int):=hs9;have dn:((n1:Int) != (n1:Int))=false:=by simp
 clear c0 c1 c2 c3 c4 c5 c6 c7 c8 c9 I;obtain⟨c0,c1,c2,c3,c4,c5,c6,c7,c8,c9,I⟩:=Zh (m:=m) (zCj MB d);have hk:=(zCj CB B_X4);have k0':=cX 0 hk rfl;have k1':=cX 1 hk rfl;have k2':=cX 2 hk rfl;have hst0:=V.start;go_wp2_with fail;refine (fo.out 0 m.start w46 S.out (by omega) (by omega)).mono ?_
 rintro e t ⟨x0,y0,rfl,b47,hw0⟩;replace S:=zAd S b47;replace d:=zAd d b47;replace R:=zAd R b47;replace B_X4:=zAd B_X4 b47;clear b47;have HW0:=qH hw0;clear hw0 c0 c1 c2 c3 c4 c5 c6 c7 c8 c9 I hk k0' k1' k2';have hMB:=(zCj MB d);have hCB:=(zCj CB B_X4);have ltB:w.heap.size<t.heap.size:=hMB.lt;have ltC:=hCB.lt;have MBl:=qH hMB;have CBl:=qH hCB;clear hMB hCB;have BWl:=qH S.out;have BMl:=qH R.out;go_upto_region 14 with fail
 generalize hXX13:World.alloc t _=X13;obtain⟨q0,A,hzX13⟩:=box1 hXX13;clear hXX13;replace S:=zAd S A;replace d:=zAd d A;replace R:=zAd R A;replace B_X4:=zAd B_X4 A;have B_w47:=qH A;clear A;have OB:=qH q0;clear q0 hzX13;have hOB:=OB.out;have B13:=B_w47.out;go_wp2;have hen1:1<=en:=by omega
 have hen2:en<=n1:=by omega
 have hsn1:0<sn:=by omega
 have hsn2:sn<=12:=by omega
 have hlen:m.ways.length<=n1+1:=by omega
 have hlen2:n1+1<=m.ways.length:=by omega
 clear hn1 hr9 hrl hs9 hsl hen hsn j1 j2 j3 j4 dz nz hs9' dn t2 t4 d60 n60 h60 jw
 go_loopw [11,20] (fun up i wr=>∃ j:Nat,j<=en/\up=.bool true/\i=O qL (j:Int)/\∃ x y:Int,Has wr t.heap.size #[O qL x,O qL y] 36/\wn x y (offR m l en j)/\Below t.heap.size t wr) (fun _ i _=>en-(intOf i).toNat)
 case atStart=>exact⟨0,by omega,rfl,rfl,x0,y0,hOB,by unfold offR;rw [if_pos (by omega)];exact HW0.out,B13⟩
 case round =>
  obtain⟨j,hj,rfl,rfl,ox,oy,L,af,hB⟩:=hrel;obtain⟨wo,hwo⟩:∃ x,x=wr:=⟨_,rfl⟩;subst hwo;have BB:=qH hB;have OO:=qH L;clear hB L;have o:=qH (BWl.out.trans (BB.out.mono BWl.out.size));have G:=qH (BMl.out.trans (BB.out.mono BMl.out.size));have MBo:=MBl.out.below BB.out MBl.out.lt;have CBo:=CBl.out.below BB.out CBl.out.lt;by_cases hje:j<en
  ·skip
   as_aux_lemma =>
    have MBo:=qH MBo;have CBo:=qH CBo;have M:=qH (qK wo.heap.size wo);have hwo:wn ox oy (rdA m l j):=by unfold offR at af;rwa [if_pos hje] at af
    obtain⟨K,hK⟩:∃ K,j+1=K:=⟨_,rfl⟩;have jK:qW qL ((j:Int)+1)=(K:Int):=by rw [show (j:Int)+1=(K:Int) by omega];exact zW2
    have J:j+1<m.ways.length:=by omega
    have r1:=rd_le V l (k:=j) (by omega)
    have r2:=rd_le V l (k:=j+1) J;have hgb:=Zbk (l:=l) V J;have ob:=wn_bd r1.2.2.1 hwo;have ag:=fun gx gy h=>Z9m (ox:=ox) (oy:=oy) (gx:=gx) (gy:=gy) V J hwo h
    have hway:=fun nx ny n s (z:Pt) h2 hn hs ex ey=>Zbj hE J (ox:=ox) (oy:=oy) (nx:=nx) (ny:=ny) hwo h2 (n:=n) (s:=s) hn hs (z:=z) ex ey
    have hgv:=(Z7o hE J).2.1;obtain⟨u,hu,hup,q1,q2,q3,q4⟩:=ae.out.2 j (by omega)
    have q0':=cY G.out hu ae.out.1;replace q1:=cY G.out q1 ae.out.1;replace q2:=cY G.out q2 ae.out.1;replace q3:=cY G.out q3 ae.out.1;replace q4:=cY G.out q4 ae.out.1;have hcor:=(hup.below G.out).mono G.out.size;obtain⟨x1,x2,-⟩:=HW.out.2 j (by omega)
    obtain⟨x3,x4,x5,-⟩:=HW.out.2 (j+1) J;have gleg:=fg.out j (j+1);rw [Z1T hV (by omega) J] at gleg
    have hcor':Z7 wo.heap.size wo u (mkP m l j).cor:=hcor;have ac1:(atW m j).x=(wy m.ways j).x:=rfl;have ac2:(atW m j).y=(wy m.ways j).y:=rfl;have ac3:(atW m (j+1)).x=(wy m.ways (j+1)).x:=rfl;have ac4:(atW m (j+1)).y=(wy m.ways (j+1)).y:=rfl;have w1b:=Z0U V (k:=j) (by omega)
    have w2b:=Z0U V (k:=j+1) J;rw [ac1,ac2] at w1b hway;rw [ac3,ac4] at w2b hway;have smin:=fun x y h1 h2=>Zbl (m:=m) (l:=l) (k:=j) (x:=x) (y:=y) h1 h2
    have hfx:=(ZP (Z0b V.ways J)).2.2.2.2;have A:∀ x y,wn x y (rdB m l (j+1))->(((j+1:Nat):Int) ∉ l\/¬ j+1<en\/wn x y (wy m.ways (j+1)).fix)->wn x y (offR m l en (j+1)):=fun x y h1 h2=>by
     unfold offR
     split
     ·rename_i h3
      rcases h2 with h | h | h
      ·rw [Z0R,if_neg h];exact h1
      ·exact absurd h3 h
      ·exact smin x y h1 h
     ·rename_i h3
      rw [show en=j+1 by omega];exact h1
    have ef:(mkP m l j).fr=rdA m l j:=rfl;have et:(mkP m l j).tw=rdB m l (j+1):=rfl;have hmn:∀ a b:Int,0<=a->0<=b->min a b<=a/\min a b<=b/\0<=min a b:=fun a b h1 h2=>by omega
    rw [ef] at q1;rw [et] at q2;simp only [hK] at x3 x4 x5 gleg r2 hgb ag hway w2b A hfx q2 smin;clear hup hu hcor ac1 ac2 ac3 ac4 ef et af;generalize (mkP m l j).cor=cor at *;generalize (mkP m l j).tm=ptm at *;generalize (mkP m l j).en=pen at *;generalize rdA m l j=ra at *;generalize rdB m l K=rb' at *;generalize gLeg m j K=gg at *;generalize dLeg m j K=dd at *;generalize tLeg m j K=tt at *;generalize (wy m.ways j).x=ax at *;generalize (wy m.ways j).y=ay at *;generalize (wy m.ways K).x=bx at *;generalize (wy m.ways K).y=by' at *
    generalize (wy m.ways K).fix=fx at *;replace x1:=cY o.out x1 HW.out.1;replace x2:=cY o.out x2 HW.out.1;replace x3:=cY o.out x3 HW.out.1;replace x4:=cY o.out x4 HW.out.1;have XF5:=qH x5;have XF:=qH (qI x1 (qI x2 (qI x3 x4)));have HCOR:=qH hcor';obtain⟨-,ua,uc,rfl,-⟩:=hcor';have d1:decide ((j:Int)<(en:Int))=true:=by rw [decide_eq_true_eq];omega
    have hj0:(0:Int)<=(j:Int):=by omega
    have hj1:(j:Int)<(n1:Int):=by omega
    have hjL:(j:Int)<m.ways.length:=by omega
    have hK0:(0:Int)<=(K:Int):=by omega
    have hKL:(K:Int)<m.ways.length:=by omega
    have HN:=qH (qI ag (qI hway (qI A (qI hmn (qI hwo hgv)))));replace gleg:=qH gleg;clear ag hway A hmn hgv x1 x2 x3 x4 x5 smin;have cb1:=cX 1 CBo.out rfl;go_upto_region 18 with fail
    generalize hXX17:World.alloc wo _=X17;obtain⟨q0,A,hzX17⟩:=box1 hXX17;clear hXX17;have M:=qH A;replace o:=zAd o A;replace G:=zAd G A;clear A;have PB:=qH q0;clear q0 hzX17 cb1 q0' q1 q2 q3 q4;obtain⟨c0,c1,c2,c3,c4,c5,c6,c7,c8,c9,I⟩:=Zh (m:=m) (zCj MBo M);go_wp2_with fail;refine (gleg.out X17 o.out).mono ?_;rintro e w48 ⟨rfl,b48⟩;replace M:=zAd M b48;replace o:=zAd o b48;replace G:=zAd G b48;have D:=qH b48;clear b48 gleg c0 c1 c2 c3 c4 c5 c6 c7 c8 c9 I;have L:=(zCj OO M);have e0:=cX 0 L rfl;have e1:=cX 1 L rfl;have pp:=(zCj PB D);have pp1:=cX 1 pp rfl;clear L pp;have gw:=fun w1=>Z1n ox oy ra w1 (by omega) (by omega) (by omega)
    rw [decide_eq_true hwo] at gw;replace gw:=qH gw;go_wp2_with fail;refine (gw.out w48).mono ?_;rintro e w49 ⟨rfl,b49⟩;replace M:=zAd M b49;replace o:=zAd o b49;replace G:=zAd G b49;replace D:=zAd D b49;clear b49 gw e0 e1 pp1;have L:=(zCj OO M);have e0:=cX 0 L rfl;have e1:=cX 1 L rfl;have Q:=fun w1 B=>fo.out K gg w1 B (by omega) (by omega)
    replace Q:=qH Q;have lo1:=qO _ _ e0;clear L;go_upto_region 21 with fail
    go_cut [26] from 122 to 225 (fun b1 wx=>∃ (x:Nat) (gx gy:Int),b1=.pointer (some ⟨x,0,none⟩)/\w49.heap.size<=x/\Has wx x #[O qL (ox+gx),O qL (oy+gy)] 36/\Below w49.heap.size w49 wx/\wn gx gy gg)
    case first =>
     refine (wpIn_wide (n:=9)).1 ?_;refine Zi (Zk _) 8 (fun X=>Below w49.heap.size w49 X) (by kernel_rfl) (by kernel_rfl) (by kernel_rfl) fun hH inv0=>?_
     refine sk hH 0 (.agg #[O qL ox,O qL oy]) (Zd rfl) inv0 (fun X hX=>?_) fun ad=>?_
     ·have r0:=cY hX e0 lo1;have r1:=cY hX e1 lo1;go_simp
     simp only [pT];clear inv0;refine sk hH 1 (.slice ao lo.length (lo.length+co)) (Zd rfl) ad (fun X hX=>?_) fun aa=>?_
     ·go_simp
     simp only [pT];clear ad;refine sk hH 2 (O qL (j:Int)) (Zd rfl) aa (fun X hX=>?_) fun ab=>?_
     ·go_simp
     simp only [pT];clear aa;refine sk hH 3 (O qL (K:Int)) (Zd rfl) ab (fun X hX=>?_) fun ac=>?_
     ·go_simp
     simp only [pT];clear ab;refine sk hH 4 (O qL gg) (Zd rfl) ac (fun X hX=>?_) fun inv5=>?_
     ·go_simp
     simp only [pT];clear ac inv5 hH;have H:Below w49.heap.size w49 w49.drew:=Below.drew (qK _ _);have hz0:=H.size;generalize w49.drew=X0 at *;refine Zw (rs:=[5,7]) (by kernel_rfl) (by simp) H (by simp) (fun i hi'=>?_)
     simp only [List.mem_cons,List.not_mem_nil,or_false] at hi';rcases hi' with rfl | rfl
     ·skip
      refine Zo (Zd rfl) rfl (f:=19) (args:=#[.slice ao lo.length (lo.length+co),O qL (K:Int),O qL gg]) (by go_simp) (Q.out X0 (o.out.trans (H.mono o.out.size))) ?_
      rintro e X1 ⟨gx,gy,rfl,b,T⟩;refine⟨_,rfl,?_⟩;simp only [pT];replace H:=H.trans (b.mono H.size);have hz1:=b.size;clear b;refine Zw (rs:=[6,7]) (by kernel_rfl) (by simp) H (by simp) (fun i hi'=>?_)
      simp only [List.mem_cons,List.not_mem_nil,or_false] at hi';rcases hi' with rfl | rfl
      ·skip
       refine Zo (Zd rfl) rfl (f:=22) (args:=#[.agg #[O qL ox,O qL oy],.agg #[O qL gx,O qL gy]]) (by go_simp) (Z0F ox oy gx gy X1 (by omega) (by omega) (by have q:=wn_bd hgb.1 T;omega) (by have q:=wn_bd hgb.1 T;omega)) ?_
       rintro e X2 ⟨rfl,b⟩;refine⟨_,rfl,?_⟩;simp only [pT];replace H:=H.trans (b.mono H.size);have hz2:=b.size;clear b;refine sa1 (r:=7) H ?_;refine ZC (Zd rfl) rfl (v:=.pointer (some ⟨X2.heap.size,0,none⟩)) (w':=X2.alloc (.cells #[O qL 0,O qL 0] 36)) (by go_simp) ?_
       simp only [pT];have A:=Has.new X2 #[O qL 0,O qL 0] 36;replace H:=H.alloc (by omega) (.cells #[O qL 0,O qL 0] 36)
       have hz3:X2.heap.size<(X2.alloc (.cells #[O qL 0,O qL 0] 36)).heap.size:=by simp
       generalize X2.alloc (.cells #[O qL 0,O qL 0] 36)=X3 at *;refine Zj (by kernel_rfl) H ?_
       simp only [List.drop_succ_cons,List.drop_zero];refine ZF rfl rfl (g:=X2.heap.size) (cells:=#[O qL (ox+gx),O qL (oy+gy)]) rfl rfl A (by kernel_rfl) rfl (by simp [Value.oneCell']) ?_
       have hP:=Has.put (cells:=#[O qL (ox+gx),O qL (oy+gy)]) A;have hT:=Below.setRow H (C:=X2.heap.size) (by omega) #[O qL (ox+gx),O qL (oy+gy)]
       generalize X3.setRow X2.heap.size #[O qL (ox+gx),O qL (oy+gy)]=X4 at *;gi_wp2;go_meet;exact⟨_,gx,gy,rfl,by omega,hP,hT,by assumption⟩
      ·skip
       refine ZC (Zd rfl) rfl (v:=.pointer (some ⟨X1.heap.size,0,none⟩)) (w':=X1.alloc (.cells #[O qL 0,O qL 0] 36)) (by go_simp) ?_
       simp only [pT];have A:=Has.new X1 #[O qL 0,O qL 0] 36;replace H:=H.alloc (by omega) (.cells #[O qL 0,O qL 0] 36)
       have hz2:X1.heap.size<(X1.alloc (.cells #[O qL 0,O qL 0] 36)).heap.size:=by simp
       generalize X1.alloc (.cells #[O qL 0,O qL 0] 36)=X2 at *;refine sa1 (r:=6) H ?_;refine Zo (Zd rfl) rfl (f:=22) (args:=#[.agg #[O qL ox,O qL oy],.agg #[O qL gx,O qL gy]]) (by go_simp) (Z0F ox oy gx gy X2 (by omega) (by omega) (by have q:=wn_bd hgb.1 T;omega) (by have q:=wn_bd hgb.1 T;omega)) ?_
       rintro e X3 ⟨rfl,b⟩;refine⟨_,rfl,?_⟩;simp only [pT];replace H:=H.trans (b.mono H.size);have hz3:=b.size;replace A:=A.below b A.lt;clear b;refine Zj (by kernel_rfl) H ?_
       simp only [List.drop_succ_cons,List.drop_zero];refine ZF rfl rfl (g:=X1.heap.size) (cells:=#[O qL (ox+gx),O qL (oy+gy)]) rfl rfl A (by kernel_rfl) rfl (by simp [Value.oneCell']) ?_
       have hP:=Has.put (cells:=#[O qL (ox+gx),O qL (oy+gy)]) A;have hT:=Below.setRow H (C:=X1.heap.size) (by omega) #[O qL (ox+gx),O qL (oy+gy)]
       generalize X3.setRow X1.heap.size #[O qL (ox+gx),O qL (oy+gy)]=X4 at *;gi_wp2;go_meet;exact⟨_,gx,gy,rfl,by omega,hP,hT,by assumption⟩
     ·skip
      refine ZC (Zd rfl) rfl (v:=.pointer (some ⟨X0.heap.size,0,none⟩)) (w':=X0.alloc (.cells #[O qL 0,O qL 0] 36)) (by go_simp) ?_
      simp only [pT];have A:=Has.new X0 #[O qL 0,O qL 0] 36;replace H:=H.alloc (by omega) (.cells #[O qL 0,O qL 0] 36)
      have hz1:X0.heap.size<(X0.alloc (.cells #[O qL 0,O qL 0] 36)).heap.size:=by simp
      generalize X0.alloc (.cells #[O qL 0,O qL 0] 36)=X1 at *;refine sa1 (r:=5) H ?_;refine Zo (Zd rfl) rfl (f:=19) (args:=#[.slice ao lo.length (lo.length+co),O qL (K:Int),O qL gg]) (by go_simp) (Q.out X1 (o.out.trans (H.mono o.out.size))) ?_
      rintro e X2 ⟨gx,gy,rfl,b,T⟩;refine⟨_,rfl,?_⟩;simp only [pT];replace H:=H.trans (b.mono H.size);have hz2:=b.size;replace A:=A.below b A.lt;clear b;refine sa1 (r:=6) H ?_;refine Zo (Zd rfl) rfl (f:=22) (args:=#[.agg #[O qL ox,O qL oy],.agg #[O qL gx,O qL gy]]) (by go_simp) (Z0F ox oy gx gy X2 (by omega) (by omega) (by have q:=wn_bd hgb.1 T;omega) (by have q:=wn_bd hgb.1 T;omega)) ?_
      rintro e X3 ⟨rfl,b⟩;refine⟨_,rfl,?_⟩;simp only [pT];replace H:=H.trans (b.mono H.size);have hz3:=b.size;replace A:=A.below b A.lt;clear b;refine Zj (by kernel_rfl) H ?_
      simp only [List.drop_succ_cons,List.drop_zero];refine ZF rfl rfl (g:=X0.heap.size) (cells:=#[O qL (ox+gx),O qL (oy+gy)]) rfl rfl A (by kernel_rfl) rfl (by simp [Value.oneCell']) ?_
      have hP:=Has.put (cells:=#[O qL (ox+gx),O qL (oy+gy)]) A;have hT:=Below.setRow H (C:=X0.heap.size) (by omega) #[O qL (ox+gx),O qL (oy+gy)]
      generalize X3.setRow X0.heap.size #[O qL (ox+gx),O qL (oy+gy)]=X4 at *;gi_wp2;go_meet;exact⟨_,gx,gy,rfl,by omega,hP,hT,by assumption⟩
    case rest =>
     obtain⟨nb,gx,gy,rfl,hbx,HX0,hC,hpr⟩:=hcut;replace M:=zAd M hC;replace o:=zAd o hC;replace G:=zAd G hC;replace D:=zAd D hC;clear hC;have NB:=qH HX0;clear HX0 e0 e1 lo1 Q hbx;have hgx:=wn_bd hgb.1 hpr;have hn3:=HN.out.1 gx gy hpr;obtain⟨nx,ag⟩:∃ x,ox+gx=x:=⟨_,rfl⟩;obtain⟨ny,hny⟩:∃ x,oy+gy=x:=⟨_,rfl⟩;rw [ag,hny] at hn3;have bnx:-200000<=nx/\nx<=200000:=by omega
     have bny:-200000<=ny/\ny<=200000:=by omega
     simp only [ag,hny] at NB;clear ag hny hpr hgx;have gW:=fun w1=>Z1n nx ny rb' w1 (by omega) (by omega) (by omega)
     rw [decide_eq_true hn3] at gW;have gS1:=fun w1=>Z0F ax ay ox oy w1 (by omega) (by omega) (by omega) (by omega)
     have gS2:=fun w1=>Z0F bx by' nx ny w1 (by omega) (by omega) (by omega) (by omega)
     have hcor9:=(HCOR.out.below M.out).mono M.out.size;have gA:=fun w1 (B:Low wc w1)=>fal.out _ cor (ax+ox) (ay+oy) (bx+nx) (by'+ny) sn w1 (o.out.trans (B.out.mono o.out.size)) ((hcor9.below B.out).mono B.out.size) hsn1 hsn2 hr100 (by omega) (by omega) (by omega) (by omega) (fun s z hs ex ey=>by
      obtain⟨p1,p2,p3⟩:=HN.out.2.1 nx ny sn s z hn3 hsn1 hs ex ey;exact⟨⟨p2,Z5k HN.out.2.2.2.2.2 p1⟩,fun k hk=>⟨(p3 k hk).1,Z5k (p3 k hk).2 p1⟩⟩)
     replace gW:=qH gW;replace gS1:=qH gS1;replace gS2:=qH gS2;replace gA:=qH gA;have mb:=(zCj MBo M);have q0:=Low.fact (cX 0 mb rfl);have q1:=Low.fact (cX 1 mb rfl);have q2:=Low.fact (cX 2 mb rfl);have q3:=Low.fact (cX 3 mb rfl);have q4:=Low.fact (cX 4 mb rfl);have q5:=Low.fact (cX 5 mb rfl);have q6:=Low.fact (cX 6 mb rfl);have q7:=Low.fact (cX 7 mb rfl);have q8:=Low.fact (cX 8 mb rfl);have q9:=Low.fact (cX 9 mb rfl);have q10:=Low.fact (cX 10 mb rfl);have hNB:=NB.out;have f0:=Low.fact (cX 0 hNB rfl);have f1:=Low.fact (cX 1 hNB rfl);have hPB:=(zCj PB D);have p0:=Low.fact (cX 0 hPB rfl);have p2:=Low.fact (cX 2 hPB rfl);have L:=(zCj OO M);have e0:=Low.fact (cX 0 L rfl);have e1:=Low.fact (cX 1 L rfl);have x1:=Low.fact ((M.out.cell (qO _ _ XF.out.1)).trans XF.out.1);have x2:=Low.fact ((M.out.cell (qO _ _ XF.out.2.1)).trans XF.out.2.1);have x3:=Low.fact ((M.out.cell (qO _ _ XF.out.2.2.1)).trans XF.out.2.2.1);have x4:=Low.fact ((M.out.cell (qO _ _ XF.out.2.2.2)).trans XF.out.2.2.2);clear mb hNB hPB L hcor9;go_upto_region 22 with fail
     (refine Zg (by kernel_rfl) (by kernel_rfl) ?_;(iterate 32 (apply qw3;(case hw=>rfl);(case hval=>(intro w1 hw1 hcx;simp only [Oper.quietAt];go_simp;first | done | (first | (go_at_call 21;exact Low.calls hw1 (gW.out _)) | (go_at_call 22;with_reducible exact (Low.calls hw1 (gS1.out _))) | (go_at_call 22;with_reducible exact (Low.calls hw1 (gS2.out _))) | (go_at_call 23;exact Low.calls hw1 (gA.out _ hw1))) | rfl | exact⟨rfl,rfl⟩));simp only [pT]));refine wpQuiet_nil ?_;intro w2 hw2)
     obtain⟨wa,hwa⟩:∃ x,x=w2:=⟨_,rfl⟩;subst hwa;have P:Below wc.heap.size wc wa:=hw2.out;clear hw2 gW gS1 gS2 gA f0 f1 p0 p2 e0 e1 x1 x2 x3 x4 q0 q1 q2 q3 q4 q5 q6 q7 q8 q9 q10;replace M:=zAd M P;replace o:=zAd o P;replace G:=zAd G P;replace D:=zAd D P;have B_wc:=qH P;clear P;have L:=(zCj OO M);have hN:=(zCj NB B_wc);have f0:=cX 0 hN rfl;have f1:=cX 1 hN rfl;have q0:=cX 0 L rfl;have q1:=cX 1 L rfl;have z0:=Ze L 0;have z1:=Ze L 1;have O9:=qH L;have P9:=qH (zCj PB D);have szB:=qH M.out.size;have BBc:=qH (BB.out.trans (M.out.mono BB.out.size));have ltP:=qH (show t.heap.size<wo.heap.size from OO.out.lt)
     clear L hN;go_upto_region 24 with fail
     clear f0 f1 q0 q1 z0 z1;generalize hZ:World.setCell (World.setCell wa _ _) _ _=Z;obtain⟨HZ,hl2,hs2,he2⟩:=set2w O9.out rfl hZ;clear hZ;have OZ:=qH HZ;have BBZ:=qH (BBc.out.trans (hl2 t.heap.size (Nat.le_refl _)));have PZ:=qH (P9.out.eq he2 (by have:=ltP.out;omega))
     clear HZ hl2 hs2 he2 O9 P9 szB BBc OO PB NB M G o XF D B_wc;have BZZ:=qH (qK Z.heap.size Z);have BWZ:=qH (BWl.out.trans (BBZ.out.mono BWl.out.size));have MBZ:=qH (zCj MBl BBZ);have x5:=cY BWZ.out XF5.out HW.out.1;have gH:=fun w1 (B:Low Z w1)=>fh.out (K:Int) w1 (BWZ.out.trans (B.out.mono BWZ.out.size))
     have gf:=fun w1=>Z1n nx ny fx w1 (by omega) (by omega) (by omega)
     have L:=OZ.out;have hM:=MBZ.out;have e0:=Low.fact (cX 0 L rfl);have e1:=Low.fact (cX 1 L rfl);have m0:=Low.fact (cX 0 hM rfl);have x5':=Low.fact x5;clear L hM x5;have dfx:0<=fx:=hfx.1;by_cases hmem:(K:Int) ∈ l;rotate_left
     ·skip
      as_aux_lemma =>
       rw [decide_eq_false hmem] at gH;replace gH:=qH gH;replace gf:=qH gf
       (refine Zg (by kernel_rfl) (by kernel_rfl) ?_;(iterate 5 (apply qw3;(case hw=>rfl);(case hval=>(intro w1 hw1 hcx;simp only [Oper.quietAt];go_simp;first | done | (first | (go_at_call 24;exact Low.calls hw1 (gH.out _ hw1))) | rfl | exact⟨rfl,rfl⟩));simp only [pT]));(iterate 4 (apply Zr;(case hw=>rfl);simp only [pT]));(iterate 2 (apply qw3;(case hw=>rfl);(case hval=>(intro w1 hw1 hcx;simp only [Oper.quietAt];go_simp;first | done | (first | (go_at_call 24;exact Low.calls hw1 (gH.out _ hw1))) | rfl | exact⟨rfl,rfl⟩));simp only [pT]));(iterate 10 (apply Zr;(case hw=>rfl);simp only [pT]));(iterate 1 (apply qw3;(case hw=>rfl);(case hval=>(intro w1 hw1 hcx;simp only [Oper.quietAt];go_simp;first | done | (first | (go_at_call 24;exact Low.calls hw1 (gH.out _ hw1))) | rfl | exact⟨rfl,rfl⟩));simp only [pT]));refine wpQuiet_nil ?_;intro w2 hw2)
       obtain⟨wd,hwd⟩:∃ x,x=w2:=⟨_,rfl⟩;subst hwd;have N:Below Z.heap.size Z wd:=hw2.out;clear hw2 e0 e1 m0 x5' gH gf;have OF:=OZ.out.below N OZ.out.lt;have BF:=BBZ.out.trans (N.mono BBZ.out.size);have hq:=HN.out.2.2.1 nx ny hn3 (.inl hmem);have FF:=qH (qI OF (qI hq BF));clear OF BF hq N;go_wp2;go_roundw
       case rel=>exact⟨K,by omega,rfl,by go_num,nx,ny,FF.out.1,FF.out.2.1,FF.out.2.2⟩
       case measure=>simp [intOf];omega
     rw [decide_eq_true hmem] at gH;replace gH:=qH gH;by_cases hKe:K<en;rotate_left
     ·skip
      as_aux_lemma =>
       have dk:decide ((K:Int)<(en:Int))=false:=by rw [decide_eq_false_iff_not];omega
       replace gf:=qH gf
       (refine Zg (by kernel_rfl) (by kernel_rfl) ?_;(iterate 11 (apply qw3;(case hw=>rfl);(case hval=>(intro w1 hw1 hcx;simp only [Oper.quietAt];go_simp;first | done | (first | (go_at_call 24;exact Low.calls hw1 (gH.out _ hw1))) | rfl | exact⟨rfl,rfl⟩));simp only [pT]));(iterate 10 (apply Zr;(case hw=>rfl);simp only [pT]));(iterate 1 (apply qw3;(case hw=>rfl);(case hval=>(intro w1 hw1 hcx;simp only [Oper.quietAt];go_simp;first | done | (first | (go_at_call 24;exact Low.calls hw1 (gH.out _ hw1))) | rfl | exact⟨rfl,rfl⟩));simp only [pT]));refine wpQuiet_nil ?_;intro w2 hw2)
       obtain⟨wd,hwd⟩:∃ x,x=w2:=⟨_,rfl⟩;subst hwd;have N:Below Z.heap.size Z wd:=hw2.out;clear hw2 e0 e1 m0 x5' gH gf;have OF:=OZ.out.below N OZ.out.lt;have BF:=BBZ.out.trans (N.mono BBZ.out.size);have hq:=HN.out.2.2.1 nx ny hn3 (.inr (.inl hKe));have FF:=qH (qI OF (qI hq BF));clear OF BF hq N;go_wp2;go_roundw
       case rel=>exact⟨K,by omega,rfl,by go_num,nx,ny,FF.out.1,FF.out.2.1,FF.out.2.2⟩
       case measure=>simp [intOf];omega
     have dk:decide ((K:Int)<(en:Int))=true:=by rw [decide_eq_true_eq];omega
     by_cases hwf:wn nx ny fx
     ·skip
      as_aux_lemma =>
       rw [decide_eq_true hwf] at gf;replace gf:=qH gf
       (refine Zg (by kernel_rfl) (by kernel_rfl) ?_;(iterate 22 (apply qw3;(case hw=>rfl);(case hval=>(intro w1 hw1 hcx;simp only [Oper.quietAt];go_simp;first | done | (first | (go_at_call 24;exact Low.calls hw1 (gH.out _ hw1)) | (go_at_call 21;exact Low.calls hw1 (gf.out _))) | rfl | exact⟨rfl,rfl⟩));simp only [pT]));refine wpQuiet_nil ?_;intro w2 hw2)
       obtain⟨wd,hwd⟩:∃ x,x=w2:=⟨_,rfl⟩;subst hwd;have N:Below Z.heap.size Z wd:=hw2.out;clear hw2 e0 e1 m0 x5' gH gf;have OF:=OZ.out.below N OZ.out.lt;have BF:=BBZ.out.trans (N.mono BBZ.out.size);have hq:=HN.out.2.2.1 nx ny hn3 (.inr (.inr hwf));have FF:=qH (qI OF (qI hq BF));clear OF BF hq N;go_wp2;go_roundw
       case rel=>exact⟨K,by omega,rfl,by go_num,nx,ny,FF.out.1,FF.out.2.1,FF.out.2.2⟩
       case measure=>simp [intOf];omega
     as_aux_lemma =>
      rw [decide_eq_false hwf] at gf;replace gf:=qH gf
      (refine Zg (by kernel_rfl) (by kernel_rfl) ?_;(iterate 22 (apply qw3;(case hw=>rfl);(case hval=>(intro w1 hw1 hcx;simp only [Oper.quietAt];go_simp;first | done | (first | (go_at_call 24;exact Low.calls hw1 (gH.out _ hw1)) | (go_at_call 21;exact Low.calls hw1 (gf.out _))) | rfl | exact⟨rfl,rfl⟩));simp only [pT]));refine wpQuiet_nil ?_;intro w2 hw2)
      obtain⟨wd,hwd⟩:∃ x,x=w2:=⟨_,rfl⟩;subst hwd;have N:Below Z.heap.size Z wd:=hw2.out;clear hw2 e0 e1 m0 x5' gH gf;obtain⟨c,hc⟩:∃ c,min rb' fx=c:=⟨_,rfl⟩;have hmn:=HN.out.2.2.2.1 rb' fx r2.1 dfx;rw [hc] at hmn;have hc2:min rb' fx=c:=hc;have jj2:qW qL ((j:Int)+2)=((j+2:Nat):Int):=by rw [show (j:Int)+2=((j+2:Nat):Int) by omega];exact zW2
      have Q:=fun w1 B=>fo.out (j+2) c w1 B (by omega) (by omega)
      replace Q:=qH Q;clear hc;have BZZ:=qH N;replace BWZ:=zAd BWZ N;clear N;have x5:=cY BWZ.out XF5.out HW.out.1;have m0:wd.cell? ⟨w.heap.size,0,none⟩=some (.slice (some ⟨ww,ow,none⟩) m.ways.length (m.ways.length+cw1)):=(zCj MBZ BZZ).cell (i:=0) rfl;have p2:=(zCj PZ BZZ).cell (i:=2) rfl;go_upto_region 25 with fail
      refine (wpIn_wide (n:=9)).1 ?_;refine Zi (Zk _) 14 (fun X=>Below wd.heap.size wd X) (by kernel_rfl) (by kernel_rfl) (by kernel_rfl) fun hH inv0=>?_
      have hD:=Below.drew (qK wd.heap.size wd);generalize hXXd:wd.drew=Xd at *;clear hXXd;replace BZZ:=zAd BZZ hD;replace BWZ:=zAd BWZ hD;have B_wd:=qH hD;clear hD;refine sk hH 0 (.slice ao lo.length (lo.length+co)) (Zd rfl) inv0 (fun X hX=>?_) fun ad=>?_
      ·go_simp
      simp only [pT];clear inv0;refine sk hH 1 (O qL (j:Int)) (Zd rfl) ad (fun X hX=>?_) fun aa=>?_
      ·go_simp
      simp only [pT];clear ad;refine sk hH 2 (O qL ((j+2:Nat):Int)) (Zd rfl) aa (fun X hX=>?_) fun ab=>?_
      ·go_simp
      simp only [pT];clear aa;refine sk hH 3 (.pointer (some ⟨wo.heap.size,2,none⟩)) (Zd rfl) ab (fun X hX=>?_) fun ac=>?_
      ·go_simp
      simp only [pT];clear ab;refine sk hH 4 (O qL rb') (Zd rfl) ac (fun X hX=>?_) fun inv5=>?_
      ·have r0:=(hX.cell (p:=⟨wo.heap.size,2,none⟩) (qO _ _ p2)).trans p2;go_simp
      simp only [pT];clear ac;refine sk hH 5 (.pointer (some ⟨w.heap.size,0,none⟩)) (Zd rfl) inv5 (fun X hX=>?_) fun inv6=>?_
      ·go_simp
      simp only [pT];clear inv5;refine sk hH 6 (.slice (some ⟨ww,ow,none⟩) m.ways.length (m.ways.length+cw1)) (Zd rfl) inv6 (fun X hX=>?_) fun inv7=>?_
      ·have r0:=(hX.cell (p:=⟨w.heap.size,0,none⟩) (qO _ _ m0)).trans m0;go_simp
      simp only [pT];clear inv6;refine sk hH 7 (O qL (j:Int)) (Zd rfl) inv7 (fun X hX=>?_) fun inv8=>?_
      ·go_simp
      simp only [pT];clear inv7;refine sk hH 8 (O qL (K:Int)) (Zd rfl) inv8 (fun X hX=>?_) fun inv9=>?_
      ·go_simp
      simp only [pT];clear inv8;refine sk hH 9 (.pointer (some ⟨ww,ow+K*5,none⟩)) (Zd rfl) inv9 (fun X hX=>?_) fun inv10=>?_
      ·go_simp
      simp only [pT];clear inv9;refine sk hH 10 (.pointer (some ⟨ww,ow+K*5+2,none⟩)) (Zd rfl) inv10 (fun X hX=>?_) fun inv11=>?_
      ·go_simp
      simp only [pT];clear inv10;refine sk hH 11 (O qL fx) (Zd rfl) inv11 (fun X hX=>?_) fun inv12=>?_
      ·have r0:=(hX.cell (p:=⟨ww,ow+K*5+2,none⟩) (qO _ _ x5)).trans x5;go_simp
      simp only [pT];clear inv11;refine sk hH 12 (O qL c) (Zd rfl) inv12 (fun X hX=>?_) fun inv13=>?_
      ·go_simp
      simp only [pT];clear inv12;have inv14:=HeadInv.put2 inv13 (j:=13) (by kernel_rfl) (by omega)
      clear inv13;refine sa1 (r:=13) B_wd.out ?_;refine Zo (Zd rfl) rfl (f:=19) (args:=#[.slice ao lo.length (lo.length+co),O qL ((j+2:Nat):Int),O qL c]) (by go_simp) (Q.out Xd BWZ.out) ?_
      rintro e w50 ⟨gx,gy,rfl,b50,T⟩;refine⟨_,rfl,?_⟩;simp only [pT];replace BZZ:=zAd BZZ b50;replace BWZ:=zAd BWZ b50;replace B_wd:=zAd B_wd b50;clear b50;have HPG:=qH T;clear T inv14 hH;refine Zj (by kernel_rfl) B_wd.out ?_
      simp only [List.drop_succ_cons,List.drop_zero];clear B_wd;have hOB:=(zCj OZ BZZ);clear x5 m0 p2 Q;refine ZF rfl rfl (g:=t.heap.size) (cells:=#[O qL gx,O qL gy]) rfl rfl hOB (by kernel_rfl) rfl (by simp [Value.oneCell']) ?_
      have OF:=Has.put (cells:=#[O qL gx,O qL gy]) hOB;have BF:=Below.setRow (BBZ.out.trans (BZZ.out.mono BBZ.out.size)) (C:=t.heap.size) (Nat.le_refl _) #[O qL gx,O qL gy];have hq:=HN.out.2.2.1 gx gy (Z96 hmn.2.2 hmn.1 HPG.out) (.inr (.inr (Z96 hmn.2.2 hmn.2.1 HPG.out)));have FF:=qH (qI OF (qI hq BF));clear OF BF hq hOB;generalize World.setRow w50 t.heap.size #[O qL gx,O qL gy]=wf at *;gi_wp2;go_wp2;go_roundw
      case rel=>exact⟨K,by omega,rfl,by go_num,gx,gy,FF.out.1,FF.out.2.1,FF.out.2.2⟩
      case measure=>simp [intOf];omega
  ·skip
   as_aux_lemma =>
    have hje':j=en:=by omega
    subst hje';have MB9:=qH MBo;have CB9:=qH CBo;clear MBo CBo;have M:=qH (qK wo.heap.size wo);have hw9:wn ox oy (rdB m l j):=by unfold offR at af;rwa [if_neg (by omega)] at af
    have d1:decide ((j:Int)<(j:Int))=false:=by simp
    have J:j<m.ways.length:=by omega
    have g26:=qH (fun w1 B=>frt.out j w1 B hV J)
    have g27:=qH (fun w1 B=>fph.out j w1 B hV J)
    obtain⟨k9,hk9⟩:∃ k,j-1=k:=⟨_,rfl⟩;have jk:qW qL ((j:Int)-1)=(k9:Int):=by rw [show (j:Int)-1=(k9:Int) by omega];exact zW2
    have hk1:k9+1=j:=by omega
    have hend:=Zbm hE (k:=k9) (by omega)
    have hpsg:=ae.out.2 k9 (by omega)
    have hret:=HRC.out.2 k9 (by omega)
    have hrm:mkR m k9=homeE m (k9+1) (dep m (k9+1)):=rfl;have hpt:(mkP m l k9).tm=usT m l (k9+1):=rfl;have hpe:(mkP m l k9).en=usE m l (k9+1):=rfl;have ub:=Z1l V l j J;have hb0:=Z0H V J (dep m j) (Nat.le_refl _);have hdep:=Z2V V.ways J;rw [hk1] at hend hrm hpt hpe;rw [hrm] at hret;have fbk:=fun q (hq:q<dep m j) x y gx gy h1 h2=>Z9p (l:=l) V J hq (ox:=x) (oy:=y) (gx:=gx) (gy:=gy) h1 h2
    have fbr:=fun q (hq:q<dep m j)=>Zch (l:=l) V J hq
    have fbd:=fun q (hq:q<=dep m j)=>bk_bd V l J hq
    have fit:=fun q (hq:q<=dep m j)=>Z0o V.ways J hq
    have hw0:wn ox oy (bkR m j (rdB m l j) 0):=hw9;have fst:=fun x y h=>Z9o (m:=m) V (fbd (dep m j) (Nat.le_refl _)) hend.1 (x:=x) (y:=y) h
    have hbat:=V.battery;have hdea:=V.deadline;have hhv:=V.home;obtain⟨y1,y2,-⟩:=HW.out.2 0 (by omega)
    rw [Nat.zero_mul,Nat.add_zero] at y1 y2;have w0b:=Z0U V (k:=0) (by omega)
    have ac1:(atW m 0).x=(wy m.ways 0).x:=rfl;have ac2:(atW m 0).y=(wy m.ways 0).y:=rfl;rw [ac1,ac2] at fst w0b;clear af hw9 ac1 ac2 hje;obtain⟨n9,hn9⟩:∃ n,dep m j=n:=⟨_,rfl⟩;have hlen9:(intL (upto (itB m j) (dep m j+1))).length=dep m j+1:=by simp [intL,upto]
    have hrg:=fun q (hq:q<n9+1)=>Z1m (m:=m) (a:=j) (n:=n9) (j:=q) hq
    rw [hn9] at hlen9;simp only [hn9] at g26 g27 hend hret hb0 hdep fbk fbr fbd fit fst hrm;clear hn9 hrm;replace g26:=qH g26.out;replace g27:=qH g27.out;replace fbk:=qH fbk;replace fbr:=qH fbr;replace fbd:=qH fbd;replace fit:=qH fit;replace fst:=qH fst;replace hpsg:=qH hpsg;replace hret:=qH hret;replace hrg:=qH hrg;have HPT:=qH (qI hpt hpe);have HW00:=qH hw0;have Y:=qH (qI y1 y2);clear hpt hpe hw0 y1 y2;generalize (wy m.ways 0).x=px0 at *;generalize (wy m.ways 0).y=py0 at *;obtain⟨ue,hue⟩:∃ x,usE m l j=x:=⟨_,rfl⟩;obtain⟨ut,hut⟩:∃ x,usT m l j=x:=⟨_,rfl⟩;obtain⟨he,hhe⟩:∃ x,homeE m j n9=x:=⟨_,rfl⟩;obtain⟨ht,hht⟩:∃ x,homeT m j n9=x:=⟨_,rfl⟩;simp only [hue,hut,hhe,hht] at g27 hend ub hb0 HPT hret;clear hue hut hhe hht;obtain⟨c0,c1,c2,c3,c4,c5,c6,c7,c8,c9,I⟩:=Zh (m:=m) MB9.out;go_wp2_with fail;refine (g26.out _ o.out).mono ?_;rintro e w71 ⟨v9,rfl,p9,b71,nw9⟩;have M:=qH b71;replace o:=zAd o b71;clear b71;have PR:=qH p9;clear p9 g26;obtain⟨b2,o2,cap4,hv9,hb2,hc2⟩:=Z12 PR.out hlen9;subst hv9;have nb2:=nw9 _ _ _ _ rfl;have HC2:=qH (qI hb2 (qI nb2 hc2));clear hb2 hc2 nb2 nw9 PR hlen9 c0 c1 c2 c3 c4 c5 c6 c7 c8 c9 I;obtain⟨c0,c1,c2,c3,c4,c5,c6,c7,c8,c9,I⟩:=Zh (m:=m) (zCj MB9 M);go_wp2_with fail;refine (g27.out _ o.out).mono ?_;rintro e w72 ⟨rfl,b72⟩;replace M:=zAd M b72;replace o:=zAd o b72;have B_w71:=qH b72;clear b72 g27 c0 c1 c2 c3 c4 c5 c6 c7 c8 c9 I;have OL:=qH (zCj OO M);have BBL:=qH (BB.out.trans (M.out.mono BB.out.size));have RL:w72.heap[b2]?=w71.heap[b2]?:=B_w71.out.block b2 HC2.out.1;have HO2:=qH (show t.heap.size<wo.heap.size from OO.out.lt)
    have SZL:=qH B_w71.out.size;have HRL:=qH RL;clear RL M o G B_w71 MB9 CB9 OO;go_wp2
    go_loopw [11,32] (fun up i wr=>∃ q:Nat,q<=n9/\up=.bool true/\i=O qL ((q:Int)+1)/\∃ x y:Int,Has wr t.heap.size #[O qL x,O qL y] 36/\wn x y (bkR m j (rdB m l j) q)/\Below t.heap.size t wr/\Hid (wr.heap[b2]?=w71.heap[b2]?/\b2<wr.heap.size)) (fun _ i _=>n9+1-(intOf i).toNat)
    case atStart=>exact⟨0,by omega,rfl,rfl,ox,oy,OL.out,HW00.out,BBL.out,qH ⟨HRL.out,(Nat.lt_of_lt_of_le HC2.out.1 SZL.out)⟩⟩
    case round =>
     obtain⟨q,hq,rfl,rfl,x1,y1,L,af,hB,hRR⟩:=hrel;obtain⟨wp,hwp⟩:∃ x,x=wr:=⟨_,rfl⟩;subst hwp;have BP:=qH hB;have OP:=qH L;clear hB L;have E:=qH (BWl.out.trans (BP.out.mono BWl.out.size));have U:=qH (zCj MBl BP);have rb1:=fbd.out q hq;have hcel:∀ i,wp.cell? ⟨b2,i,none⟩=w71.cell? ⟨b2,i,none⟩:=fun i=>by simp [World.cell?,hRR.out.1]
     have HCEL:=qH hcel;clear hcel;by_cases hqn:q<n9
     ·skip
      as_aux_lemma =>
       have h1:=fit.out q (by omega)
       have h2:=fit.out (q+1) (by omega)
       have z1:=(HCEL.out (o2+q)).trans (HC2.out.2.2 q (by omega))
       have z2:=(HCEL.out (o2+(q+1))).trans (HC2.out.2.2 (q+1) (by omega))
       rw [hrg.out _ (by omega)] at z1 z2
       have gl:=fun w2 (B:Low wp w2)=>fg.out (itB m j q) (itB m j (q+1)) w2 (E.out.trans (B.out.mono E.out.size))
       rw [Z1T hV h1 h2] at gl;have hg9:=fbr.out q hqn;have ag:=fun gx gy h=>fbk.out q hqn x1 y1 gx gy af h
       have ob1:=wn_bd rb1.1 af;have d2:decide ((q:Int)+1<(n9:Int)+1)=true:=by rw [decide_eq_true_eq];omega
       have jl:(q:Int)+1<(n9:Int)+1:=by omega
       have jl1:(q:Int)<(n9:Int)+1:=by omega
       have jl0:(0:Int)<=(q:Int)+1:=by omega
       have jl2:(0:Int)<=(q:Int):=by omega
       have jw9:qW qL (q:Int)=(q:Int):=zW2;have jw8:qW qL ((j:Int)+((q:Int)+1))=((j+q+1:Nat):Int):=by rw [show (j:Int)+((q:Int)+1)=((j+q+1:Nat):Int) by omega];exact zW2
       obtain⟨pp1,hp1⟩:∃ x,itB m j q=x:=⟨_,rfl⟩;obtain⟨pp2,hp2⟩:∃ x,itB m j (q+1)=x:=⟨_,rfl⟩;simp only [hp1,hp2] at h1 h2 z1 z2 gl hg9 ag;clear hp1 hp2;have h1':(pp1:Int)<m.ways.length:=by omega
       have h2':(pp2:Int)<m.ways.length:=by omega
       have h10:(0:Int)<=pp1:=by omega
       have h20:(0:Int)<=pp2:=by omega
       generalize gLeg m pp1 pp2=gg at *;generalize dLeg m pp1 pp2=dd at *;generalize tLeg m pp1 pp2=tt at *;replace z1:=Low.fact z1;replace z2:=Low.fact z2;replace gl:=qH gl;replace ag:=qH ag;have Q:=fun w1 B=>fo.out (j+q+1) gg w1 B (by omega) ⟨hg9.1,by omega⟩
       replace Q:=qH Q;have q0:=Low.fact (cX 0 U.out rfl);have q1:=Low.fact (cX 1 U.out rfl);have q2:=Low.fact (cX 2 U.out rfl);have q3:=Low.fact (cX 3 U.out rfl);have q4:=Low.fact (cX 4 U.out rfl);have q5:=Low.fact (cX 5 U.out rfl);have q6:=Low.fact (cX 6 U.out rfl);have q7:=Low.fact (cX 7 U.out rfl);have q8:=Low.fact (cX 8 U.out rfl);have q9:=Low.fact (cX 9 U.out rfl);have q10:=Low.fact (cX 10 U.out rfl);go_wp2
       (refine Zg (by kernel_rfl) (by kernel_rfl) ?_;(iterate 20 (apply qw3;(case hw=>rfl);(case hval=>(intro w1 hw1 hcx;simp only [Oper.quietAt];go_simp;first | done | (first | (go_at_call 20;exact Low.calls hw1 (gl.out _ hw1))) | rfl | exact⟨rfl,rfl⟩));simp only [pT]));refine wpQuiet_nil ?_;intro w2 hw2)
       obtain⟨wa,hwa⟩:∃ x,x=w2:=⟨_,rfl⟩;subst hwa;have P:Below wp.heap.size wp wa:=hw2.out;clear hw2 gl z1 z2 q0 q1 q2 q3 q4 q5 q6 q7 q8 q9 q10;go_upto_region 34 with fail
       have F:=qH P;replace E:=zAd E P;clear P;have L:=(zCj OP F);have e0:=cX 0 L rfl;have e1:=cX 1 L rfl;clear L;refine (wpIn_wide (n:=9)).1 ?_;refine Zi (Zk _) 8 (fun X=>Below wa.heap.size wa X) (by kernel_rfl) (by kernel_rfl) (by kernel_rfl) fun hH inv0=>?_
       have hD:=Below.drew (qK wa.heap.size wa);generalize hXXe:wa.drew=Xe at *;clear hXXe;replace F:=zAd F hD;replace E:=zAd E hD;have W:=qH hD;clear hD;refine sk hH 0 (.agg #[O qL x1,O qL y1]) (Zd rfl) inv0 (fun X hX=>?_) fun ad=>?_
       ·have r0:=(hX.cell (p:=⟨t.heap.size,0,none⟩) (qO _ _ e0)).trans e0;have r1:=(hX.cell (p:=⟨t.heap.size,1,none⟩) (qO _ _ e1)).trans e1;go_simp
       simp only [pT];clear inv0;refine sk hH 1 (.slice ao lo.length (lo.length+co)) (Zd rfl) ad (fun X hX=>?_) fun aa=>?_
       ·go_simp
       simp only [pT];clear ad;refine sk hH 2 (O qL (j:Int)) (Zd rfl) aa (fun X hX=>?_) fun ab=>?_
       ·go_simp
       simp only [pT];clear aa;refine sk hH 3 (O qL ((q:Int)+1)) (Zd rfl) ab (fun X hX=>?_) fun ac=>?_
       ·go_simp
       simp only [pT];clear ab;refine sk hH 4 (O qL ((j+q+1:Nat):Int)) (Zd rfl) ac (fun X hX=>?_) fun inv5=>?_
       ·go_simp
       simp only [pT];clear ac;refine sk hH 5 (O qL gg) (Zd rfl) inv5 (fun X hX=>?_) fun inv6=>?_
       ·go_simp
       simp only [pT];clear inv5;have inv7:=HeadInv.put2 inv6 (j:=6) (by kernel_rfl) (by omega)
       clear inv6;refine sa1 (r:=6) W.out ?_;refine Zo (Zd rfl) rfl (f:=19) (args:=#[.slice ao lo.length (lo.length+co),O qL ((j+q+1:Nat):Int),O qL gg]) (by go_simp) (Q.out Xe E.out) ?_
       rintro e w83 ⟨gx,gy,rfl,b83,T⟩;refine⟨_,rfl,?_⟩;simp only [pT];replace F:=zAd F b83;replace E:=zAd E b83;replace W:=zAd W b83;clear b83;have gb:=wn_bd hg9.1 T;have HNX:=qH (ag.out gx gy T);clear T;have inv8:=HeadInv.put2 inv7 (j:=7) (by kernel_rfl) (by omega)
       clear inv7;refine sa1 (r:=7) W.out ?_;refine Zo (Zd rfl) rfl (f:=22) (args:=#[.agg #[O qL x1,O qL y1],.agg #[O qL gx,O qL gy]]) (by go_simp) (Z0F x1 y1 gx gy w83 (by omega) (by omega) (by omega) (by omega)) ?_
       rintro e w84 ⟨rfl,b84⟩;refine⟨_,rfl,?_⟩;simp only [pT];replace F:=zAd F b84;replace E:=zAd E b84;replace W:=zAd W b84;clear b84 inv8 hH;refine Zj (by kernel_rfl) W.out ?_
       simp only [List.drop_succ_cons,List.drop_zero];clear W;have hOB:=(zCj OP F);clear e0 e1 Q;have hne:b2≠t.heap.size:=by have h1:=HC2.out.2.1;have h2:=HO2.out;omega
       have hr1:w84.heap[b2]?=wp.heap[b2]?:=F.out.block b2 hRR.out.2;have hr2:b2<w84.heap.size:=Nat.lt_of_lt_of_le hRR.out.2 F.out.size;refine ZF rfl rfl (g:=t.heap.size) (cells:=#[O qL (x1+gx),O qL (y1+gy)]) rfl rfl hOB (by kernel_rfl) rfl (by simp [Value.oneCell']) ?_
       have OF:=Has.put (cells:=#[O qL (x1+gx),O qL (y1+gy)]) hOB;have BF:=Below.setRow (BP.out.trans (F.out.mono BP.out.size)) (C:=t.heap.size) (Nat.le_refl _) #[O qL (x1+gx),O qL (y1+gy)];have hr3:(World.setRow w84 t.heap.size #[O qL (x1+gx),O qL (y1+gy)]).heap[b2]?=w84.heap[b2]?:=by
        unfold World.setRow;simp only [Array.getElem?_modify];rw [if_neg (by omega)]
       have hr4:b2<(World.setRow w84 t.heap.size #[O qL (x1+gx),O qL (y1+gy)]).heap.size:=by simpa [World.setRow] using hr2
       have FF:=qH (qI OF (qI BF (qI (hr3.trans (hr1.trans hRR.out.1)) hr4)));clear OF BF hOB hr1 hr2 hr3 hr4 hne;generalize World.setRow w84 t.heap.size #[O qL (x1+gx),O qL (y1+gy)]=wf at *;gi_wp2;go_wp2;go_roundw
       case rel=>exact⟨q+1,by omega,rfl,by go_num,x1+gx,y1+gy,FF.out.1,HNX.out,FF.out.2.1,qH FF.out.2.2⟩
       case measure=>simp [intOf];omega
     ·skip
      as_aux_lemma =>
       obtain rfl:q=n9:=by omega
       have d2:decide ((q:Int)+1<(q:Int)+1)=false:=by simp
       have F:=qH (qK wp.heap.size wp);have CBp:=qH (zCj CBl BP);have BMp:=BMl.out.trans (BP.out.mono BMl.out.size);have ob1:=wn_bd rb1.1 af;have hst:=fst.out x1 y1 af;obtain⟨u,hu,hup,hpsg1,hpsg2,q3,q4⟩:=hpsg.out;obtain⟨-,ua,uc,rfl,-⟩:=hup;rw [HPT.out.1] at q3;rw [HPT.out.2] at q4;replace hu:=cY BMp hu ae.out.1;have q1:=cY BMp hpsg1 ae.out.1;have q2:=cY BMp hpsg2 ae.out.1;replace q3:=cY BMp q3 ae.out.1;replace q4:=cY BMp q4 ae.out.1;have hre:=cY BMp hret.out HRC.out.1;have cb1:=cX 1 CBp.out rfl;have hk0:(0:Int)<=(k9:Int):=by omega
       have hk1':(k9:Int)<(n1:Int):=by omega
       have HRE:=qH hre;clear hre BMp af;go_upto_region 37 with fail
       generalize hXX36:World.alloc wp _=X36;obtain⟨q0,A,hzX36⟩:=box1 hXX36;clear hXX36;have F:=qH A;replace E:=zAd E A;clear A;have PB2:=qH q0;clear q0 hzX36 cb1 hu q1 q2 q3 q4 hpsg1 hpsg2;have gS:=qH (fun w1=>Z0F px0 py0 x1 y1 w1 (by omega) (by omega) (by omega) (by omega))
       have gH:=fun w1 (B:Low X36 w1)=>fhm.out ⟨px0+x1,py0+y1⟩ w1 (E.out.trans (B.out.mono E.out.size))
       rw [hst.2,Z5k hhv hst.1] at gH;replace gH:=qH gH;have mb:=(zCj U F);have m0:=Low.fact (cX 0 mb rfl);have m1:=Low.fact (cX 1 mb rfl);have L:=(zCj OP F);have e0:=Low.fact (cX 0 L rfl);have e1:=Low.fact (cX 1 L rfl);have y1':=Low.fact (cY E.out Y.out.1 HW.out.1);have y2':=Low.fact (cY E.out Y.out.2 HW.out.1);have h0':(0:Int)<m.ways.length:=by omega
       have h0n:0<m.ways.length:=by omega
       clear mb L
       (refine Zg (by kernel_rfl) (by kernel_rfl) ?_;(iterate 15 (apply qw3;(case hw=>rfl);(case hval=>(intro w1 hw1 hcx;simp only [Oper.quietAt];go_simp;first | done | (first | (go_at_call 22;exact Low.calls hw1 (gS.out _)) | (go_at_call 27;exact Low.calls hw1 (gH.out _ hw1))) | rfl | exact⟨rfl,rfl⟩));simp only [pT]));refine wpQuiet_nil ?_;intro w2 hw2)
       obtain⟨wa,hwa⟩:∃ x,x=w2:=⟨_,rfl⟩;subst hwa;have P:Below X36.heap.size X36 wa:=hw2.out;clear hw2 gS gH m0 m1 e0 e1 y1' y2';replace F:=zAd F P;replace E:=zAd E P;have B_X36:=qH P;clear P;have mb:=(zCj U F);have m9:=Low.fact (cX 9 mb rfl);have m10:=Low.fact (cX 10 mb rfl);have pb':=(zCj PB2 B_X36);have p3:=Low.fact (cX 3 pb' rfl);have p4:=Low.fact (cX 4 pb' rfl);have cb':=CBp.out.below F.out CBp.out.lt;have c2':=Low.fact (cX 2 cb' rfl);have re:=Low.fact ((F.out.cell (p:=⟨rb,ro+k9,none⟩) (qO _ _ HRE.out)).trans HRE.out);have j8:qW qL (ue+he)=ue+he:=zW2;have j9:qW qL (ut+ht)=ut+ht:=zW2;have t8:decide (he<=he)=true:=by simp
       have t9:decide (ue+he<=m.battery)=true:=decide_eq_true hend.2.1;have t10:decide (ut+ht<=m.deadline)=true:=decide_eq_true hend.2.2;have BF:=qH E.out;clear mb pb' cb';go_upto_region 38 with fail
       (refine Zg (by kernel_rfl) (by kernel_rfl) ?_;(iterate 42 (apply qw3;(case hw=>rfl);(case hval=>(intro w1 hw1 hcx;simp only [Oper.quietAt];go_simp;first | done | rfl | exact⟨rfl,rfl⟩));simp only [pT]));refine wpQuiet_nil ?_;intro w2 hw2)
       obtain⟨wz,hwz⟩:∃ x,x=w2:=⟨_,rfl⟩;subst hwz;have BE:=qH (BF.out.trans (hw2.out.mono BF.out.size));clear hw2 m9 m10 p3 p4 c2' re;go_wp2;go_ret;exact⟨rfl,BE.out⟩
end Go.Proofs.YthipcinibldgnaaGreat.topStays
