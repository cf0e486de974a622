/- package plan: farthest. | package plan: Best, Refused. | The head of the laws of layer 32. (Printed by tools/mkhead32.py.) | the example of layer 3 .. -/
import Derived.Test.YthipcinibldgnaaGreatBin22
import Derived.Lib.SliceRun
import Derived.ArgAppend
open Go.Value renaming int->O,pointer->qP,slice->qS
open Go.Ending renaming returned->qR
open Go.Obj renaming cells->qC
open Go.IntKind renaming wrap->qW,i64->qL
open Go.Lib renaming hid->qH
open Go.RowKit.Below renaming refl->qK
open Go.World renaming alloc->qV,block_lt_of_cell?->qO
open Nat renaming le_refl->qN
open And renaming intro->qI
open Go.Act renaming put->qJ
set_option linter.unusedSimpArgs false
set_option linter.unusedVariables false
set_option maxRecDepth 8000
set_option maxHeartbeats 6400000
namespace Go.Proofs.YthipcinibldgnaaGreat
section
attribute [local go_sem] Oper.semAt_some
attribute [local irreducible] wpQuiet
open Go.RowKit
theorem Za1 (m:Msn) (l:List Int):kpL m l<=((m.ways.length-1:Nat):Int):=by
 unfold kpL leadV;have:=(Z11 m l).1
 split <;> omega
theorem Zax (m : Msn) (vw vh vr : Value) (w : World) (hm : MsnAt w.heap.size w m vw vh vr) (hV : validB m = true) (h13 : m.ways.length <= 13) :
  Calls Tryz.prog 33 #[.agg (Zc m vw vh vr)] w fun e w'=>∃ v,e=qR (.tuple #[O qL (bestP m).1,v,O qL 0])/\Z8 w'.heap.size w' v (bestP m).2/\Below w.heap.size w w'/\∀ r,v.ownBlock=some r->w.heap.size<=r:=by
 have f1:=fun w1 (B:Below w.heap.size w w1)=>Z0V m vw vh vr w1 ((hm.below B).mono B.size)
 rw [hV] at f1;have f2:=fun w1 (B:Below w.heap.size w w1)=>Zas m vw vh vr w1 ((hm.below B).mono B.size) (by omega)
 have f3:=fun vl l w1 (B:Below w.heap.size w w1) hl=>Z0X m vw vh vr vl l w1 ((hm.below B).mono B.size) hl
 have n2:=((Zm m).1 hV).n2;have htop:=fun l=>Za1 m l
 obtain⟨⟨-,a1,c1,rfl,-⟩,⟨-,a2,c2,rfl,-⟩,⟨-,a3,c3,rfl,-⟩⟩:=hm;unfold Zc at *;have hfl:(fixL m).length<=m.ways.length-1:=Z2i m m.ways.length;replace f1:=qH f1;replace f2:=qH f2;replace f3:=qH f3;replace htop:=qH htop;have BW:=qH (qK w.heap.size w);refine (callsIn_wide (n:=9)).1 ?_;refine callsIn_of_wp_marks Tryz.func33 rfl trivial ?_ rfl;simp only [Tryz.ntmps33,List.size_toArray,List.length_cons,List.length_nil,Nat.reduceAdd,Nat.reduceSub,Array.replicate_succ,Array.replicate_zero,List.push_toArray,List.append_toArray,List.nil_append,List.cons_append];refine wpIn_wide.2 ?_;go_wp2_with fail;generalize hXX0:qV (qV (qV (qV w _) _) _) _=X0;obtain⟨q0,q1,q2,q3,hA,hzX0⟩:=box4 hXX0;clear hXX0;have BW:=qH hA;clear hA;have MB:=qH q0;clear q0;have LB:=qH q1;clear q1;have SB:=qH q2;clear q2;have EB:=qH q3;clear q3;obtain⟨c0,c1,c2,c3,c4,c5,c6,c7,c8,c9,T⟩:=Zh (m:=m) MB.out;refine (f1.out _ BW.out).mono ?_;rintro e w1 ⟨rfl,b1⟩;replace BW:=zAd BW b1;have A:=qH b1;clear b1 c0 c1 c2 c3 c4 c5 c6 c7 c8 c9 T;obtain⟨c0,c1,c2,c3,c4,c5,c6,c7,c8,c9,T⟩:=Zh (m:=m) (zCj MB A);go_wp2_with fail;have hzw1:=qH (show w.heap.size+4<=w1.heap.size by have:=A.out.size;omega)
 refine (f2.out _ BW.out).mono ?_;rintro e w2 ⟨v2,rfl,p2,b2,n2'⟩;replace BW:=zAd BW b2;replace A:=zAd A b2;clear b2;have FX:=qH p2;clear p2;obtain⟨hfl2,J,cf,hvf,hcf⟩:=FX.out;subst hvf;have NF:=qH n2';have CF:=qH hcf;clear n2' hcf c0 c1 c2 c3 c4 c5 c6 c7 c8 c9 T;obtain⟨c0,c1,c2,c3,c4,c5,c6,c7,c8,c9,T⟩:=Zh (m:=m) (zCj MB A);clear c0 c1 c2 c3 c4 c5 c6 c7 c8 c9 T;have dk:decide (((fixL m).length:Int)>12)=false:=by rw [decide_eq_false_iff_not];omega
 have jw:qW qL (((fixL m).length:Int)+1)=((fixL m).length:Int)+1:=zW2;have h2:=(zCj LB A);have l0:w2.cell? ⟨w.heap.size+1,0,none⟩=some (O qL 0):=cX 0 h2 rfl;have l1:=Ze h2 0;have hzw2:=qH (show w.heap.size+4<=w2.heap.size by have:=A.out.size;omega)
 have ltw2:=hzw2.out;have HX2:=qH (qI (zCj MB A) (qI h2 (qI (zCj SB A) (zCj EB A))));clear h2;go_wp2;clear l0 l1;generalize hZ:World.setCell w2 _ _=Z;have G:FarB (w.heap.size+1) (w.heap.size+1+1) (w.heap.size+1+1+1) w Z:=by subst hZ;exact⟨by simp;omega,by simp;omega,by simp;omega,by omega,by omega,by omega,by simp;omega⟩
 have ZS:Z.heap.size=w2.heap.size:=by subst hZ;simp
 have ZK:∀ b,b≠(w.heap.size+1)->Z.heap[b]?=w2.heap[b]?:=fun b g=>by subst hZ;exact Below.heap_setCell _ _ _ b g
 have FI0:FarI (w.heap.size+1) (w.heap.size+1+1) (w.heap.size+1+1+1) w Z (-1,[]) [] (qS none 0 0) Z:=by
  obtain⟨-,g1,g2,g3⟩:=HX2.out;subst hZ;exact⟨Boxed.set _ g1,(ZK _ (by omega)).trans g2,(ZK _ (by omega)).trans g3,Z8.nil _ _,BW.out.setCell (p:=⟨w.heap.size+1,0,none⟩) (by simp) _,KeepsP.refl _ _,(fun D hD=>by cases hD),List.nodup_nil,(fun r e=>by cases e)⟩
 have HMB:Has Z w.heap.size _ 26:=(ZK _ (by omega)).trans HX2.out.1
 have HCF:(fixL m)=[]\/∃ b o,J=some ⟨b,o,none⟩/\b<Z.heap.size/\w.heap.size+4<=b/\∀ j,j<(fixL m).length->Z.cell? ⟨b,o+j,none⟩=some (O qL ((fixL m).getD j 0)):=by
  rcases CF.out with h | ⟨b,o,e1,g,hc⟩
  ·exact .inl h
  ·have hnb:=NF.out b (by rw [e1];rfl)
   have:=hzw1.out;exact .inr ⟨b,o,e1,by omega,by omega,fun j hj=>(World.cell?_of_block (ZK b (by omega))).trans (hc j hj)⟩
 replace G:=qH G;replace FI0:=qH FI0;replace HMB:=qH HMB;replace HCF:=qH HCF;clear hZ ZK HX2 CF NF hzw1 hzw2 ltw2 ZS BW A MB LB SB EB FX;refine wp_loop (fun a' W'=>∃ (u6 u7 u8 u9 u10 u23 u24 u25 u26 u27 u28 u29 u30 u31 u32 u33 u34 u35 u36 u37 u38 u39 u40 u41 u42 u43 u44 u45 u46 u47 u48 u49 u50 u51:Value) (k:Nat) (ds:List Nat) (v:Value),k<=(fixL m).length+1/\FarI (w.heap.size+1) (w.heap.size+1+1) (w.heap.size+1+1+1) w Z ((allTo (fixL m) k).foldl (farS (kpL m)) (-1,[])) ds v W'/\a'={ tmps:=#[.agg #[qS a1 m.ways.length (m.ways.length+c1),qS a2 m.home.length (m.home.length+c2),O qL m.start,qS a3 m.rocks.length (m.rocks.length+c3),O qL m.speed,O qL m.part,O qL m.flow,O qL m.idle,O qL m.drive,O qL m.battery,O qL m.deadline],qP (some ⟨w.heap.size,0,none⟩),qP (some ⟨w.heap.size+1,0,none⟩),qP (some ⟨w.heap.size+1+1,0,none⟩),qP (some ⟨w.heap.size+1+1+1,0,none⟩),qS J (fixL m).length ((fixL m).length+cf),u6,u7,u8,u9,u10,.agg #[qS a1 m.ways.length (m.ways.length+c1),qS a2 m.home.length (m.home.length+c2),O qL m.start,qS a3 m.rocks.length (m.rocks.length+c3),O qL m.speed,O qL m.part,O qL m.flow,O qL m.idle,O qL m.drive,O qL m.battery,O qL m.deadline],.bool true,.bool false,.agg #[qS a1 m.ways.length (m.ways.length+c1),qS a2 m.home.length (m.home.length+c2),O qL m.start,qS a3 m.rocks.length (m.rocks.length+c3),O qL m.speed,O qL m.part,O qL m.flow,O qL m.idle,O qL m.drive,O qL m.battery,O qL m.deadline],qS J (fixL m).length ((fixL m).length+cf),qS J (fixL m).length ((fixL m).length+cf),O qL ((fixL m).length:Int),.bool false,qS J (fixL m).length ((fixL m).length+cf),O qL ((fixL m).length:Int),O qL (((fixL m).length:Int)+1),O qL (k:Int),u23,u24,u25,u26,u27,u28,u29,u30,u31,u32,u33,u34,u35,u36,u37,u38,u39,u40,u41,u42,u43,u44,u45,u46,u47,u48,u49,u50,u51],defers:=ds.map (fun D=>{ target:=.collected D,args:=#[] }) }) (fun a' _=>(fixL m).length+2-(intOf (a'.tmps.getD 22 undef)).toNat) ?_ ?_
 ·exact⟨_,_,_,_,_,_,_,_,_,_,_,_,_,_,_,_,_,_,_,_,_,_,_,_,_,_,_,_,_,_,_,_,_,_,0,[],_,by omega,FI0.out,rfl⟩
 ·rintro a' f ⟨u6,u7,u8,u9,u10,u23,u24,u25,u26,u27,u28,u29,u30,u31,u32,u33,u34,u35,u36,u37,u38,u39,u40,u41,u42,u43,u44,u45,u46,u47,u48,u49,u50,u51,k,ds,v,hk,hI,rfl⟩
  by_cases hkl:k<(fixL m).length+1
  ·have d1:decide ((k:Int)<((fixL m).length:Int)+1)=true:=by rw [decide_eq_true_eq];omega
   replace hI:=qH hI;go_wp2_with fail;refine (Z7d _ _ _ _ _).mono ?_;rintro e W1 ⟨rfl,hW1⟩;obtain⟨q0,q1,hA,hz1⟩:=box2 hW1.symm;clear hW1;go_wp2;have zk:=hI.out.kee.1;have zw1:=hA.size;have hI1:=qH (hI.out.below G.out hA);have HCB:∀ b,b<Z.heap.size->w.heap.size+4<=b->W1.heap[b]?=Z.heap[b]?:=fun b g h4=>(hA.block b (by omega)).trans (hI.out.kee.2 b ⟨g,by omega,by omega,by omega⟩)
   have hseq:=Z8S (fun b=>b=f.heap.size+1\/b=f.heap.size\/∃ a,J=some a/\b=a.block/\b<Z.heap.size/\w.heap.size+4<=b) (f.heap.size+1) f.heap.size k ((fixL m).length+cf) J (fixL m) W1 (by omega) (by omega) (cX 0 q1 rfl) (cX 0 q0 rfl) (.inl rfl) (.inr (.inl rfl)) (fun j hj=>by
    obtain⟨b,o,e1,g,h4,hc⟩:=HCF.out.resolve_left (by intro h;rw [h] at hj;simp at hj)
    exact⟨b,o,e1,.inr (.inr ⟨_,e1,rfl,g,h4⟩),(World.cell?_of_block (HCB b g h4)).trans (hc j hj)⟩) (fun b g=>by
    rcases g with h | h | ⟨a,-,-,h,-⟩ <;> omega)
   have hmb:=HMB.out.lt;have hfb:=G.out;have fbl:=hfb.l;have fbs:=hfb.s;have fbe:=hfb.e;have hds:∀ D ∈ ds,D<W1.heap.size:=fun D hD=>(Array.getElem?_eq_some_iff.1 (hI1.out.mar D hD).2).1
   obtain⟨M,hn1⟩:∃ M,m.ways.length-1=M:=⟨_,rfl⟩;refine (wpIn_wide (n:=9)).1 ?_;refine Z6t (by omega) (gf:=138) (lb:=#[qP (some ⟨f.heap.size+1,0,none⟩),qP (some ⟨f.heap.size,0,none⟩)]) rfl (enters_of Tryz.func138 (by kernel_rfl) rfl) hseq ?hHx (fun h k=>⟨Nat.le_trans h.1 k.1,fun b g=>(k.2 b (by
    rcases g with g | g
    ·exact .inl g
    ·exact .inr ⟨g.1,Nat.lt_of_lt_of_le g.2 h.1⟩)).trans (h.2 b g)⟩) ?hKb (qK _ _) (fun _=>rfl)
    (fun s W=>True/\∃ v,FarI (w.heap.size+1) (w.heap.size+1+1) (w.heap.size+1+1+1) w Z ((s.map (·.2)).foldl (farS (kpL m)) ((allTo (fixL m) k).foldl (farS (kpL m)) (-1,[]))) ds v W/\∀ r,v.ownBlock=some r->r<W1.heap.size\/∃ x,x ∈ s/\x.1.ownBlock=some r)
    (fun c s W=>(c=.ret/\((s.map (·.2)).foldl (farS (kpL m)) ((allTo (fixL m) k).foldl (farS (kpL m)) (-1,[]))).1=(M:Int))/\∃ v,FarI (w.heap.size+1) (w.heap.size+1+1) (w.heap.size+1+1+1) w Z ((s.map (·.2)).foldl (farS (kpL m)) ((allTo (fixL m) k).foldl (farS (kpL m)) (-1,[]))) ds v W/\∀ r,v.ownBlock=some r->r<W1.heap.size\/∃ x,x ∈ s/\x.1.ownBlock=some r)
    (FarI.own G.out (by omega) _ hds (fun _=>True)) (fun c=>FarI.own G.out (by omega) _ hds (fun s=>c=.ret/\((s.map (·.2)).foldl (farS (kpL m)) ((allTo (fixL m) k).foldl (farS (kpL m)) (-1,[]))).1=(M:Int))) ⟨trivial,v,hI1.out,fun r e=>.inl ?hvn⟩
    (fun x=>#[.agg #[qS a1 m.ways.length (m.ways.length+c1),qS a2 m.home.length (m.home.length+c2),O qL m.start,qS a3 m.rocks.length (m.rocks.length+c3),O qL m.speed,O qL m.part,O qL m.flow,O qL m.idle,O qL m.drive,O qL m.battery,O qL m.deadline],qP (some ⟨w.heap.size,0,none⟩),qP (some ⟨w.heap.size+1,0,none⟩),qP (some ⟨w.heap.size+1+1,0,none⟩),qP (some ⟨w.heap.size+1+1+1,0,none⟩),qS J (fixL m).length ((fixL m).length+cf),O qL (k:Int),x.1,u8,u9,u10,.agg #[qS a1 m.ways.length (m.ways.length+c1),qS a2 m.home.length (m.home.length+c2),O qL m.start,qS a3 m.rocks.length (m.rocks.length+c3),O qL m.speed,O qL m.part,O qL m.flow,O qL m.idle,O qL m.drive,O qL m.battery,O qL m.deadline],.bool true,.bool false,.agg #[qS a1 m.ways.length (m.ways.length+c1),qS a2 m.home.length (m.home.length+c2),O qL m.start,qS a3 m.rocks.length (m.rocks.length+c3),O qL m.speed,O qL m.part,O qL m.flow,O qL m.idle,O qL m.drive,O qL m.battery,O qL m.deadline],qS J (fixL m).length ((fixL m).length+cf),qS J (fixL m).length ((fixL m).length+cf),O qL ((fixL m).length:Int),.bool false,qS J (fixL m).length ((fixL m).length+cf),O qL ((fixL m).length:Int),O qL (((fixL m).length:Int)+1),O qL (k:Int),.bool true,O qL (k:Int),qS J (fixL m).length ((fixL m).length+cf),O qL (k:Int),.func (.func 138) #[] #[qP (some ⟨f.heap.size+1,0,none⟩),qP (some ⟨f.heap.size,0,none⟩)],x.1,u29,u30,u31,u32,u33,u34,u35,u36,u37,u38,u39,u40,u41,u42,u43,u44,u45,u46,u47,u48,u49,u50,u51]) ?assign ?body ?done ?stop
   case hHx =>
    rintro x W l o o' ⟨h1,h2⟩ hl hc;refine⟨h1.offG (grownBy_putObj' W l o') (fun r e=>?_),fun r e=>by simpa using h2 r e⟩
    cases e;by_cases hl0:x.2=[]
    ·exact .inl hl0
    ·refine .inr fun ev=>?_
     obtain⟨_,a,cap,e1,hcells⟩:=h1;obtain⟨b,o2,e2,g,hcc⟩:=hcells.resolve_left hl0;have hbr:b=l:=by rw [e1,e2] at ev;simpa [Value.ownBlock] using ev
     obtain⟨o3,ho3,hoc⟩:=cells_of_cell (hcc 0 (List.length_pos_iff.2 hl0));rw [show (⟨b,o2+0,none⟩:Addr).block=l from hbr,hl] at ho3
     cases ho3;rw [hc] at hoc;cases hoc
   case hKb =>
    rintro W o o' h1 h2;refine⟨by simp,fun b g=>World.putObj_heap_other ?_⟩
    rcases g with (h | h | ⟨a,-,-,h,-⟩) | h <;> omega
   case hvn =>
    have:=(hI1.out.new r e).2;omega
   case assign =>
    rintro ll rm ⟨y,L⟩ W K ⟨S,-⟩ hK;obtain⟨ay,cy,rfl⟩:∃ a c,y=qS a L.length c:=by obtain⟨_,a,c,h,_⟩:=S;exact⟨a,_,h⟩
    unfold chE;gi_wp2;exact hK
   case body =>
    rintro ll rm pre x W hll ⟨r,hr⟩ ⟨-,v',d,hv'⟩ ⟨S,hx2⟩ hsz;obtain⟨y,L⟩:=x;simp only at S hx2 ⊢;obtain⟨ay,cy,rfl⟩:∃ a c,y=qS a L.length c:=by obtain⟨_,a,c,h,_⟩:=S;exact⟨a,_,h⟩
    have C:Hid (((pre++[((qS ay L.length cy:Value),L)]).map (·.2)).foldl (farS (kpL m)) ((allTo (fixL m) k).foldl (farS (kpL m)) (-1,[]))=farS (kpL m) ((pre.map (·.2)).foldl (farS (kpL m)) ((allTo (fixL m) k).foldl (farS (kpL m)) (-1,[]))) L):=by
     show _=_
     rw [List.map_append,List.foldl_append];rfl
    obtain⟨st,hst2⟩:∃ st,(pre.map (·.2)).foldl (farS (kpL m)) ((allTo (fixL m) k).foldl (farS (kpL m)) (-1,[]))=st:=⟨_,rfl⟩;simp only [hst2] at d C;clear hst2;have hkW:=d.kee.1;have MBW:=(d.kee.2 _ ⟨hmb,by omega,by omega,by omega⟩).trans HMB.out
    obtain⟨c0,c1',c2',c3',c4,c5,c6,c7,c8,c9,T⟩:=Zh (m:=m) MBW;have g3:=qH (f3.out _ L W d.low S);have z:=qH d;have hVV:=qH hv';have hXX:=qH (qI S hx2);have hLL:=qH (qI hll hr);clear d hv' S hx2 hll hr MBW hseq q0 q1 hA HCB
    gi_wp2_with fail
    refine⟨trivial,(fun h=>by cases h),(CallsIn.inRound ll (callsIn_wide.2 g3.out)).mono ?_⟩
    rintro e W4 ⟨rfl,b4⟩;have I:=z.out.below G.out b4;have hx4:=(hXX.out.1.below b4).mono b4.size;have k4:=qH b4;have hz4:=b4.size;have y0:=I.leg.cell;have y1:=I.leg.frozen;have y2:=I.sto.cell;have y3:=I.sto.frozen;have y4:=I.err.cell;have y5:=I.err.frozen;have MB4:Has W4 w.heap.size _ 26:=(I.kee.2 _ ⟨hmb,by omega,by omega,by omega⟩).trans HMB.out
    have c0':=cX 0 MB4 rfl;have jw1:qW qL ((m.ways.length:Int)-1)=(M:Int):=by rw [show (m.ways.length:Int)-1=(M:Int) by omega];exact zW2
    clear b4 c0 c1' c2' c3' c4 c5 c6 c7 c8 c9 T;obtain⟨s1,s2⟩:=st;obtain⟨av,cv,hvv⟩:∃ a c,v'=qS a s2.length c:=by obtain⟨_,a,c,h,_⟩:=I.val;exact⟨a,_,h⟩
    subst hvv;have H4:=qH (qI I hx4);clear I hx4 MB4;obtain⟨kp,hkp⟩:∃ x,kpL m L=x:=⟨_,rfl⟩;have HKP:=qH hkp;simp only [hkp];clear hkp;by_cases hgt:s1<kp
    ·have e1:decide (kp>s1)=true:=by rw [decide_eq_true_eq];exact hgt
     have V:Hid (farS (kpL m) (s1,s2) L=(kp,L)):=by
      show _=_
      unfold farS;rw [HKP.out,if_pos hgt]
     have U:=H4.out.1.upd G.out (st':=(kp,L)) H4.out.2 (fun r e=>by have:=hXX.out.2 r e;exact⟨by omega,by omega⟩)
     have MB5:Has _ w.heap.size _ 26:=(U.kee.2 _ ⟨hmb,by omega,by omega,by omega⟩).trans HMB.out
     have z0:=U.leg.cell;have z1:=U.leg.frozen;have z2:=U.sto.cell;have z3:=U.sto.frozen;have z4:=U.err.cell;have z5:=U.err.frozen;have z6:=cX 0 MB5 rfl;have HU:=qH U;clear U MB5;have R:=qH (fun b (g:b<W.heap.size) (h1:b≠(w.heap.size+1)) (h2:b≠(w.heap.size+1+1)) (h3:b≠(w.heap.size+1+1+1))=>(Below.heap_setCell (W4.setCell ⟨w.heap.size+1,0,none⟩ (O qL kp)) ⟨w.heap.size+1+1,0,none⟩ (qS ay L.length cy) b h2).trans ((Below.heap_setCell W4 ⟨w.heap.size+1,0,none⟩ (O qL kp) b h1).trans (k4.out.block b g)))
     have P:=qH (show W.heap.size<=((W4.setCell ⟨w.heap.size+1,0,none⟩ (O qL kp)).setCell ⟨w.heap.size+1+1,0,none⟩ (qS ay L.length cy)).heap.size by simp;omega)
     by_cases heq:kp=M
     ·have e2:((kp:Int) == (M:Int))=true:=by rw [beq_iff_eq];exact heq
      gi_wp2;subst heq;generalize hY:World.setCell (World.setCell W4 _ _) _ _=Y at *;have hL:=HU.out.leg;have hS:=HU.out.sto;have hE:=HU.out.err;refine Zi (ZT _ _) 4 (fun X=>Has X (w.heap.size+1) #[O qL (M:Int)] 3/\Has X (w.heap.size+1+1) #[(qS ay L.length cy)] 29) (by kernel_rfl) (by kernel_rfl) (by kernel_rfl) fun hH inv0=>?_
      refine sk hH 0 (O qL (M:Int)) (Zd rfl) inv0 (fun X hX=>?_) fun F=>?_
      ·have r:=hX.1.cell (i:=0) rfl;go_simp
      simp only [pT];refine sk hH 1 ((qS ay L.length cy)) (Zd rfl) F (fun X hX=>?_) fun Q=>?_
      ·have r:=hX.2.cell (i:=0) rfl;go_simp
      simp only [pT];have N:=Below.drew (qK Y.heap.size Y);have q:Has Y.drew (w.heap.size+1) #[O qL (M:Int)] 3:=hL;have t:Has Y.drew (w.heap.size+1+1) #[(qS ay L.length cy)] 29:=hS;have H:Has Y.drew (w.heap.size+1+1+1) #[O qL 0] 30:=hE;generalize Y.drew=X9 at *;refine sa1 (r:=2) ⟨q,t⟩ ?_;refine Z05 (Zd rfl) rfl (w':=X9.setCell ⟨w.heap.size+1,0,none⟩ (O qL (M:Int))) (by have r1:=Boxed.cell q;have r2:=Boxed.frozen q;go_simp) ?_
      simp only [pT];rw [Boxed.store q];refine sa1 (r:=3) ⟨q,t⟩ ?_;refine Z05 (Zd rfl) rfl (w':=X9.setCell ⟨w.heap.size+1+1,0,none⟩ (qS ay L.length cy)) (by have r1:=Boxed.cell t;have r2:=Boxed.frozen t;go_simp) ?_
      simp only [pT];rw [Boxed.store t];refine Zj (by kernel_rfl) ⟨q,t⟩ ?_
      simp only [List.drop_succ_cons,List.drop_zero];have r1:=Boxed.cell H;have r2:=Boxed.frozen H;clear inv0 F Q hH;gi_wp2;rw [Boxed.store H];have hk9:∀ b,b<W.heap.size->b≠(w.heap.size+1)->b≠(w.heap.size+1+1)->b≠(w.heap.size+1+1+1)->X9.heap[b]?=W.heap[b]?:=fun b g h1 h2 h3=>(N.block b (by have:=P.out;omega)).trans (R.out b g h1 h2 h3)
      have hz9:W.heap.size<=X9.heap.size:=Nat.le_trans P.out N.size;refine⟨(z.out.keeps G.out hz9 hk9 (f.heap.size+2) (f.heap.size+2+2) (by omega) (fun b=>b=f.heap.size+1\/b=f.heap.size\/∃ a,J=some a/\b=a.block/\b<Z.heap.size/\w.heap.size+4<=b) (fun b g=>by rcases g with h | h | ⟨a,-,-,h,h4⟩ <;> exact⟨by omega,by omega,by omega,by omega⟩)).1,(z.out.keeps G.out hz9 hk9 (f.heap.size+2) (f.heap.size+2+2) (by omega) (fun b=>b=f.heap.size+1\/b=f.heap.size\/∃ a,J=some a/\b=a.block/\b<Z.heap.size/\w.heap.size+4<=b) (fun b g=>by rcases g with h | h | ⟨a,-,-,h,h4⟩ <;> exact⟨by omega,by omega,by omega,by omega⟩)).2,⟨rfl,by rw [C.out,V.out]⟩,(qS ay L.length cy),?_,fun r e=>.inr ⟨_,⟨_,List.mem_append.2 (.inr (List.mem_singleton.2 rfl))⟩,e⟩⟩
      rw [C.out,V.out];exact HU.out.below G.out N
     ·have e2:((kp:Int) == (M:Int))=false:=by rw [beq_eq_false_iff_ne];exact heq
      gi_wp2;refine⟨(z.out.keeps G.out P.out R.out (f.heap.size+2) (f.heap.size+2+2) (by omega) (fun b=>b=f.heap.size+1\/b=f.heap.size\/∃ a,J=some a/\b=a.block/\b<Z.heap.size/\w.heap.size+4<=b) (fun b g=>by rcases g with h | h | ⟨a,-,-,h,h4⟩ <;> exact⟨by omega,by omega,by omega,by omega⟩)).1,(z.out.keeps G.out P.out R.out (f.heap.size+2) (f.heap.size+2+2) (by omega) (fun b=>b=f.heap.size+1\/b=f.heap.size\/∃ a,J=some a/\b=a.block/\b<Z.heap.size/\w.heap.size+4<=b) (fun b g=>by rcases g with h | h | ⟨a,-,-,h,h4⟩ <;> exact⟨by omega,by omega,by omega,by omega⟩)).2,(qS ay L.length cy),?_,fun r e=>.inr ⟨_,⟨_,List.mem_append.2 (.inr (List.mem_singleton.2 rfl))⟩,e⟩⟩
      rw [C.out,V.out];exact HU.out
    ·have e1:decide (kp>s1)=false:=by rw [decide_eq_false_iff_not];omega
     have V:Hid (farS (kpL m) (s1,s2) L=(s1,s2)):=by
      show _=_
      unfold farS;rw [HKP.out,if_neg hgt]
     have R:=qH (fun b (g:b<W.heap.size) (h1:b≠(w.heap.size+1)) (h2:b≠(w.heap.size+1+1)) (h3:b≠(w.heap.size+1+1+1))=>k4.out.block b g)
     have P:=qH hz4;have HU:=qH H4.out.1;by_cases heq:s1=M
     ·have e2:((s1:Int) == (M:Int))=true:=by rw [beq_iff_eq];exact heq
      gi_wp2;subst heq
      skip
      have hL:=HU.out.leg;have hS:=HU.out.sto;have hE:=HU.out.err;refine Zi (ZT _ _) 4 (fun X=>Has X (w.heap.size+1) #[O qL (M:Int)] 3/\Has X (w.heap.size+1+1) #[(qS av s2.length cv)] 29) (by kernel_rfl) (by kernel_rfl) (by kernel_rfl) fun hH inv0=>?_
      refine sk hH 0 (O qL (M:Int)) (Zd rfl) inv0 (fun X hX=>?_) fun F=>?_
      ·have r:=hX.1.cell (i:=0) rfl;go_simp
      simp only [pT];refine sk hH 1 ((qS av s2.length cv)) (Zd rfl) F (fun X hX=>?_) fun Q=>?_
      ·have r:=hX.2.cell (i:=0) rfl;go_simp
      simp only [pT];have N:=Below.drew (qK W4.heap.size W4);have q:Has W4.drew (w.heap.size+1) #[O qL (M:Int)] 3:=hL;have t:Has W4.drew (w.heap.size+1+1) #[(qS av s2.length cv)] 29:=hS;have H:Has W4.drew (w.heap.size+1+1+1) #[O qL 0] 30:=hE;generalize W4.drew=X9 at *;refine sa1 (r:=2) ⟨q,t⟩ ?_;refine Z05 (Zd rfl) rfl (w':=X9.setCell ⟨w.heap.size+1,0,none⟩ (O qL (M:Int))) (by have r1:=Boxed.cell q;have r2:=Boxed.frozen q;go_simp) ?_
      simp only [pT];rw [Boxed.store q];refine sa1 (r:=3) ⟨q,t⟩ ?_;refine Z05 (Zd rfl) rfl (w':=X9.setCell ⟨w.heap.size+1+1,0,none⟩ (qS av s2.length cv)) (by have r1:=Boxed.cell t;have r2:=Boxed.frozen t;go_simp) ?_
      simp only [pT];rw [Boxed.store t];refine Zj (by kernel_rfl) ⟨q,t⟩ ?_
      simp only [List.drop_succ_cons,List.drop_zero];have r1:=Boxed.cell H;have r2:=Boxed.frozen H;clear inv0 F Q hH;gi_wp2;rw [Boxed.store H];have hk9:∀ b,b<W.heap.size->b≠(w.heap.size+1)->b≠(w.heap.size+1+1)->b≠(w.heap.size+1+1+1)->X9.heap[b]?=W.heap[b]?:=fun b g h1 h2 h3=>(N.block b (by have:=P.out;omega)).trans (R.out b g h1 h2 h3)
      have hz9:W.heap.size<=X9.heap.size:=Nat.le_trans P.out N.size;refine⟨(z.out.keeps G.out hz9 hk9 (f.heap.size+2) (f.heap.size+2+2) (by omega) (fun b=>b=f.heap.size+1\/b=f.heap.size\/∃ a,J=some a/\b=a.block/\b<Z.heap.size/\w.heap.size+4<=b) (fun b g=>by rcases g with h | h | ⟨a,-,-,h,h4⟩ <;> exact⟨by omega,by omega,by omega,by omega⟩)).1,(z.out.keeps G.out hz9 hk9 (f.heap.size+2) (f.heap.size+2+2) (by omega) (fun b=>b=f.heap.size+1\/b=f.heap.size\/∃ a,J=some a/\b=a.block/\b<Z.heap.size/\w.heap.size+4<=b) (fun b g=>by rcases g with h | h | ⟨a,-,-,h,h4⟩ <;> exact⟨by omega,by omega,by omega,by omega⟩)).2,⟨rfl,by rw [C.out,V.out]⟩,(qS av s2.length cv),?_,fun r e=>(hVV.out r e).imp (fun h=>by omega) fun ⟨x,hx,e2⟩=>⟨x.1,⟨x.2,List.mem_append.2 (.inl hx)⟩,e2⟩⟩
      rw [C.out,V.out];exact HU.out.below G.out N
     ·have e2:((s1:Int) == (M:Int))=false:=by rw [beq_eq_false_iff_ne];exact heq
      gi_wp2;refine⟨(z.out.keeps G.out P.out R.out (f.heap.size+2) (f.heap.size+2+2) (by omega) (fun b=>b=f.heap.size+1\/b=f.heap.size\/∃ a,J=some a/\b=a.block/\b<Z.heap.size/\w.heap.size+4<=b) (fun b g=>by rcases g with h | h | ⟨a,-,-,h,h4⟩ <;> exact⟨by omega,by omega,by omega,by omega⟩)).1,(z.out.keeps G.out P.out R.out (f.heap.size+2) (f.heap.size+2+2) (by omega) (fun b=>b=f.heap.size+1\/b=f.heap.size\/∃ a,J=some a/\b=a.block/\b<Z.heap.size/\w.heap.size+4<=b) (fun b g=>by rcases g with h | h | ⟨a,-,-,h,h4⟩ <;> exact⟨by omega,by omega,by omega,by omega⟩)).2,(qS av s2.length cv),?_,fun r e=>(hVV.out r e).imp (fun h=>by omega) fun ⟨x,hx,e2⟩=>⟨x.1,⟨x.2,List.mem_append.2 (.inl hx)⟩,e2⟩⟩
      rw [C.out,V.out];exact HU.out
   case done =>
    rintro D xs W hD hxs ⟨-,v',d,hv'⟩ hK;have C:Hid (((xs.map (·.2)).foldl (farS (kpL m)) ((allTo (fixL m) k).foldl (farS (kpL m)) (-1,[])))=(allTo (fixL m) (k+1)).foldl (farS (kpL m)) (-1,[])):=by
     show _=_
     rw [hxs,Z1N,List.foldl_append]
    rw [C.out] at d;have hnd:D ∉ ds:=fun h=>by have:=hds D h;omega
    have z:=qH (show FarI (w.heap.size+1) (w.heap.size+1+1) (w.heap.size+1+1+1) w Z ((allTo (fixL m) (k+1)).foldl (farS (kpL m)) (-1,[])) (D::ds) v' W from⟨d.leg,d.sto,d.err,d.val,d.low,d.kee,fun E hE=>by
     rcases List.mem_cons.1 hE with h | h
     ·subst h;exact⟨by omega,hK⟩
     ·exact d.mar E h,List.nodup_cons.2 ⟨hnd,d.nod⟩,d.new⟩)
    clear d hv' hK C hseq q0 q1 hA HCB;have jw2:qW qL ((k:Int)+1)=(k:Int)+1:=zW2;go_wp2;refine⟨⟨_,_,_,_,_,_,_,_,_,_,_,_,_,_,_,_,_,_,_,_,_,_,_,_,_,_,_,_,_,_,_,_,_,_,k+1,D::ds,v',by omega,z.out,rfl⟩,?_⟩
    simp [intOf];omega
   case stop =>
    rintro D c pre W hD ⟨u,hu⟩ ⟨⟨rfl,htp⟩,v',d,hv'⟩ hK;have C:=Zb4 m (fun l=>by rw [<- hn1];exact htop.out l) hu hkl htp
    rw [C] at d;have hnd:D ∉ ds:=fun h=>by have:=hds D h;omega
    have z:=qH (show FarI (w.heap.size+1) (w.heap.size+1+1) (w.heap.size+1+1+1) w Z (bestP m) (D::ds) v' W from⟨d.leg,d.sto,d.err,d.val,d.low,d.kee,fun E hE=>by
     rcases List.mem_cons.1 hE with h | h
     ·subst h;exact⟨by omega,hK⟩
     ·exact d.mar E h,List.nodup_cons.2 ⟨hnd,d.nod⟩,d.new⟩)
    clear d hv' hK C hseq q0 q1 hA HCB hu htp;gi_wp2;refine FarI.leave G.out (D::ds) W z.out fun W' hW'=>?_
    obtain⟨av,cv,hvv⟩:∃ a c,v'=qS a (bestP m).2.length c:=by obtain⟨_,a,c,h,_⟩:=hW'.val;exact⟨a,_,h⟩
    subst hvv;have r1:=hW'.leg.cell;have r2:=hW'.sto.cell;have r3:=hW'.err.cell;exact⟨.tuple #[O qL (bestP m).1,qS av (bestP m).2.length cv,O qL 0],by simp [results,Tryz.f33,go_sem,r1,r2,r3],_,rfl,hW'.val,hW'.low,fun r e=>Nat.le_trans G.out.w (hW'.new r e).1⟩
  ·obtain rfl:k=(fixL m).length+1:=by omega
   have d1:decide ((((fixL m).length+1:Nat):Int)<((fixL m).length:Int)+1)=false:=by rw [decide_eq_false_iff_not];omega
   have C:Hid ((allTo (fixL m) ((fixL m).length+1)).foldl (farS (kpL m)) (-1,[])=bestP m):=rfl;rw [C.out] at hI;clear C;obtain⟨b1,b2,hbp⟩:∃ b1 b2,bestP m=(b1,b2):=⟨_,_,rfl⟩;rw [hbp] at hI;have HBP:=qH hbp;clear hbp;obtain⟨av,cv,hvv⟩:∃ a c,v=qS a b2.length c:=by obtain⟨_,a,c,h,_⟩:=hI.val;exact⟨a,_,h⟩
   subst hvv;have z:=qH hI;clear hI;go_wp2;refine (wpIn_wide (n:=9)).1 ?_;have hL:=z.out.leg;have hS:=z.out.sto;have hE:=z.out.err;refine Zi (Zk _) 4 (fun X=>Has X (w.heap.size+1) #[O qL b1] 3/\Has X (w.heap.size+1+1) #[(qS av b2.length cv)] 29) (by kernel_rfl) (by kernel_rfl) (by kernel_rfl) fun hH inv0=>?_
   refine sk hH 0 (O qL b1) (Zd rfl) inv0 (fun X hX=>?_) fun F=>?_
   ·have r:=hX.1.cell (i:=0) rfl;go_simp
   simp only [pT];refine sk hH 1 ((qS av b2.length cv)) (Zd rfl) F (fun X hX=>?_) fun Q=>?_
   ·have r:=hX.2.cell (i:=0) rfl;go_simp
   simp only [pT];have N:=Below.drew (qK f.heap.size f);have q:Has f.drew (w.heap.size+1) #[O qL b1] 3:=hL;have t:Has f.drew (w.heap.size+1+1) #[(qS av b2.length cv)] 29:=hS;have H:Has f.drew (w.heap.size+1+1+1) #[O qL 0] 30:=hE;generalize f.drew=X9 at *;refine sa1 (r:=2) ⟨q,t⟩ ?_;refine Z05 (Zd rfl) rfl (w':=X9.setCell ⟨w.heap.size+1,0,none⟩ (O qL b1)) (by have r1:=Boxed.cell q;have r2:=Boxed.frozen q;go_simp) ?_
   simp only [pT];rw [Boxed.store q];refine sa1 (r:=3) ⟨q,t⟩ ?_;refine Z05 (Zd rfl) rfl (w':=X9.setCell ⟨w.heap.size+1+1,0,none⟩ (qS av b2.length cv)) (by have r1:=Boxed.cell t;have r2:=Boxed.frozen t;go_simp) ?_
   simp only [pT];rw [Boxed.store t];refine Zj (by kernel_rfl) ⟨q,t⟩ ?_
   simp only [List.drop_succ_cons,List.drop_zero];have r1:=Boxed.cell H;have r2:=Boxed.frozen H;clear inv0 F Q hH;gi_wp2;rw [Boxed.store H];go_wp2;have h9:=z.out.below G.out N;refine FarI.leave G.out ds X9 h9 fun W' hW'=>?_
   have r1:=hW'.leg.cell;have r2:=hW'.sto.cell;have r3:=hW'.err.cell;exact⟨.tuple #[O qL b1,qS av b2.length cv,O qL 0],by simp [results,Tryz.f33,go_sem,r1,r2,r3],_,by rw [HBP.out],by rw [HBP.out];exact hW'.val,hW'.low,fun r e=>Nat.le_trans G.out.w (hW'.new r e).1⟩
end
section
attribute [local irreducible] wpQuiet
open Go.RowKit
theorem Zcs (m:Msn) (vw vh vr:Value) (w:World) (hm:MsnAt w.heap.size w m vw vh vr) (hV:validB m=false) :
  Calls Tryz.prog 33 #[.agg (Zc m vw vh vr)] w fun e w'=>e=qR (.tuple #[O qL 0,qS none 0 0,O qL 1])/\Below w.heap.size w w':=by
 have g:=fun k (B:Below w.heap.size w k)=>Z0V m vw vh vr k ((hm.below B).mono B.size)
 rw [hV] at g;obtain⟨⟨-,X,z,rfl,-⟩,⟨-,a2,A,rfl,-⟩,⟨-,U,x,rfl,-⟩⟩:=hm;unfold Zc at *;replace g:=qH g;have c:=qH (qK w.heap.size w);refine (callsIn_wide (n:=9)).1 ?_;refine callsIn_of_wp_marks Tryz.func33 rfl trivial ?_ rfl;simp only [Tryz.ntmps33,List.size_toArray,List.length_cons,List.length_nil,Nat.reduceAdd,Nat.reduceSub,Array.replicate_succ,Array.replicate_zero,List.push_toArray,List.append_toArray,List.nil_append,List.cons_append];refine wpIn_wide.2 ?_;go_wp2_with fail;generalize b:qV (qV (qV (qV w _) _) _) _=X0;obtain⟨u,t,q,s,y,D⟩:=box4 b;clear b;have c:=qH y;clear y;have G:=qH u;clear u;have E:=qH t;clear t;have N:=qH q;clear q;have S:=qH s;clear s;obtain⟨I,z,A,x,M,T,J,K,R,P,o⟩:=Zh (m:=m) G.out;refine (g.out _ c.out).mono ?_;rintro e k ⟨rfl,l⟩;replace c:=zAd c l;have a:=qH l;clear l I z A x M T J K R P o;have f:=(zCj E a);have d:=(zCj N a);have j:=(zCj S a);have Z:=Boxed.cell f;have l1:=Boxed.frozen f;have V:=Boxed.cell d;have W:=Boxed.frozen d;have e0:=Boxed.cell j;have Y:=Boxed.frozen j;have v:=((Boxed.set (O qL 0) f).other (by omega:w.heap.size+1≠w.heap.size+1+1) (qS none 0 0)).other (by omega:w.heap.size+1≠w.heap.size+1+1+1) (O qL 1)
 have C:=((Boxed.other d (by omega:w.heap.size+1+1≠w.heap.size+1) (O qL 0)).set (qS none 0 0)).other (by omega:w.heap.size+1+1≠w.heap.size+1+1+1) (O qL 1)
 have r:=((Boxed.other j (by omega:w.heap.size+1+1+1≠w.heap.size+1) (O qL 0)).other (by omega:w.heap.size+1+1+1≠w.heap.size+1+1) (qS none 0 0)).set (O qL 1)
 have L:=v.cell;have Q:=C.cell;have H:=r.cell;have F:=qH (((c.out.setCell (p:=⟨w.heap.size+1,0,none⟩) (by simp) (O qL 0)).setCell (p:=⟨w.heap.size+1+1,0,none⟩) (by simp;omega) (qS none 0 0)).setCell (p:=⟨w.heap.size+1+1+1,0,none⟩) (by simp;omega) (O qL 1))
 clear f d j v C r;go_wp2;exact⟨.tuple #[O qL 0,qS none 0 0,O qL 1],by simp [results,Tryz.f33,go_sem,L,Q,H],rfl,F.out⟩
noncomputable def bsB (m:Msn):Bool:=validB m && decide ((bestP m).1=((m.ways.length-1:Nat):Int))
noncomputable def bsL (m:Msn):List Int:=if bsB m=true then (bestP m).2 else []
noncomputable def rfB (m:Msn):Bool:=validB m && !decide ((bestP m).1=((m.ways.length-1:Nat):Int))
noncomputable def rfL (m:Msn):List Int:=if rfB m=true then (bestP m).2 else []
noncomputable def rfG (m:Msn):Int:=if rfB m=true then (bestP m).1 else 0
noncomputable def plE (m:Msn):Int:=if validB m=true then 0 else 1
theorem Z88 (m:Msn):(bestP m).1<=((m.ways.length-1:Nat):Int):=by
 unfold bestP farL;have:∀ (L:List (List Int)) (s:Int × List Int),s.1<=((m.ways.length-1:Nat):Int)->(L.foldl (farS (kpL m)) s).1<=((m.ways.length-1:Nat):Int):=by
  intro L
  induction L with
  | nil=>intro s h;exact h
  | cons x L ih =>
   intro s h;rw [List.foldl_cons];refine ih _ ?_;unfold farS
   split
   ·exact Za1 m x
   ·exact h
 exact this _ _ (by simp only;omega)
theorem Z9i (m:Msn) (vw vh vr:Value) (w:World) (hm:MsnAt w.heap.size w m vw vh vr) (h13:m.ways.length<=13) :
  Calls Tryz.prog 8 #[.agg (Zc m vw vh vr)] w fun e w'=>∃ v,e=qR (.tuple #[v,.bool (bsB m),O qL (plE m)])/\Z8 w'.heap.size w' v (bsL m)/\Below w.heap.size w w'/\∀ r,v.ownBlock=some r->w.heap.size<=r:=by
 cases hV:validB m
 ·simp only [bsB,bsL,rfB,rfL,rfG,plE,hV,Bool.false_and,Bool.false_eq_true,if_false]
  have g:=fun n (B:Below w.heap.size w n)=>Zcs m vw vh vr n ((hm.below B).mono B.size) hV
  obtain⟨⟨-,F,M,rfl,-⟩,⟨-,P,N,rfl,-⟩,⟨-,E,L,rfl,-⟩⟩:=hm;unfold Zc at *;replace g:=qH g;have c:=qH (qK w.heap.size w);go_enter Tryz.func8,Tryz.ntmps8;go_wp2_with fail;generalize a:qV w _=X0;obtain⟨l,o,k⟩:=box1 a;clear a;have c:=qH o;clear o;have u:=qH l;clear l;refine (g.out _ c.out).mono ?_;rintro e n ⟨rfl,b⟩;replace c:=zAd c b;have d:=qH b;clear b;go_wp2;go_ret3;exact⟨_,rfl,Z8.nil _ _,c.out,(fun r e=>by cases e)⟩
 ·have n2:=((Zm m).1 hV).n2
  have y:=Z88 m;have g:=fun n (B:Below w.heap.size w n)=>Zax m vw vh vr n ((hm.below B).mono B.size) hV h13
  obtain⟨⟨-,F,M,rfl,-⟩,⟨-,P,N,rfl,-⟩,⟨-,E,L,rfl,-⟩⟩:=hm;simp only [bsB,bsL,rfB,rfL,rfG,plE,hV,Bool.true_and,if_true];unfold Zc at *;have J:qW qL ((m.ways.length:Int)-1)=((m.ways.length-1:Nat):Int):=by rw [show ((m.ways.length:Int)-1)=((m.ways.length-1:Nat):Int) by omega];exact zW2
  obtain⟨j,t⟩:∃ j,m.ways.length-1=j:=⟨_,rfl⟩;simp only [t] at J y ⊢;obtain⟨b,z,s⟩:∃ b z,bestP m=(b,z):=⟨_,_,rfl⟩;simp only [s] at g y ⊢;clear s;replace g:=qH g;clear t;have c:=qH (qK w.heap.size w);by_cases heq:b=j
  all_goals simp only [heq,decide_true,decide_false,Bool.not_true,Bool.not_false,if_true,Bool.false_eq_true,if_false]
  ·subst heq
   have G:((j:Int) == (j:Int))=true:=by simp
   have C:decide ((j:Int)<(j:Int))=false:=by simp
   go_enter Tryz.func8,Tryz.ntmps8;go_wp2_with fail;generalize a:qV w _=X0;obtain⟨l,o,k⟩:=box1 a;clear a;have c:=qH o;clear o;have u:=qH l;clear l;refine (g.out _ c.out).mono ?_;rintro e n ⟨I,rfl,q,b,f⟩;replace c:=zAd c b;have d:=qH b;clear b;have x:=qH q;clear q;have A:=qH f;clear f;obtain⟨-,D,K,p,-⟩:=x.out;subst p;have H:=(zCj u d).cell (i:=0) rfl;go_wp2;go_ret3;exact⟨_,rfl,x.out,c.out,(fun r e=>by have:=A.out r e;omega)⟩
  ·have G:((b:Int) == (j:Int))=false:=by rw [beq_eq_false_iff_ne];exact heq
   have C:decide ((b:Int)<(j:Int))=true:=by rw [decide_eq_true_eq];omega
   clear y;go_enter Tryz.func8,Tryz.ntmps8;go_wp2_with fail;generalize a:qV w _=X0;obtain⟨l,o,k⟩:=box1 a;clear a;have c:=qH o;clear o;have u:=qH l;clear l;refine (g.out _ c.out).mono ?_;rintro e n ⟨I,rfl,q,b,f⟩;replace c:=zAd c b;have d:=qH b;clear b;have x:=qH q;clear q;have A:=qH f;clear f;obtain⟨-,D,K,p,-⟩:=x.out;subst p;have H:=(zCj u d).cell (i:=0) rfl;go_wp2;go_ret3;exact⟨_,rfl,Z8.nil _ _,c.out,(fun r e=>by cases e)⟩
theorem Z5w (m:Msn) (vw vh vr:Value) (w:World) (hm:MsnAt w.heap.size w m vw vh vr) (h13:m.ways.length<=13) :
  Calls Tryz.prog 9 #[.agg (Zc m vw vh vr)] w fun e w'=>∃ v,e=qR (.tuple #[O qL (rfG m),v,.bool (rfB m),O qL (plE m)])/\Z8 w'.heap.size w' v (rfL m)/\Below w.heap.size w w'/\∀ r,v.ownBlock=some r->w.heap.size<=r:=by
 cases hV:validB m
 ·simp only [bsB,bsL,rfB,rfL,rfG,plE,hV,Bool.false_and,Bool.false_eq_true,if_false]
  have g:=fun n (B:Below w.heap.size w n)=>Zcs m vw vh vr n ((hm.below B).mono B.size) hV
  obtain⟨⟨-,G,M,rfl,-⟩,⟨-,P,N,rfl,-⟩,⟨-,F,L,rfl,-⟩⟩:=hm;unfold Zc at *;replace g:=qH g;have c:=qH (qK w.heap.size w);go_enter Tryz.func9,Tryz.ntmps9;go_wp2_with fail;generalize a:qV w _=X0;obtain⟨l,o,k⟩:=box1 a;clear a;have c:=qH o;clear o;have x:=qH l;clear l;refine (g.out _ c.out).mono ?_;rintro e n ⟨rfl,b⟩;replace c:=zAd c b;have d:=qH b;clear b;go_wp2;refine bodyPost_ret (v:=.tuple #[O qL 0,qS none 0 0,.bool false,O qL 1]) (by simp [results,Tryz.f9,go_sem]) rfl ⟨_,rfl,Z8.nil _ _,c.out,(fun r e=>by cases e)⟩
 ·have n2:=((Zm m).1 hV).n2
  have z:=Z88 m;have g:=fun n (B:Below w.heap.size w n)=>Zax m vw vh vr n ((hm.below B).mono B.size) hV h13
  obtain⟨⟨-,G,M,rfl,-⟩,⟨-,P,N,rfl,-⟩,⟨-,F,L,rfl,-⟩⟩:=hm;simp only [bsB,bsL,rfB,rfL,rfG,plE,hV,Bool.true_and,if_true];unfold Zc at *;have K:qW qL ((m.ways.length:Int)-1)=((m.ways.length-1:Nat):Int):=by rw [show ((m.ways.length:Int)-1)=((m.ways.length-1:Nat):Int) by omega];exact zW2
  obtain⟨j,t⟩:∃ j,m.ways.length-1=j:=⟨_,rfl⟩;simp only [t] at K z ⊢;obtain⟨b,u,s⟩:∃ b u,bestP m=(b,u):=⟨_,_,rfl⟩;simp only [s] at g z ⊢;clear s;replace g:=qH g;clear t;have c:=qH (qK w.heap.size w);by_cases heq:b=j
  all_goals simp only [heq,decide_true,decide_false,Bool.not_true,Bool.not_false,if_true,Bool.false_eq_true,if_false]
  ·subst heq
   have H:((j:Int) == (j:Int))=true:=by simp
   have E:decide ((j:Int)<(j:Int))=false:=by simp
   go_enter Tryz.func9,Tryz.ntmps9;go_wp2_with fail;generalize a:qV w _=X0;obtain⟨l,o,k⟩:=box1 a;clear a;have c:=qH o;clear o;have x:=qH l;clear l;refine (g.out _ c.out).mono ?_;rintro e n ⟨J,rfl,q,b,f⟩;replace c:=zAd c b;have d:=qH b;clear b;have y:=qH q;clear q;have D:=qH f;clear f;obtain⟨-,A,C,p,-⟩:=y.out;subst p;have I:=(zCj x d).cell (i:=0) rfl;go_wp2;refine bodyPost_ret (v:=.tuple #[O qL 0,qS none 0 0,.bool false,O qL 0]) (by simp [results,Tryz.f9,go_sem]) rfl ⟨_,rfl,Z8.nil _ _,c.out,(fun r e=>by cases e)⟩
  ·have H:((b:Int) == (j:Int))=false:=by rw [beq_eq_false_iff_ne];exact heq
   have E:decide ((b:Int)<(j:Int))=true:=by rw [decide_eq_true_eq];omega
   clear z;go_enter Tryz.func9,Tryz.ntmps9;go_wp2_with fail;generalize a:qV w _=X0;obtain⟨l,o,k⟩:=box1 a;clear a;have c:=qH o;clear o;have x:=qH l;clear l;refine (g.out _ c.out).mono ?_;rintro e n ⟨J,rfl,q,b,f⟩;replace c:=zAd c b;have d:=qH b;clear b;have y:=qH q;clear q;have D:=qH f;clear f;obtain⟨-,A,C,p,-⟩:=y.out;subst p;have I:=(zCj x d).cell (i:=0) rfl;go_wp2;refine bodyPost_ret (v:=.tuple #[O qL b,qS A u.length (u.length+C),.bool true,O qL 0]) (by simp [results,Tryz.f9,go_sem]) rfl ⟨_,rfl,y.out,c.out,(fun r e=>by have:=D.out r e;omega)⟩
instance (l:List Pt) (s t:Pt):Decidable (Nx l s t):=by unfold Nx;infer_instance
def hullB (l h:List Pt):Bool:=decide (l≠[]/\1<=h.length/\(nth h 0 ∈ l/\∀ x,x ∈ l->¬ LexLt x (nth h 0))/\(∀ i,i<h.length->Nx l (nth h i) (nth h ((i+1) % h.length)))/\(∀ i,i<h.length->0<i->nth h i≠nth h 0))
theorem Z0l {l h:List Pt} (k:hullB l h=true):hullP l=h:=by
 simp only [hullB,decide_eq_true_eq] at k;obtain⟨f,b,c,d,a⟩:=k;exact (Z3a ⟨fun e=>absurd e f,fun _=>b,fun _=>c,d,fun i h0 hi=>a i hi h0⟩).symm
theorem Zcv:Z4 0=[⟨0,0⟩]:=Z0l (by decide +kernel)
theorem Zcu:Z4 2=[⟨-2,-1⟩,⟨-1,-2⟩,⟨1,-2⟩,⟨2,-1⟩,⟨2,1⟩,⟨1,2⟩,⟨-1,2⟩,⟨-2,1⟩]:=Z0l (by decide +kernel)
theorem Z35 {ax ay bx by' n : Int} (h0 : 0 <= n) (h : (ax-bx) * (ax-bx) + (ay-by') * (ay-by') <= n * n) (h2 : (n-1) * (n-1) < (ax-bx) * (ax-bx) + (ay-by') * (ay-by')) : distV ax ay bx by' = n := by
 unfold distV;generalize (ax-bx)*(ax-bx)+(ay-by')*(ay-by')=s at *
 have hs:=Z3t (s:=s) (by
  have:0<=(n-1)*(n-1):=by
   rcases Int.le_total 0 (n-1) with h | h
   ·exact Int.mul_nonneg h h
   ·have:=Int.mul_nonneg (show 0<=-(n-1) by omega) (show 0<=-(n-1) by omega)
    rwa [Int.neg_mul_neg] at this
  omega)
 have c:=hs.2.2 n h0 h;rcases Int.lt_or_le (rootUp s) n with a | a
 ·have b:=Int.mul_le_mul (show rootUp s<=n-1 by omega) (show rootUp s<=n-1 by omega) hs.1 (by omega)
  have:=hs.2.1;omega
 ·omega
end
def roX:List Pt:=[⟨185,90⟩,⟨190,15⟩,⟨195,90⟩]
def hmA:List Pt:=[⟨-100,-100⟩,⟨100,-100⟩,⟨100,100⟩,⟨-100,100⟩]
def hmB:List Pt:=[⟨0,0⟩]
def exP (h:List Pt):Msn:=⟨[⟨0,0,0,0,0⟩,⟨100,0,2,0,0⟩,⟨200,0,0,0,0⟩],h,0,[roX],10000,100,0,0,0,1000,1000⟩
theorem Z7T (h:List Pt):dLeg (exP h) 0 1=100/\dLeg (exP h) 1 2=100/\dLeg (exP h) 1 0=100/\dLeg (exP h) 2 0=200 :=
 ⟨show distV 0 0 100 0=100 from Z35 (by decide) (by decide) (by decide),show distV 100 0 200 0=100 from Z35 (by decide) (by decide) (by decide),show distV 100 0 0 0=100 from Z35 (by decide) (by decide) (by decide),show distV 200 0 0 0=200 from Z35 (by decide) (by decide) (by decide)⟩
theorem Z2k (h:List Pt):gLeg (exP h) 0 1=10/\gLeg (exP h) 1 2=10/\gLeg (exP h) 1 0=10/\gLeg (exP h) 2 0=20:=by
 obtain⟨d,a,b,c⟩:=Z7T h;unfold gLeg;rw [d,a,b,c];exact⟨show growthV 10000 100 0 100=10 by decide,show growthV 10000 100 0 100=10 by decide,show growthV 10000 100 0 100=10 by decide,show growthV 10000 100 0 200=20 by decide⟩
theorem Z3U (h:List Pt):tLeg (exP h) 0 1=1/\tLeg (exP h) 1 2=1/\tLeg (exP h) 1 0=1/\tLeg (exP h) 2 0=2:=by
 obtain⟨d,a,b,c⟩:=Z7T h;unfold tLeg;rw [d,a,b,c];exact⟨show lastsV 10000 100=1 by decide,show lastsV 10000 100=1 by decide,show lastsV 10000 100=1 by decide,show lastsV 10000 200=2 by decide⟩
theorem Z6d (h:List Pt):grownV (exP h)=50:=by
 obtain⟨d,a,b,c⟩:=Z2k h
 show (0:Int)+(gLeg (exP h) 0 1+gLeg (exP h) 1 0)+(gLeg (exP h) 1 2+gLeg (exP h) 2 0)=50
 rw [d,a,b,c]
 rfl
theorem Z09:Zb roX=true:=by rw [Z0s];decide +kernel
theorem Z0I:Zb hmA=true:=by rw [Z0s];decide +kernel
theorem Z6c {h:List Pt} (hh:Zb h=true):validB (exP h)=true:=by
 rw [Zm];refine⟨by show 2<=3;decide,by show 3<=41;decide,by show 1<=100;decide,by show waysB [⟨0,0,0,0,0⟩,⟨100,0,2,0,0⟩,⟨200,0,0,0,0⟩]=true;decide,hh,?_,by show (0:Int)<=0/\(0:Int)<=100000;decide,by show (1:Int)<=10000/\(10000:Int)<=20000/\(0:Int)<=100/\(100:Int)<=500/\(0:Int)<=0/\(0:Int)<=5000;decide,by show (0:Int)<=0/\(0:Int)<=1000;decide,by show (0:Int)<=0/\(0:Int)<=1000;decide,by show (0:Int)<=1000/\(1000:Int)<=1000000000;decide,by show (0:Int)<=1000/\(1000:Int)<=1000000000;decide,by rw [Z6d];decide⟩
 simp only [rocksB,exP];refine decide_eq_true fun j hj=>?_
 obtain rfl:j=0:=by simp at hj;omega
 exact Z09
theorem exP_e (h:List Pt) (i j:Nat):eLeg (exP h) i j=0:=by simp [eLeg,exP]
theorem Z6l {h:List Pt} {a b:Nat} {u w:Int} {c:List Pt} {t:Bool} (hc:corL (atW (exP h) a) u (atW (exP h) b) w=c) (hv:Zb c=true) (ht:touchB c roX=t):clrB (exP h) a u b w=!t:=by
 unfold clrB;rw [hc,show (exP h).rocks=[roX] from rfl,(Zat hv Z09).1,ht]
set_option maxRecDepth 100000 in
theorem Z2E:Z4 10=[⟨-10,-5⟩,⟨-5,-10⟩,⟨5,-10⟩,⟨10,-5⟩,⟨10,5⟩,⟨5,10⟩,⟨-5,10⟩,⟨-10,5⟩]:=Z0l (by decide +kernel)
set_option maxRecDepth 100000 in
theorem Z5p:Z4 12=[⟨-12,-5⟩,⟨-5,-12⟩,⟨5,-12⟩,⟨12,-5⟩,⟨12,5⟩,⟨5,12⟩,⟨-5,12⟩,⟨-12,5⟩]:=Z0l (by decide +kernel)
set_option maxRecDepth 100000 in
theorem Z3X:Z4 20=[⟨-20,-9⟩,⟨-9,-20⟩,⟨9,-20⟩,⟨20,-9⟩,⟨20,9⟩,⟨9,20⟩,⟨-9,20⟩,⟨-20,9⟩]:=Z0l (by decide +kernel)
set_option maxRecDepth 100000 in
theorem Z76:Z4 32=[⟨-32,-14⟩,⟨-14,-32⟩,⟨14,-32⟩,⟨32,-14⟩,⟨32,14⟩,⟨14,32⟩,⟨-14,32⟩,⟨-32,14⟩]:=Z0l (by decide +kernel)
def c1L:List Pt:=[⟨0,0⟩,⟨95,-10⟩,⟨105,-10⟩,⟨110,-5⟩,⟨110,5⟩,⟨105,10⟩,⟨95,10⟩]
theorem Z83:Zb c1L=true:=by rw [Z0s];decide +kernel
theorem c1_cor:corL ⟨0,0⟩ 0 ⟨100,0⟩ 10=c1L:=by
 have e:corE ⟨0,0⟩ 0 ⟨100,0⟩ 10=0:=by
  unfold corE;rw [show (0:Int).toNat=0 from rfl,show (10:Int).toNat=10 from rfl,Zcv,Z2E]
  decide +kernel
 unfold corL;rw [if_pos e];unfold corH;rw [show (0:Int).toNat=0 from rfl,show (10:Int).toNat=10 from rfl,Zcv,Z2E]
 exact Z0l (by decide +kernel)
theorem Zcf:touchB c1L roX=false:=by
 have a:cornersP c1L roX=[]:=by unfold cornersP;rw [ZJ Z09];decide +kernel
 have b:cornersP roX c1L=[]:=by unfold cornersP;rw [ZJ Z83];decide +kernel
 have c:crossP c1L roX=[]:=by decide +kernel
 unfold touchB sharedP;rw [a,b,c];simp
theorem Zb0 (h:List Pt):clrB (exP h) 0 0 1 10=true:=Z6l (h:=h) (a:=0) (b:=1) (u:=0) (w:=10) c1_cor Z83 Zcf
def c2L:List Pt:=[⟨-20,-9⟩,⟨-9,-20⟩,⟨9,-20⟩,⟨105,-10⟩,⟨110,-5⟩,⟨110,5⟩,⟨105,10⟩,⟨9,20⟩,⟨-9,20⟩,⟨-20,9⟩]
theorem Z82:Zb c2L=true:=by rw [Z0s];decide +kernel
theorem c2_cor:corL ⟨100,0⟩ 10 ⟨0,0⟩ 20=c2L:=by
 have e:corE ⟨100,0⟩ 10 ⟨0,0⟩ 20=0:=by
  unfold corE;rw [show (10:Int).toNat=10 from rfl,show (20:Int).toNat=20 from rfl,Z2E,Z3X]
  decide +kernel
 unfold corL;rw [if_pos e];unfold corH;rw [show (10:Int).toNat=10 from rfl,show (20:Int).toNat=20 from rfl,Z2E,Z3X]
 exact Z0l (by decide +kernel)
theorem Zce:touchB c2L roX=false:=by
 have a:cornersP c2L roX=[]:=by unfold cornersP;rw [ZJ Z09];decide +kernel
 have b:cornersP roX c2L=[]:=by unfold cornersP;rw [ZJ Z82];decide +kernel
 have c:crossP c2L roX=[]:=by decide +kernel
 unfold touchB sharedP;rw [a,b,c];simp
theorem ZaZ (h:List Pt):clrB (exP h) 1 10 0 20=true:=Z6l (h:=h) (a:=1) (b:=0) (u:=10) (w:=20) c2_cor Z82 Zce
def c3L:List Pt:=[⟨90,-5⟩,⟨95,-10⟩,⟨191,-20⟩,⟨209,-20⟩,⟨220,-9⟩,⟨220,9⟩,⟨209,20⟩,⟨191,20⟩,⟨95,10⟩,⟨90,5⟩]
theorem Z1M:Zb c3L=true:=by rw [Z0s];decide +kernel
theorem Zcz:corL ⟨100,0⟩ 10 ⟨200,0⟩ 20=c3L:=by
 have e:corE ⟨100,0⟩ 10 ⟨200,0⟩ 20=0:=by
  unfold corE;rw [show (10:Int).toNat=10 from rfl,show (20:Int).toNat=20 from rfl,Z2E,Z3X]
  decide +kernel
 unfold corL;rw [if_pos e];unfold corH;rw [show (10:Int).toNat=10 from rfl,show (20:Int).toNat=20 from rfl,Z2E,Z3X]
 exact Z0l (by decide +kernel)
theorem Z81:touchB c3L roX=true:=by
 have b:cornersP roX c3L=[⟨190,15⟩]:=by unfold cornersP;rw [ZJ Z1M];decide +kernel
 unfold touchB sharedP;rw [b,Z1M,Z09];simp
theorem ZcA (h:List Pt):clrB (exP h) 1 10 2 20=false:=Z6l (h:=h) (a:=1) (b:=2) (u:=10) (w:=20) Zcz Z1M Z81
def c4L:List Pt:=[⟨98,-1⟩,⟨99,-2⟩,⟨195,-12⟩,⟨205,-12⟩,⟨212,-5⟩,⟨212,5⟩,⟨205,12⟩,⟨195,12⟩,⟨99,2⟩,⟨98,1⟩]
theorem Z80:Zb c4L=true:=by rw [Z0s];decide +kernel
theorem c4_cor:corL ⟨100,0⟩ 2 ⟨200,0⟩ 12=c4L:=by
 have e:corE ⟨100,0⟩ 2 ⟨200,0⟩ 12=0:=by
  unfold corE;rw [show (2:Int).toNat=2 from rfl,show (12:Int).toNat=12 from rfl,Zcu,Z5p]
  decide +kernel
 unfold corL;rw [if_pos e];unfold corH;rw [show (2:Int).toNat=2 from rfl,show (12:Int).toNat=12 from rfl,Zcu,Z5p]
 exact Z0l (by decide +kernel)
theorem Zcd:touchB c4L roX=false:=by
 have a:cornersP c4L roX=[]:=by unfold cornersP;rw [ZJ Z09];decide +kernel
 have b:cornersP roX c4L=[]:=by unfold cornersP;rw [ZJ Z80];decide +kernel
 have c:crossP c4L roX=[]:=by decide +kernel
 unfold touchB sharedP;rw [a,b,c];simp
theorem c4_clr (h:List Pt):clrB (exP h) 1 2 2 12=true:=Z6l (h:=h) (a:=1) (b:=2) (u:=2) (w:=12) c4_cor Z80 Zcd
def c5L:List Pt:=[⟨-32,-14⟩,⟨-14,-32⟩,⟨14,-32⟩,⟨205,-12⟩,⟨212,-5⟩,⟨212,5⟩,⟨205,12⟩,⟨14,32⟩,⟨-14,32⟩,⟨-32,14⟩]
theorem Z7Z:Zb c5L=true:=by rw [Z0s];decide +kernel
theorem c5_cor:corL ⟨200,0⟩ 12 ⟨0,0⟩ 32=c5L:=by
 have e:corE ⟨200,0⟩ 12 ⟨0,0⟩ 32=0:=by
  unfold corE;rw [show (12:Int).toNat=12 from rfl,show (32:Int).toNat=32 from rfl,Z5p,Z76]
  decide +kernel
 unfold corL;rw [if_pos e];unfold corH;rw [show (12:Int).toNat=12 from rfl,show (32:Int).toNat=32 from rfl,Z5p,Z76]
 exact Z0l (by decide +kernel)
theorem Zcc:touchB c5L roX=false:=by
 have a:cornersP c5L roX=[]:=by unfold cornersP;rw [ZJ Z09];decide +kernel
 have b:cornersP roX c5L=[]:=by unfold cornersP;rw [ZJ Z7Z];decide +kernel
 have c:crossP c5L roX=[]:=by decide +kernel
 unfold touchB sharedP;rw [a,b,c];simp
theorem c5_clr (h:List Pt):clrB (exP h) 2 12 0 32=true:=Z6l (h:=h) (a:=2) (b:=0) (u:=12) (w:=32) c5_cor Z7Z Zcc
theorem Z2w:lieB (exP hmA) 20=true:=by
 unfold lieB;rw [show (20:Int).toNat=20 from rfl,Z3X]
 unfold cornersP;rw [show (exP hmA).home=hmA from rfl,ZJ Z0I]
 decide +kernel
theorem Z8B:lieB (exP hmA) 32=true:=by
 unfold lieB;rw [show (32:Int).toNat=32 from rfl,Z76]
 unfold cornersP;rw [show (exP hmA).home=hmA from rfl,ZJ Z0I]
 decide +kernel
theorem Z3e (h:List Pt):dep (exP h) 1=1/\dep (exP h) 2=1:=⟨rfl,rfl⟩
theorem Zct (h:List Pt):rdA (exP h) [] 0=0/\rdB (exP h) [] 1=10/\rdA (exP h) [] 1=10/\rdB (exP h) [] 2=20:=by
 obtain⟨e,d,f,g⟩:=Z2k h;have b:rdA (exP h) [] 0=0:=rfl;have a:rdB (exP h) [] 1=10:=by rw [Z0Q,b,e];rfl
 have c:rdA (exP h) [] 1=10:=by rw [Z0R,if_neg (by simp),a]
 exact⟨b,a,c,by rw [Z0Q,c,d];rfl⟩
theorem ZaF (h:List Pt):rdA (exP h) [1] 0=0/\rdB (exP h) [1] 1=10/\rdA (exP h) [1] 1=2/\rdB (exP h) [1] 2=12:=by
 obtain⟨e,d,f,g⟩:=Z2k h;have b:rdA (exP h) [1] 0=0:=rfl;have a:rdB (exP h) [1] 1=10:=by rw [Z0Q,b,e];rfl
 have c:rdA (exP h) [1] 1=2:=by rw [Z0R,if_pos (by simp),a];rfl
 exact⟨b,a,c,by rw [Z0Q,c,d];rfl⟩
theorem Z7S (h:List Pt) (l:List Int):usE (exP h) l 1=0/\usE (exP h) l 2=0/\usT (exP h) l 1<=10/\usT (exP h) l 2<=10:=by
 obtain⟨d,b,e,f⟩:=Z3U h;have a:∀ k,waitT (exP h) l k=0:=fun k=>by
  unfold waitT
  split
  ·match k with
   | 0=>rfl
   | 1=>rfl
   | 2=>rfl
   | k+3=>rfl
  ·rfl
 have c:(exP h).idle=0:=rfl;simp only [usE,usT,a,exP_e,c,d,b]
 decide
theorem Z3d (h:List Pt):homeE (exP h) 1 1=0/\homeE (exP h) 2 1=0/\homeT (exP h) 1 1=1/\homeT (exP h) 2 1=2:=by
 obtain⟨c,d,a,b⟩:=Z3U h;simp only [homeE,homeT,exP_e];refine⟨rfl,rfl,?_,?_⟩
 ·show 0+tLeg (exP h) 1 0=1;rw [a];rfl
 ·show 0+tLeg (exP h) 2 0=2;rw [b];rfl
theorem ZaH (h:List Pt) (r:Int):bkR (exP h) 1 r 1=r+10/\bkR (exP h) 2 r 1=r+20/\bkC (exP h) 1 r 1=clrB (exP h) 1 r 0 (r+10)/\bkC (exP h) 2 r 1=clrB (exP h) 2 r 0 (r+20):=by
 obtain⟨f,e,c,d⟩:=Z2k h;have a:bkR (exP h) 1 r 1=r+10:=by show r+gLeg (exP h) 1 0=_;rw [c]
 have b:bkR (exP h) 2 r 1=r+20:=by show r+gLeg (exP h) 2 0=_;rw [d]
 refine⟨a,b,?_,?_⟩
 ·show (true && clrB (exP h) 1 r 0 (bkR (exP h) 1 r 1))=_;rw [a];rfl
 ·show (true && clrB (exP h) 2 r 0 (bkR (exP h) 2 r 1))=_;rw [b];rfl
theorem Z5o (h:List Pt):(exP h).battery=1000/\(exP h).deadline=1000:=⟨rfl,rfl⟩
theorem ZcY:kindV (exP hmA) [] 0=0:=by
 obtain⟨f,e,t,m⟩:=Zct hmA;obtain⟨d,s⟩:=Z3e hmA;obtain⟨g,u,p,v⟩:=Z7S hmA [];obtain⟨a,o,k,q⟩:=Z3d hmA;obtain⟨j,b⟩:=Z5o hmA;unfold kindV;obtain⟨l,n,c,r⟩:=ZaH hmA 10;rw [show (0:Nat)+1=1 from rfl,f,e,Zb0,d,c,l,show (10:Int)+10=20 from rfl,ZaZ,Z2w,if_neg (by decide),if_neg (by decide),if_neg (by decide),g,a,j,k,b,if_neg (by decide),if_neg (by omega)]
theorem Za6:kindV (exP hmA) [] 1=1:=by
 obtain⟨d,c,b,a⟩:=Zct hmA;obtain⟨o,q⟩:=Z3e hmA;obtain⟨e,r,f,p⟩:=Z7S hmA [];obtain⟨m,g,j,k⟩:=Z3d hmA;obtain⟨l,n⟩:=Z5o hmA;unfold kindV;rw [show (1:Nat)+1=2 from rfl,b,a,ZcA,if_pos rfl]
theorem ZcX:kindV (exP hmA) [1] 0=0:=by
 obtain⟨f,e,t,m⟩:=ZaF hmA;obtain⟨d,s⟩:=Z3e hmA;obtain⟨g,u,p,v⟩:=Z7S hmA [1];obtain⟨a,o,k,q⟩:=Z3d hmA;obtain⟨j,b⟩:=Z5o hmA;unfold kindV;obtain⟨l,n,c,r⟩:=ZaH hmA 10;rw [show (0:Nat)+1=1 from rfl,f,e,Zb0,d,c,l,show (10:Int)+10=20 from rfl,ZaZ,Z2w,if_neg (by decide),if_neg (by decide),if_neg (by decide),g,a,j,k,b,if_neg (by decide),if_neg (by omega)]
theorem ZcW:kindV (exP hmA) [1] 1=0:=by
 obtain⟨r,q,j,a⟩:=ZaF hmA;obtain⟨p,g⟩:=Z3e hmA;obtain⟨s,k,m,u⟩:=Z7S hmA [1];obtain⟨n,c,t,d⟩:=Z3d hmA;obtain⟨l,f⟩:=Z5o hmA;unfold kindV;obtain⟨v,b,o,e⟩:=ZaH hmA 12;rw [show (1:Nat)+1=2 from rfl,j,a,c4_clr,g,e,b,show (12:Int)+20=32 from rfl,c5_clr,Z8B,if_neg (by decide),if_neg (by decide),if_neg (by decide),k,c,l,d,f,if_neg (by decide),if_neg (by omega)]
theorem Z1X (h:List Pt):(exP h).ways.length=3:=rfl
theorem ZaE (h:List Pt):stopsB (exP h) []=true/\stopsB (exP h) [1]=true/\stopsB (exP h) [2]=false:=by
 refine⟨?_,?_,?_⟩
 ·unfold stopsB;exact decide_eq_true fun k hk=>absurd hk (by simp)
 ·show stopsB (exP hmB) [1]=true;decide
 ·show stopsB (exP hmB) [2]=false;decide
theorem ZaG {h:List Pt} (hh:Zb h=true):radOkB (exP h) []=true/\radOkB (exP h) [1]=true/\radOkB (exP h) [2]=false:=by
 obtain⟨a,b,c⟩:=ZaE h;simp [radOkB,Z6c hh,a,b,c]
theorem exA_0:kpL (exP hmA) []=1/\kpK (exP hmA) []=1/\kpE (exP hmA) []=0:=by
 have e:leadN (exP hmA) []=1:=Z38 (by rw [Z1X];decide) (fun j hj=>by
  obtain rfl:j=0:=by omega
  exact ZcY) (fun _=>by rw [Za6];decide)
 simp only [kpL,kpK,kpE,(ZaG Z0I).1,if_true,leadV,leadK,e];exact⟨rfl,by rw [if_pos (by rw [Z1X];decide)];exact Za6,trivial⟩
theorem exA_1:kpL (exP hmA) [1]=2/\kpK (exP hmA) [1]=0/\kpE (exP hmA) [1]=0:=by
 have e:leadN (exP hmA) [1]=2:=Z38 (by rw [Z1X];decide) (fun j hj=>by
  match j,hj with
  | 0,_=>exact ZcX
  | 1,_=>exact ZcW
  | j+2,hj=>exact absurd hj (by omega)) (fun h=>absurd h (by rw [Z1X];decide))
 simp only [kpL,kpK,kpE,(ZaG Z0I).2.1,if_true,leadV,leadK,e];exact⟨rfl,by rw [if_neg (by rw [Z1X];decide)],trivial⟩
theorem Zda (h:List Pt):fixL (exP h)=[1]:=rfl
theorem ZbY:bestP (exP hmA)=(2,[1]):=by
 unfold bestP farL;rw [Zda,show allTo [1] (([1]:List Int).length+1)=[[],[1]] from rfl]
 simp [farS,exA_0.1,exA_1.1]
theorem Z74:bsB (exP hmA)=true/\bsL (exP hmA)=[1]/\plE (exP hmA)=0/\rfB (exP hmA)=false/\rfL (exP hmA)=[]/\rfG (exP hmA)=0:=by
 have a:=Z6c Z0I;simp [bsB,bsL,rfB,rfL,rfG,plE,a,ZbY,Z1X]
section
open Go.RowKit
structure Psg where
 cor:List Pt
 fr:Int
 tw:Int
 tm:Int
 en:Int
structure Crt where
 stops:List Int
 psg:List Psg
 ret:List Int
def pgd (l:List Psg) (j:Nat):Psg:=l.getD j ⟨[],0,0,0,0⟩
def PsgAt (n0:Nat) (W:World) (b o:Nat) (p:Psg):Prop :=
 ∃ u,W.cell? ⟨b,o,none⟩=some u/\Z7 n0 W u p.cor/\W.cell? ⟨b,o+1,none⟩=some (O qL p.fr)/\W.cell? ⟨b,o+2,none⟩=some (O qL p.tw)/\W.cell? ⟨b,o+3,none⟩=some (O qL p.tm)/\W.cell? ⟨b,o+4,none⟩=some (O qL p.en)
theorem PsgAt.below {n0:Nat} {A B:World} (h:Below n0 A B) {b o:Nat} {p:Psg} (hb:b<n0) (hp:PsgAt n0 A b o p):PsgAt n0 B b o p:=by
 obtain⟨u,c,d,a,e,g,f⟩:=hp;exact⟨u,cY h c hb,d.below h,cY h a hb,cY h e hb,cY h g hb,cY h f hb⟩
theorem PsgAt.mono {n0 n1:Nat} {W:World} {b o:Nat} {p:Psg} (hp:PsgAt n0 W b o p) (h:n0<=n1):PsgAt n1 W b o p:=by
 obtain⟨u,a,d,c⟩:=hp;exact⟨u,a,d.mono h,c⟩
def PsgsAt (n0:Nat) (W:World) (v:Value) (l:List Psg):Prop :=
 l.length<=70368744177663/\∃ a cap,v=qS a l.length (l.length+cap)/\(l=[]\/∃ b o,a=some ⟨b,o,none⟩/\b<n0/\∀ j,j<l.length->PsgAt n0 W b (o+j*5) (pgd l j))
theorem PsgsAt.below {n0:Nat} {A B:World} (h:Below n0 A B) {v:Value} {l:List Psg} (hp:PsgsAt n0 A v l):PsgsAt n0 B v l:=by
 obtain⟨g,a,d,e,c⟩:=hp;refine⟨g,a,d,e,c.imp id ?_⟩;rintro ⟨b,o,k,f,c⟩;exact⟨b,o,k,f,fun j hj=>(c j hj).below h f⟩
theorem PsgsAt.mono {n0 n1:Nat} {W:World} {v:Value} {l:List Psg} (hp:PsgsAt n0 W v l) (h:n0<=n1):PsgsAt n1 W v l:=by
 obtain⟨f,a,d,e,c⟩:=hp;refine⟨f,a,d,e,c.imp id ?_⟩;rintro ⟨b,o,g,k,c⟩;exact⟨b,o,g,by omega,fun j hj=>(c j hj).mono h⟩
def CrtAt (n0:Nat) (W:World) (c:Crt) (vs vp vr:Value):Prop:=Z8 n0 W vs c.stops/\PsgsAt n0 W vp c.psg/\Z8 n0 W vr c.ret
theorem CrtAt.below {n0:Nat} {A B:World} (h:Below n0 A B) {c:Crt} {vs vp vr:Value} (hp:CrtAt n0 A c vs vp vr):CrtAt n0 B c vs vp vr:=⟨hp.1.below h,hp.2.1.below h,hp.2.2.below h⟩
theorem CrtAt.mono {n0 n1:Nat} {W:World} {c:Crt} {vs vp vr:Value} (hp:CrtAt n0 W c vs vp vr) (h:n0<=n1):CrtAt n1 W c vs vp vr:=⟨hp.1.mono h,hp.2.1.mono h,hp.2.2.mono h⟩
def wthB (n most:Int):Bool:=decide (0<=n/\n<=most)
noncomputable def okP (c:Crt) (j:Nat):Bool :=
 Zb (pgd c.psg j).cor && (wthB (pgd c.psg j).fr 100000 && (wthB (pgd c.psg j).tw 100000 && (wthB (pgd c.psg j).tm 1000000000 && (wthB (pgd c.psg j).en 1000000000 && wthB (c.ret.getD j 0) 1000000000))))
noncomputable def frmB (m:Msn) (c:Crt):Bool :=
 radOkB m c.stops && decide (c.psg.length=m.ways.length-1) && decide (c.ret.length=m.ways.length-1) && decide (∀ j,j<c.psg.length->okP c j=true)
def befR (m:Msn) (c:Crt) (i:Nat):Int:=if i=0 then m.start else if (i:Int) ∈ c.stops then min (pgd c.psg (i-1)).tw (wy m.ways i).fix else (pgd c.psg (i-1)).tw
def befT (m:Msn) (c:Crt) (i:Nat):Int:=if i=0 then 0 else if (i:Int) ∈ c.stops then (pgd c.psg (i-1)).tm+(wy m.ways i).wait else (pgd c.psg (i-1)).tm
def befE (m:Msn) (c:Crt) (i:Nat):Int:=if i=0 then 0 else if (i:Int) ∈ c.stops then (pgd c.psg (i-1)).en+m.idle*(wy m.ways i).wait else (pgd c.psg (i-1)).en
end
section
attribute [local irreducible] wpQuiet
open Go.RowKit
theorem Z8g (v : Value) (l : List Int) (x : Int) (w : World) (hl : Z8 w.heap.size w v l) :
  Calls Tryz.prog 152 #[v,O qL x] w (FindQ (decide (x ∈ l)) w):=by
 obtain⟨hl,a,z,rfl,g⟩:=hl;go_enter Tryz.func152,Tryz.ntmps152;go_wp2
 go_loopw [8] (fun i wr=>∃ k:Nat,k<=l.length/\i=O qL k/\(∀ j,j<k->l.getD j 0≠x)/\wr=w) (fun i _=>l.length-(intOf i).toNat)
 case atStart=>exact⟨0,Nat.zero_le _,rfl,fun j h=>by omega,rfl⟩
 case round =>
  obtain⟨k,B,rfl,c,r⟩:=hrel;subst r;by_cases hlt:k<l.length
  ·rcases g with rfl | ⟨b,o,rfl,C,g⟩
   ·simp at hlt
   have s:=g k hlt;have f:=qH c;have u:=qH g;have m:l.getD k 0 ∈ l:=by rw [List.getD,List.getElem?_eq_getElem hlt];exact List.getElem_mem hlt
   obtain⟨y,d⟩:∃ y,l.getD k 0=y:=⟨_,rfl⟩;rw [d] at s m;have A:=qH d;clear c g d;by_cases hy:x=y
   ·have t:(x == y)=true:=by rw [beq_iff_eq];exact hy
    have n:=qH (show decide (x ∈ l)=true by rw [decide_eq_true_eq,hy];exact m)
    clear m hy;go_wp2;go_ret;exact⟨k,rfl,by omega,by omega,by rw [n.out];simp,qK _ _⟩
   ·have t:(x == y)=false:=by rw [beq_eq_false_iff_ne];exact hy
    have p:=qH hy;clear m hy;go_wp2;go_roundw
    case rel =>
     refine⟨k+1,by omega,by go_num,fun j q=>?_,by first | rfl | trivial⟩
     by_cases e:j=k
     ·rw [e,A.out];exact fun h=>p.out h.symm
     ·exact f.out j (by omega)
    case measure=>simp [intOf];omega
  ·have n:Hid (decide (x ∈ l)=false):=by
    show decide (x ∈ l)=false
    rw [decide_eq_false_iff_not];intro h;obtain⟨j,q,rfl⟩:=List.getElem_of_mem h;exact c j (by omega) (by rw [List.getD,List.getElem?_eq_getElem q];rfl)
   clear c;go_wp2;go_ret;exact⟨-1,rfl,by omega,by omega,by rw [n.out];simp,qK _ _⟩
theorem Z4T (v:Value) (l:List Int) (x:Int) (w:World) (hl:Z8 w.heap.size w v l) :
  Calls Tryz.prog 103 #[v,O qL x] w fun e w'=>e=qR (.bool (decide (x ∈ l)))/\Below w.heap.size w w':=by
 go_enter Tryz.func103,Tryz.ntmps103;go_wp2_with (go_at_call 152;refine (Z8g _ _ _ _ hl).mono ?_;rintro e d ⟨r,rfl,c,f,a,b⟩);go_ret;exact⟨by first | rfl | exact Zu a,b⟩
end
noncomputable def ccB (m:Msn) (a:Nat) (u:Int) (b:Nat) (w:Int):Bool:=decide (corE (atW m a) u (atW m b) w=0) && clrB m a u b w
noncomputable def ccC (m:Msn) (a:Nat) (r:Int):Nat->Bool
 | 0=>true
 | j+1=>ccC m a r j && ccB m (itB m a j) (bkR m a r j) (itB m a (j+1)) (bkR m a r (j+1))
noncomputable def hwE (m:Msn) (a:Nat) (r:Int):Int:=if ccC m a r (dep m a)=false then 50 else if lieB m (bkR m a r (dep m a))=false then 52 else 0
noncomputable def kpsE (m:Msn) (i:Nat) (u v t e:Int):Int :=
 if ccB m i u (i+1) v=false then 50
 else if hwE m (i+1) v=50 then 50
 else if hwE m (i+1) v=52 then 52
 else if e+homeE m (i+1) (dep m (i+1))>m.battery then 51
 else if t+homeT m (i+1) (dep m (i+1))>m.deadline then 6
 else 0
theorem Zcy {m:Msn} {a b:Nat} {u w:Int} (h:ccB m a u b w=true):(0<=u/\u<=100000)/\0<=w/\w<=100000:=by
 unfold ccB at h;rw [Bool.and_eq_true,decide_eq_true_eq] at h;obtain⟨⟨-,-,e,f,c,d⟩,-⟩:=Z0A h.1;exact⟨⟨e,f⟩,c,d⟩
theorem ccC_bd {m:Msn} {a:Nat} {r:Int} (h0:0<=r/\r<=100000):∀ j,ccC m a r j=true->0<=bkR m a r j/\bkR m a r j<=100000
 | 0,_=>h0
 | j + 1, h => by
  simp only [ccC,Bool.and_eq_true] at h;exact (Zcy h.2).2
theorem Z7Y {m:Msn} {a:Nat} {r:Int}:∀ n j,j<=n->ccC m a r n=true->ccC m a r j=true
 | 0,j,hj,h=>by rw [Nat.le_zero.1 hj];rfl
 | n + 1, j, hj, h => by
  rcases Nat.lt_or_eq_of_le hj with e | e
  ·simp only [ccC,Bool.and_eq_true] at h
   exact Z7Y n j (by omega) h.1
  ·rw [e];exact h
theorem hwE_or (m:Msn) (a:Nat) (r:Int):hwE m a r=50\/hwE m a r=52\/hwE m a r=0:=by
 unfold hwE
 repeat' split
 all_goals simp
theorem Zcx {m:Msn} (V:VMsn m) {a b:Nat} (ha:a<m.ways.length) (hb:b<m.ways.length) {u w:Int} (hu:0<=u/\u<=100000) (hw:0<=w/\w<=100000):ccB m a u b w=clrB m a u b w:=by
 unfold ccB;rw [Z4H V ha hb hu hw];simp
theorem ZbU {m:Msn} (V:VMsn m) {a b:Nat} {u v:Int} (h:corE (atW m a) u (atW m b) v=0):firE (corL (atW m a) u (atW m b) v) m.rocks=0:=by
 unfold corL;rw [if_pos h];have g:=Z0g (Z2o h);have c:okRocks (corH (atW m a) u.toNat (atW m b) v.toNat) m.rocks=true:=by unfold okRocks;rw [g,Bool.true_and];exact V.rocks
 unfold firE;rw [if_pos V.nr,if_pos c]
theorem Z9V {m:Msn} (V:VMsn m) {r:Int} (h:0<=r/\r<=100000):bothE (shL (dskL r) (atW m 0)) m.home=0:=by
 have g:radOk r=true:=by simp [radOk,h]
 have f:dskL r=Z4 r.toNat:=by simp [dskL,g]
 have c:=Z4H V (a:=0) (b:=0) (by have:=V.n2;omega) (by have:=V.n2;omega) h h
 obtain⟨⟨l,-⟩,e,-⟩:=Z0A c;have G:=Z0t (n:=r.toNat) (by omega)
 have o:Zb (Z4 r.toNat)=true:=by simpa [Zb] using G
 have j:shE (dskL r) (atW m 0)=0:=by rw [f];simp [shE,o,l,e]
 have k:shL (dskL r) (atW m 0)=mvL (atW m 0) (Z4 r.toNat):=by simp only [shL,j,if_true];rw [f]
 rw [k];have d:Zb (mvL (atW m 0) (Z4 r.toNat))=true:=by rw [Z0D _ G];exact e
 simp [bothE,d,V.home]
section
attribute [local irreducible] wpQuiet
open Go.RowKit
theorem Z0J (n most:Int) (w:World):Calls Tryz.prog 102 #[O qL n,O qL most] w fun e w'=>e=qR (.bool (wthB n most))/\w'=w:=by
 have H:Hid (wthB n most=decide (0<=n/\n<=most)):=rfl;by_cases h:0<=n
 ·have d:decide (0<=n)=true:=by rw [decide_eq_true_eq];exact h
  by_cases h2:n<=most
  ·have b:decide (n<=most)=true:=by rw [decide_eq_true_eq];exact h2
   have a:=qH (show wthB n most=true by rw [H.out,decide_eq_true_eq];exact⟨h,h2⟩)
   clear h h2;go_enter Tryz.func102,Tryz.ntmps102;go_wp2;go_ret;exact⟨by rw [a.out];rfl,rfl⟩
  ·have b:decide (n<=most)=false:=by rw [decide_eq_false_iff_not];exact h2
   have a:=qH (show wthB n most=false by rw [H.out,decide_eq_false_iff_not];exact fun x=>h2 x.2)
   clear h h2;go_enter Tryz.func102,Tryz.ntmps102;go_wp2;go_ret;exact⟨by rw [a.out];rfl,rfl⟩
 ·have d:decide (0<=n)=false:=by rw [decide_eq_false_iff_not];exact h
  have a:=qH (show wthB n most=false by rw [H.out,decide_eq_false_iff_not];exact fun x=>h x.1)
  clear h;go_enter Tryz.func102,Tryz.ntmps102;go_wp2;go_ret;exact⟨by rw [a.out];rfl,rfl⟩
theorem Z9B (m:Msn) (l:List Int):rdE m l=if radOkB m l=true then 0 else 1:=by unfold rdE;rfl
theorem Z0a {m:Msn} {l:List Int} (h:radOkB m l=true):validB m=true/\stopsB m l=true:=by unfold radOkB at h;rwa [Bool.and_eq_true] at h
theorem Z8L (m : Msn) (vw vh vr : Value) (c : Crt) (vs vp ve : Value) (w : World) (hm : MsnAt w.heap.size w m vw vh vr) (hc : CrtAt w.heap.size w c vs vp ve) :
  Calls Tryz.prog 45 #[.agg (Zc m vw vh vr),.agg #[vs,vp,ve]] w fun e w'=>e=qR (.bool (frmB m c))/\Below w.heap.size w w':=by
 have f1:=fun K (B:Below w.heap.size w K)=>Z3w m vw vh vr vs c.stops K ((hm.below B).mono B.size) ((hc.1.below B).mono B.size)
 rw [Z9B] at f1;have aa:=fun h=>Z0a (m:=m) (l:=c.stops) h
 have Y:frmB m c=(radOkB m c.stops && decide (c.psg.length=m.ways.length-1) && decide (c.ret.length=m.ways.length-1) && decide (∀ j,j<c.psg.length->okP c j=true)):=rfl;generalize frmB m c=fb at *;obtain⟨⟨-,a1,cap1,rfl,-⟩,⟨-,a2,cap2,rfl,-⟩,⟨-,a3,cap3,rfl,-⟩⟩:=hm;obtain⟨⟨-,aS,cS,rfl,-⟩,⟨-,ap,cp,rfl,W⟩,⟨-,ar,cr,rfl,X⟩⟩:=hc;unfold Zc at *;have HCP:=qH W;have HCR:=qH X;replace f1:=qH f1;replace Y:=qH Y;clear W X;have A:=qH (qK w.heap.size w);go_enter Tryz.func45,Tryz.ntmps45;go_wp2_with fail;generalize D:qV (qV w _) _=X0;obtain⟨P,q1,R,Z⟩:=box2 D;clear D;have A:=qH R;clear R;have MB:=qH P;clear P;have CB:=qH q1;clear q1 Z;obtain⟨c0,c1,c2,c3,c4,c5,c6,c7,c8,c9,L⟩:=Zh (m:=m) MB.out;have s:=CB.out;have E:=cX 0 s rfl;have e1:=cX 1 s rfl;have F:=cX 2 s rfl;refine (f1.out _ A.out).mono ?_;rintro e K ⟨u1,u2,rfl,-,-,b1⟩;replace A:=zAd A b1;have z:=qH b1;clear b1 c0 c1 c2 c3 c4 c5 c6 c7 c8 c9 L s E e1 F;obtain⟨c0,c1,c2,c3,c4,c5,c6,c7,c8,c9,L⟩:=Zh (m:=m) (zCj MB z);have s:=(zCj CB z);have E:=cX 0 s rfl;have e1:=cX 1 s rfl;have F:=cX 2 s rfl;cases g:radOkB m c.stops
 ·have r:=qH (show fb=false by rw [Y.out,g];rfl)
  go_wp2;go_ret;exact⟨by rw [r.out];rfl,A.out⟩
 obtain⟨hV,-⟩:=aa g;have V:=(Zm m).1 hV;have n2:=V.n2;have n41:=V.n41;have d:=qH (show fb=(decide (c.psg.length=m.ways.length-1) && decide (c.ret.length=m.ways.length-1) && decide (∀ j,j<c.psg.length->okP c j=true)) by rw [Y.out,g];rfl)
 clear g hV V aa Y;obtain⟨n,hn⟩:∃ n,m.ways.length-1=n:=⟨_,rfl⟩;have jw:qW qL ((m.ways.length:Int)-1)=(n:Int):=by rw [show (m.ways.length:Int)-1=(n:Int) by omega];exact zW2
 have hn8:n<=40:=by omega
 replace d:=d.out;rw [hn] at d;replace d:=qH d;clear hn;by_cases h1:c.psg.length=n;rotate_left
 ·have d1:((c.psg.length:Int) == (n:Int))=false:=by rw [beq_eq_false_iff_ne];omega
  have d1':((c.psg.length:Int) != (n:Int))=true:=by rw [bne_iff_ne];omega
  have r:=qH (show fb=false by rw [d.out,decide_eq_false h1];rfl)
  clear h1;go_wp2;go_ret;exact⟨by rw [r.out];rfl,A.out⟩
 by_cases h2:c.ret.length=n;rotate_left
 ·have d1:((c.psg.length:Int) != (n:Int))=false:=by rw [bne_eq_false_iff_eq];omega
  have d2:((c.ret.length:Int) == (n:Int))=false:=by rw [beq_eq_false_iff_ne];omega
  have d2':((c.ret.length:Int) != (n:Int))=true:=by rw [bne_iff_ne];omega
  have r:=qH (show fb=false by rw [d.out,decide_eq_false h2];simp)
  clear h1 h2;go_wp2;go_ret;exact⟨by rw [r.out];rfl,A.out⟩
 have d1:((c.psg.length:Int) == (n:Int))=true:=by rw [beq_iff_eq];omega
 have d2:((c.ret.length:Int) == (n:Int))=true:=by rw [beq_iff_eq];omega
 have d3:((n:Int) == (n:Int))=true:=by simp
 replace d:=d.out;rw [decide_eq_true h1,decide_eq_true h2,Bool.true_and,Bool.true_and,h1] at d;have H1:=qH h1;have H2:=qH h2;rw [h1] at e1;rw [h2] at F;clear h1 h2 d1 d2;replace d:=qH d;go_wp2;have BC:=qH (qK K.heap.size K);have U:=qH (zCj CB z);clear c0 c1 c2 c3 c4 c5 c6 c7 c8 c9 L s E e1 F
 go_loopw [42] (fun i wr=>∃ k:Nat,k<=n/\i=O qL k/\(∀ j,j<k->okP c j=true)/\Below K.heap.size K wr) (fun i _=>n-(intOf i).toNat)
 case atStart=>exact⟨0,Nat.zero_le _,rfl,fun j h=>by omega,qK _ _⟩
 case round =>
  obtain⟨k,hk,rfl,H,hB⟩:=hrel;obtain⟨wo,hwo⟩:∃ x,x=wr:=⟨_,rfl⟩;subst hwo;have HA:=qH H;have q:=qH (qI hB (A.out.trans (hB.mono A.out.size)));clear H hB;by_cases hlt:k<n
  ·obtain⟨b,o,rfl,N,hc⟩:=HCP.out.resolve_left (by intro h;have:=H1.out;rw [h] at this;simp at this;omega)
   obtain⟨u,x0,hu,x1,x2,x3,x4⟩:=hc k (by rw [H1.out];exact hlt)
   obtain⟨b',o',rfl,hb',T⟩:=HCR.out.resolve_left (by intro h;have:=H2.out;rw [h] at this;simp at this;omega)
   have I:=T k (by rw [H2.out];exact hlt)
   have g:Hid (okP c k=(Zb (pgd c.psg k).cor && (wthB (pgd c.psg k).fr 100000 && (wthB (pgd c.psg k).tw 100000 && (wthB (pgd c.psg k).tm 1000000000 && (wthB (pgd c.psg k).en 1000000000 && wthB (c.ret.getD k 0) 1000000000)))))):=rfl;have v:=qH (fun h:okP c k=false=>show fb=false by
    rw [d.out,decide_eq_false_iff_not];intro h';rw [h' k hlt] at h;cases h)
   generalize pgd c.psg k=p at *;generalize c.ret.getD k 0=re at *;replace x0:=cY q.out.2 x0 N;replace x1:=cY q.out.2 x1 N;replace x2:=cY q.out.2 x2 N;replace x3:=cY q.out.2 x3 N;replace x4:=cY q.out.2 x4 N;replace I:=cY q.out.2 I hb';have HU:=qH ((hu.below q.out.2).mono q.out.2.size);obtain⟨au,cu,rfl⟩:=HU.out.len;have Q:=qH I;have hbz:=q.out.2.size;have J:b'<wo.heap.size:=by omega
   have M:=qH (U.out.below q.out.1 U.out.lt);have dk:decide ((k:Int)<(n:Int))=true:=by rw [decide_eq_true_eq];omega
   have kl:(k:Int)<(n:Int):=by omega
   have k0:(0:Int)<=(k:Int):=by omega
   have t:=qH (qK wo.heap.size wo);clear hc T hu I;go_upto_region 8 with fail
   generalize G:qV wo _=X8;obtain⟨P,R,hzX8⟩:=box1 G;clear G;have t:=qH R;clear R;have PB:=qH P;clear P x0 x1 x2 x3 x4;have f:=PB.out;have y0:=cX 0 f rfl;have y1:=cX 1 f rfl;have y2:=cX 2 f rfl;have y3:=cX 3 f rfl;have y4:=cX 4 f rfl;have y:=(zCj M t);have F:X8.cell? ⟨w.heap.size+1,2,none⟩=some (qS (some ⟨b',o',none⟩) n (n+cr)):=(cX 2 y rfl).trans (by rw [H2.out];rfl)
   have I:=cY t.out Q.out J;go_wp2_with fail;refine (Zs _ p.cor X8 ((HU.out.below t.out).mono t.out.size)).mono ?_;rintro e w2 ⟨rfl,b2⟩;replace t:=zAd t b2;have S:=qH b2;clear b2 f y0 y1 y2 y3 y4 y F I;have f:=(zCj PB S);have y0:=cX 0 f rfl;have y1:=cX 1 f rfl;have y2:=cX 2 f rfl;have y3:=cX 3 f rfl;have y4:=cX 4 f rfl;have y:=(zCj M t);have F:w2.cell? ⟨w.heap.size+1,2,none⟩=some (qS (some ⟨b',o',none⟩) n (n+cr)):=(cX 2 y rfl).trans (by rw [H2.out];rfl)
   have I:=cY t.out Q.out J;cases hb0:Zb p.cor
   ·skip
    have r:=qH (v.out (by rw [g.out,hb0];rfl))
    go_wp2;go_ret;exact⟨by rw [r.out];rfl,q.out.2.trans (t.out.mono q.out.2.size)⟩
   go_wp2_with fail;refine (Z0J _ _ _).mono ?_;rintro E C ⟨rfl,a⟩;rw [a];clear a C;cases hb1:wthB p.fr 100000
   ·skip
    have r:=qH (v.out (by rw [g.out,hb0,hb1];rfl))
    go_wp2;go_ret;exact⟨by rw [r.out];rfl,q.out.2.trans (t.out.mono q.out.2.size)⟩
   go_wp2_with fail;refine (Z0J _ _ _).mono ?_;rintro E C ⟨rfl,a⟩;rw [a];clear a C;cases hb2:wthB p.tw 100000
   ·skip
    have r:=qH (v.out (by rw [g.out,hb0,hb1,hb2];rfl))
    go_wp2;go_ret;exact⟨by rw [r.out];rfl,q.out.2.trans (t.out.mono q.out.2.size)⟩
   go_wp2_with fail;refine (Z0J _ _ _).mono ?_;rintro E C ⟨rfl,a⟩;rw [a];clear a C;cases hb3:wthB p.tm 1000000000
   ·skip
    have r:=qH (v.out (by rw [g.out,hb0,hb1,hb2,hb3];rfl))
    go_wp2;go_ret;exact⟨by rw [r.out];rfl,q.out.2.trans (t.out.mono q.out.2.size)⟩
   go_wp2_with fail;refine (Z0J _ _ _).mono ?_;rintro E C ⟨rfl,a⟩;rw [a];clear a C;cases hb4:wthB p.en 1000000000
   ·skip
    have r:=qH (v.out (by rw [g.out,hb0,hb1,hb2,hb3,hb4];rfl))
    go_wp2;go_ret;exact⟨by rw [r.out];rfl,q.out.2.trans (t.out.mono q.out.2.size)⟩
   go_wp2_with fail;refine (Z0J _ _ _).mono ?_;rintro E C ⟨rfl,a⟩;rw [a];clear a C;cases hb5:wthB re 1000000000
   ·skip
    have r:=qH (v.out (by rw [g.out,hb0,hb1,hb2,hb3,hb4,hb5];rfl))
    go_wp2;go_ret;exact⟨by rw [r.out];rfl,q.out.2.trans (t.out.mono q.out.2.size)⟩
   have r:=qH (show okP c k=true by rw [g.out,hb0,hb1,hb2,hb3,hb4,hb5];rfl)
   clear f y0 y1 y2 y3 y4 y F I;go_wp2;go_roundw
   case rel =>
    refine⟨k+1,by omega,by go_num,fun j hj=>?_,q.out.1.trans (t.out.mono q.out.1.size)⟩
    by_cases e:j=k
    ·rw [e];exact r.out
    ·exact HA.out j (by omega)
   case measure=>simp [intOf];omega
  obtain rfl:k=n:=by omega
  have jj:decide ((k:Int)<(k:Int))=false:=by simp
  have r:=qH (show fb=true by rw [d.out,decide_eq_true_eq];exact HA.out)
  go_wp2;go_ret;exact⟨by rw [r.out];rfl,q.out.2⟩
theorem Z6a {m:Msn} {c:Crt} (h:frmB m c=true):radOkB m c.stops=true/\c.psg.length=m.ways.length-1/\c.ret.length=m.ways.length-1/\∀ j,j<c.psg.length->okP c j=true:=by
 unfold frmB at h;simp only [Bool.and_eq_true,decide_eq_true_eq] at h;exact⟨h.1.1.1,h.1.1.2,h.1.2,h.2⟩
theorem Z3z {c:Crt} {j:Nat} (h:okP c j=true):Zb (pgd c.psg j).cor=true/\(0<=(pgd c.psg j).fr/\(pgd c.psg j).fr<=100000)/\(0<=(pgd c.psg j).tw/\(pgd c.psg j).tw<=100000)/\(0<=(pgd c.psg j).tm/\(pgd c.psg j).tm<=1000000000)/\(0<=(pgd c.psg j).en/\(pgd c.psg j).en<=1000000000)/\(0<=c.ret.getD j 0/\c.ret.getD j 0<=1000000000):=by
 unfold okP wthB at h;simp only [Bool.and_eq_true,decide_eq_true_eq] at h;exact h
theorem Z92 (m:Msn) (vw vh vr:Value) (c:Crt) (vs vp ve:Value) (w:World) (hm:MsnAt w.heap.size w m vw vh vr) (hc:CrtAt w.heap.size w c vs vp ve) (hF:frmB m c=true) (i:Nat) (hi:i<c.psg.length) :
  Calls Tryz.prog 46 #[.agg (Zc m vw vh vr),.agg #[vs,vp,ve],O qL i] w fun e w'=>e=qR (.tuple #[O qL (befR m c i),O qL (befT m c i),O qL (befE m c i)])/\Below w.heap.size w w':=by
 obtain⟨hok,hl1,hl2,T⟩:=Z6a hF;have V:=(Zm m).1 (Z0a hok).1;have n41:=V.n41;have ae:=V.idle;have N:=fun k hk=>ZP (Z0b V.ways (j:=k) hk)
 have f1:=fun w1 (B:Below w.heap.size w w1)=>Z4T vs c.stops (i:Int) w1 ((hc.1.below B).mono B.size)
 have F:befR m c i=if i=0 then m.start else if (i:Int) ∈ c.stops then min (pgd c.psg (i-1)).tw (wy m.ways i).fix else (pgd c.psg (i-1)).tw:=rfl
 have J:befT m c i=if i=0 then 0 else if (i:Int) ∈ c.stops then (pgd c.psg (i-1)).tm+(wy m.ways i).wait else (pgd c.psg (i-1)).tm:=rfl
 have G:befE m c i=if i=0 then 0 else if (i:Int) ∈ c.stops then (pgd c.psg (i-1)).en+m.idle*(wy m.ways i).wait else (pgd c.psg (i-1)).en:=rfl
 generalize befR m c i=xR at *;generalize befT m c i=xT at *;generalize befE m c i=xE at *;obtain⟨⟨-,a1,P,rfl,R⟩,⟨-,a2,ah,rfl,-⟩,⟨-,a3,ac,rfl,-⟩⟩:=hm;obtain⟨⟨-,aS,cS,rfl,-⟩,⟨-,ap,cp,rfl,U⟩,⟨-,ar,cr,rfl,-⟩⟩:=hc;unfold Zc at *;have HCW:=qH R;have HCP:=qH U;replace f1:=qH f1;replace F:=qH F;replace J:=qH J;replace G:=qH G;replace N:=qH N;replace T:=qH T;have d:=qH (qK w.heap.size w);clear R U V hF hok hl2;by_cases hi0:i=0
 ·subst hi0
  clear N T;have d0:(((0:Nat):Int) == 0)=true:=by simp
  go_enter Tryz.func46,Tryz.ntmps46;have hwr:∀ o,(w.alloc (qC #[qS a1 m.ways.length (m.ways.length+P),qS a2 m.home.length (m.home.length+ah),O qL m.start,qS a3 m.rocks.length (m.rocks.length+ac),O qL m.speed,O qL m.part,O qL m.flow,O qL m.idle,O qL m.drive,O qL m.battery,O qL m.deadline] 26) |>.alloc o).cell? ⟨w.heap.size,2,none⟩=some (O qL m.start):=fun o=>by
   have h1:=(Has.new w #[qS a1 m.ways.length (m.ways.length+P),qS a2 m.home.length (m.home.length+ah),O qL m.start,qS a3 m.rocks.length (m.rocks.length+ac),O qL m.speed,O qL m.part,O qL m.flow,O qL m.idle,O qL m.drive,O qL m.battery,O qL m.deadline] 26).below ((qK (w.heap.size+1) _).alloc (by simp) o) (by omega)
   exact cX 2 h1 rfl
  go_wp2;go_ret3;exact⟨by rw [F.out,J.out,G.out];rfl,zB2⟩
 obtain⟨k,rfl⟩:∃ k,i=k+1:=⟨i-1,by omega⟩
 have Y:k+1<m.ways.length:=by omega
 have hz:(((k+1:Nat):Int) == 0)=false:=by rw [beq_eq_false_iff_ne];omega
 have jw:qW qL (((k+1:Nat):Int)-1)=(k:Int):=by rw [show ((k+1:Nat):Int)-1=(k:Int) by omega];exact zW2
 replace F:=F.out;replace J:=J.out;replace G:=G.out;rw [if_neg (by omega),Nat.add_sub_cancel] at F J G
 obtain⟨b,o,rfl,hb,U⟩:=HCP.out.resolve_left (by intro h;rw [h] at hi;simp at hi)
 obtain⟨u,x0,hu,x1,x2,x3,x4⟩:=U k (by omega)
 obtain⟨bw,ow,rfl,S,R⟩:=HCW.out.resolve_left (by intro h;rw [h] at Y;simp at Y)
 obtain⟨y0,y1,y2,y3,y4⟩:=R (k+1) Y;obtain⟨-,hr1,hr2,hr3,hr4,-⟩:=Z3z (T.out k (by omega))
 obtain⟨-,-,-,-,g1,g2,g3,g4,-⟩:=N.out (k+1) Y;obtain⟨H,I,rfl⟩:=hu.len;generalize pgd c.psg k=p at *;obtain⟨⟨D,E,A,s,K⟩,hq⟩:∃ q,wy m.ways (k+1)=q:=⟨_,rfl⟩;rw [hq] at F J G y0 y1 y2 y3 y4 g1 g2 g3 g4;simp only at F J G y0 y1 y2 y3 y4 g1 g2 g3 g4;have hmul:=Int.mul_nonneg ae.1 g3;have hmul2:m.idle*s<=1000*100000:=Int.mul_le_mul ae.2 g4 g3 (by omega)
 have w1:qW qL (p.tm+s)=p.tm+s:=zW2;have w2':qW qL (m.idle*s)=m.idle*s:=zW2;have w3:qW qL (p.en+m.idle*s)=p.en+m.idle*s:=zW2;replace F:=qH F;replace J:=qH J;replace G:=qH G;have kl:((k+1:Nat):Int)<m.ways.length:=by omega
 have kl0:(0:Int)<=((k+1:Nat):Int):=by omega
 have kp:(k:Int)<c.psg.length:=by omega
 have kp0:(0:Int)<=(k:Int):=by omega
 have kl':(k:Int)+1<m.ways.length:=by omega
 have kl0':(0:Int)<=(k:Int)+1:=by omega
 have jk:qW qL (k:Int)=k:=zW2;clear R U N T hq hmul hmul2 hu hi0 HCW HCP hl1;go_enter Tryz.func46,Tryz.ntmps46;go_upto_region 3 with fail
 generalize ab:qV (qV w _) _=X0;obtain⟨q0,q1,hA,hzX0⟩:=box2 ab;clear ab;have d:=qH hA;clear hA;have MB:=qH q0;clear q0;have CB:=qH q1;clear q1 hzX0;have m0:=cX 0 MB.out rfl;have e1:=cX 1 CB.out rfl;replace x0:=cY d.out x0 hb;replace x1:=cY d.out x1 hb;replace x2:=cY d.out x2 hb;replace x3:=cY d.out x3 hb;replace x4:=cY d.out x4 hb;replace y0:=cY d.out y0 S;replace y1:=cY d.out y1 S;replace y2:=cY d.out y2 S;replace y3:=cY d.out y3 S;replace y4:=cY d.out y4 S;go_upto_region 3 with fail
 go_cut [9,10] from 15 (fun b1 b2 wx=>∃ x y,b1=qP (some ⟨x,0,none⟩)/\b2=qP (some ⟨y,0,none⟩)/\x≠y/\X0.heap.size<=x/\X0.heap.size<=y/\Has wx x #[qS H p.cor.length (p.cor.length+I),O qL p.fr,O qL p.tw,O qL p.tm,O qL p.en] 58/\Has wx y #[O qL D,O qL E,O qL A,O qL s,O qL K] 65/\Below X0.heap.size X0 wx)
 case first =>
  refine (wpIn_wide (n:=9)).1 ?_;refine Zi (Zk _) 14 (fun X=>Below X0.heap.size X0 X) (by kernel_rfl) (by kernel_rfl) (by kernel_rfl) fun hH inv0=>?_
  refine sk hH 0 (qP (some ⟨w.heap.size+1,1,none⟩)) (Zd rfl) inv0 (fun X hX=>?_) fun al=>?_
  ·go_simp
  simp only [pT];clear inv0;refine sk hH 1 (qS (some ⟨b,o,none⟩) c.psg.length (c.psg.length+cp)) (Zd rfl) al (fun X hX=>?_) fun ak=>?_
  ·have re1:=(hX.cell (p:=⟨w.heap.size+1,1,none⟩) (qO _ _ e1)).trans e1;go_simp
  simp only [pT];clear al;refine sk hH 2 (O qL ((k+1:Nat):Int)) (Zd rfl) ak (fun X hX=>?_) fun am=>?_
  ·go_simp
  simp only [pT];clear ak;refine sk hH 3 (O qL (k:Int)) (Zd rfl) am (fun X hX=>?_) fun ag=>?_
  ·go_simp
  simp only [pT];clear am;refine sk hH 4 (qP (some ⟨b,o+k*5,none⟩)) (Zd rfl) ag (fun X hX=>?_) fun ai=>?_
  ·go_simp
  simp only [pT];clear ag;refine sk hH 5 (.agg #[qS H p.cor.length (p.cor.length+I),O qL p.fr,O qL p.tw,O qL p.tm,O qL p.en]) (Zd rfl) ai (fun X hX=>?_) fun af=>?_
  ·have rx0:=(hX.cell (p:=⟨b,o+k*5,none⟩) (qO _ _ x0)).trans x0;have rx1:=(hX.cell (p:=⟨b,o+k*5+1,none⟩) (qO _ _ x1)).trans x1;have rx2:=(hX.cell (p:=⟨b,o+k*5+2,none⟩) (qO _ _ x2)).trans x2;have rx3:=(hX.cell (p:=⟨b,o+k*5+3,none⟩) (qO _ _ x3)).trans x3;have rx4:=(hX.cell (p:=⟨b,o+k*5+4,none⟩) (qO _ _ x4)).trans x4;go_simp
  simp only [pT];clear ai;refine sk hH 6 (qP (some ⟨w.heap.size,0,none⟩)) (Zd rfl) af (fun X hX=>?_) fun aa=>?_
  ·go_simp
  simp only [pT];clear af;refine sk hH 7 (qS (some ⟨bw,ow,none⟩) m.ways.length (m.ways.length+P)) (Zd rfl) aa (fun X hX=>?_) fun ad=>?_
  ·have rm0:=(hX.cell (p:=⟨w.heap.size,0,none⟩) (qO _ _ m0)).trans m0;go_simp
  simp only [pT];clear aa;refine sk hH 8 (O qL ((k+1:Nat):Int)) (Zd rfl) ad (fun X hX=>?_) fun aj=>?_
  ·go_simp
  simp only [pT];clear ad;refine sk hH 9 (qP (some ⟨bw,ow+(k+1)*5,none⟩)) (Zd rfl) aj (fun X hX=>?_) fun W=>?_
  ·go_simp
  simp only [pT];clear aj;refine sk hH 10 (.agg #[O qL D,O qL E,O qL A,O qL s,O qL K]) (Zd rfl) W (fun X hX=>?_) fun inv11=>?_
  ·have ry0:=(hX.cell (p:=⟨bw,ow+(k+1)*5,none⟩) (qO _ _ y0)).trans y0;have ry1:=(hX.cell (p:=⟨bw,ow+(k+1)*5+1,none⟩) (qO _ _ y1)).trans y1;have ry2:=(hX.cell (p:=⟨bw,ow+(k+1)*5+2,none⟩) (qO _ _ y2)).trans y2;have ry3:=(hX.cell (p:=⟨bw,ow+(k+1)*5+3,none⟩) (qO _ _ y3)).trans y3;have ry4:=(hX.cell (p:=⟨bw,ow+(k+1)*5+4,none⟩) (qO _ _ y4)).trans y4;go_simp
  simp only [pT];clear W inv11 hH;have Z:Below X0.heap.size X0 X0.drew:=Below.drew (qK _ _);have hz0:=Z.size;generalize X0.drew=X0 at *;refine Zw (rs:=[11,12]) (by kernel_rfl) (by simp) Z (by simp) (fun i hi'=>?_)
  simp only [List.mem_cons,List.not_mem_nil,or_false] at hi';rcases hi' with rfl | rfl
  ·skip
   refine ZC (Zd rfl) rfl (v:=qP (some ⟨X0.heap.size,0,none⟩)) (w':=X0.alloc (qC #[qS none 0 0,O qL 0,O qL 0,O qL 0,O qL 0] 58)) (by go_simp) ?_
   simp only [pT];have a:=Has.new X0 #[qS none 0 0,O qL 0,O qL 0,O qL 0,O qL 0] 58;have M:=Z.alloc (by omega) (qC #[qS none 0 0,O qL 0,O qL 0,O qL 0,O qL 0] 58)
   have hz1:X0.heap.size<(X0.alloc (qC #[qS none 0 0,O qL 0,O qL 0,O qL 0,O qL 0] 58)).heap.size:=by simp
   generalize X0.alloc (qC #[qS none 0 0,O qL 0,O qL 0,O qL 0,O qL 0] 58)=X1 at *;refine sa1 (r:=12) M ?_;refine ZC (Zd rfl) rfl (v:=qP (some ⟨X1.heap.size,0,none⟩)) (w':=X1.alloc (qC #[O qL 0,O qL 0,O qL 0,O qL 0,O qL 0] 65)) (by go_simp) ?_
   simp only [pT];have z:=Has.new X1 #[O qL 0,O qL 0,O qL 0,O qL 0,O qL 0] 65;replace a:=a.below ((qK X1.heap.size X1).alloc (qN _) (qC #[O qL 0,O qL 0,O qL 0,O qL 0,O qL 0] 65)) a.lt;have Q:=M.alloc (by omega) (qC #[O qL 0,O qL 0,O qL 0,O qL 0,O qL 0] 65)
   have hz2:X1.heap.size<(X1.alloc (qC #[O qL 0,O qL 0,O qL 0,O qL 0,O qL 0] 65)).heap.size:=by simp
   generalize X1.alloc (qC #[O qL 0,O qL 0,O qL 0,O qL 0,O qL 0] 65)=X2 at *;refine sa1 (r:=13) Q ?_;refine Z54 (Zd rfl) rfl rfl (g:=X0.heap.size) (cells:=#[qS H p.cor.length (p.cor.length+I),O qL p.fr,O qL p.tw,O qL p.tm,O qL p.en]) rfl rfl a (by kernel_rfl) rfl (by simp [Value.oneCell']) ?_
   simp only [pT];have hP:=Has.put (cells:=#[qS H p.cor.length (p.cor.length+I),O qL p.fr,O qL p.tw,O qL p.tm,O qL p.en]) a;have hO:=Has.keep (cells:=#[qS H p.cor.length (p.cor.length+I),O qL p.fr,O qL p.tw,O qL p.tm,O qL p.en]) (C:=X0.heap.size) z (by omega)
   have L:=Below.setRow Q (C:=X0.heap.size) (by omega) #[qS H p.cor.length (p.cor.length+I),O qL p.fr,O qL p.tw,O qL p.tm,O qL p.en]
   generalize X2.setRow X0.heap.size #[qS H p.cor.length (p.cor.length+I),O qL p.fr,O qL p.tw,O qL p.tm,O qL p.en]=X3 at *;refine Zj (by kernel_rfl) L ?_
   simp only [List.drop_succ_cons,List.drop_zero];refine ZF rfl rfl (g:=X1.heap.size) (cells:=#[O qL D,O qL E,O qL A,O qL s,O qL K]) rfl rfl hO (by kernel_rfl) rfl (by simp [Value.oneCell']) ?_
   have hP2:=Has.put (cells:=#[O qL D,O qL E,O qL A,O qL s,O qL K]) hO;have hP1:=Has.keep (cells:=#[O qL D,O qL E,O qL A,O qL s,O qL K]) (C:=X1.heap.size) hP (by omega)
   have hS4:=Below.setRow L (C:=X1.heap.size) (by omega) #[O qL D,O qL E,O qL A,O qL s,O qL K]
   generalize X3.setRow X1.heap.size #[O qL D,O qL E,O qL A,O qL s,O qL K]=X4 at *;gi_wp2;go_meet;exact⟨_,_,rfl,rfl,by omega,by omega,by omega,hP1,hP2,hS4⟩
  ·skip
   refine ZC (Zd rfl) rfl (v:=qP (some ⟨X0.heap.size,0,none⟩)) (w':=X0.alloc (qC #[O qL 0,O qL 0,O qL 0,O qL 0,O qL 0] 65)) (by go_simp) ?_
   simp only [pT];have a:=Has.new X0 #[O qL 0,O qL 0,O qL 0,O qL 0,O qL 0] 65;have M:=Z.alloc (by omega) (qC #[O qL 0,O qL 0,O qL 0,O qL 0,O qL 0] 65)
   have hz1:X0.heap.size<(X0.alloc (qC #[O qL 0,O qL 0,O qL 0,O qL 0,O qL 0] 65)).heap.size:=by simp
   generalize X0.alloc (qC #[O qL 0,O qL 0,O qL 0,O qL 0,O qL 0] 65)=X1 at *;refine sa1 (r:=11) M ?_;refine ZC (Zd rfl) rfl (v:=qP (some ⟨X1.heap.size,0,none⟩)) (w':=X1.alloc (qC #[qS none 0 0,O qL 0,O qL 0,O qL 0,O qL 0] 58)) (by go_simp) ?_
   simp only [pT];have z:=Has.new X1 #[qS none 0 0,O qL 0,O qL 0,O qL 0,O qL 0] 58;replace a:=a.below ((qK X1.heap.size X1).alloc (qN _) (qC #[qS none 0 0,O qL 0,O qL 0,O qL 0,O qL 0] 58)) a.lt;have Q:=M.alloc (by omega) (qC #[qS none 0 0,O qL 0,O qL 0,O qL 0,O qL 0] 58)
   have hz2:X1.heap.size<(X1.alloc (qC #[qS none 0 0,O qL 0,O qL 0,O qL 0,O qL 0] 58)).heap.size:=by simp
   generalize X1.alloc (qC #[qS none 0 0,O qL 0,O qL 0,O qL 0,O qL 0] 58)=X2 at *;refine sa1 (r:=13) Q ?_;refine Z54 (Zd rfl) rfl rfl (g:=X1.heap.size) (cells:=#[qS H p.cor.length (p.cor.length+I),O qL p.fr,O qL p.tw,O qL p.tm,O qL p.en]) rfl rfl z (by kernel_rfl) rfl (by simp [Value.oneCell']) ?_
   simp only [pT];have hP:=Has.put (cells:=#[qS H p.cor.length (p.cor.length+I),O qL p.fr,O qL p.tw,O qL p.tm,O qL p.en]) z;have hO:=Has.keep (cells:=#[qS H p.cor.length (p.cor.length+I),O qL p.fr,O qL p.tw,O qL p.tm,O qL p.en]) (C:=X1.heap.size) a (by omega)
   have L:=Below.setRow Q (C:=X1.heap.size) (by omega) #[qS H p.cor.length (p.cor.length+I),O qL p.fr,O qL p.tw,O qL p.tm,O qL p.en]
   generalize X2.setRow X1.heap.size #[qS H p.cor.length (p.cor.length+I),O qL p.fr,O qL p.tw,O qL p.tm,O qL p.en]=X3 at *;refine Zj (by kernel_rfl) L ?_
   simp only [List.drop_succ_cons,List.drop_zero];refine ZF rfl rfl (g:=X0.heap.size) (cells:=#[O qL D,O qL E,O qL A,O qL s,O qL K]) rfl rfl hO (by kernel_rfl) rfl (by simp [Value.oneCell']) ?_
   have hP2:=Has.put (cells:=#[O qL D,O qL E,O qL A,O qL s,O qL K]) hO;have hP1:=Has.keep (cells:=#[O qL D,O qL E,O qL A,O qL s,O qL K]) (C:=X0.heap.size) hP (by omega)
   have hS4:=Below.setRow L (C:=X0.heap.size) (by omega) #[O qL D,O qL E,O qL A,O qL s,O qL K]
   generalize X3.setRow X0.heap.size #[O qL D,O qL E,O qL A,O qL s,O qL K]=X4 at *;gi_wp2;go_meet;exact⟨_,_,rfl,rfl,by omega,by omega,by omega,hP1,hP2,hS4⟩
 case rest =>
  obtain⟨bx,by',rfl,rfl,hxy,hbx,hby,HX0,HY0,hC⟩:=hcut
  replace d:=zAd d hC;have f:=qH hC;clear hC;have BX:=qH HX0;have BY:=qH HY0;clear HX0 HY0 m0 e1 x0 x1 x2 x3 x4 y0 y1 y2 y3 y4;have z2:=Low.fact (cX 2 BX.out rfl);have z3:=Low.fact (cX 3 BX.out rfl);have z4:=Low.fact (cX 4 BX.out rfl);go_wp2
  (refine Zg (by kernel_rfl) (by kernel_rfl) ?_;(iterate 9 (apply qw3;(case hw=>rfl);(case hval=>(intro w1 hw1 hcx;simp only [Oper.quietAt];go_simp;first | done | rfl | exact⟨rfl,rfl⟩));simp only [pT]));refine wpQuiet_nil ?_;intro w2 hw2)
  obtain⟨wa,hwa⟩:∃ x,x=w2:=⟨_,rfl⟩;subst hwa;have hA:Below wc.heap.size wc wa:=hw2.out;clear hw2 z2 z3 z4;replace d:=zAd d hA;replace f:=zAd f hA;have t:=qH hA;clear hA;have e0:=(zCj CB f).cell (i:=0) rfl;go_wp2_with fail;refine (f1.out _ d.out).mono ?_;rintro e w1 ⟨rfl,b1⟩;replace d:=zAd d b1;replace f:=zAd f b1;replace t:=zAd t b1;clear b1 e0;cases hmem:decide (((k+1:Nat):Int) ∈ c.stops)
  ·have l:¬ ((k+1:Nat):Int) ∈ c.stops:=by simpa using hmem
   have HV:=qH (qI (F.out.trans (if_neg l)) (qI (J.out.trans (if_neg l)) (G.out.trans (if_neg l))));clear l hmem;go_wp2;go_ret3;exact⟨by rw [HV.out.1,HV.out.2.1,HV.out.2.2];rfl,d.out⟩
  have l:((k+1:Nat):Int) ∈ c.stops:=by simpa using hmem
  have HV:=qH (qI (F.out.trans (if_pos l)) (qI (J.out.trans (if_pos l)) (G.out.trans (if_pos l))));clear l hmem;have z1:=Low.fact ((zCj BY t).cell (i:=2) rfl);have z2:=Low.fact ((zCj BY t).cell (i:=3) rfl);have z3:=Low.fact ((zCj MB f).cell (i:=7) rfl);obtain⟨mi,hmi⟩:∃ x,min p.tw A=x:=⟨_,rfl⟩;go_wp2
  (refine Zg (by kernel_rfl) (by kernel_rfl) ?_;(iterate 18 (apply qw3;(case hw=>rfl);(case hval=>(intro w1 hw1 hcx;simp only [Oper.quietAt];go_simp;first | done | rfl | exact⟨rfl,rfl⟩));simp only [pT]));refine wpQuiet_nil ?_;intro w2 hw2)
  have BZ:=qH (d.out.trans (hw2.out.mono d.out.size));go_wp2;go_ret3;exact⟨by rw [HV.out.1,HV.out.2.1,HV.out.2.2,hmi];rfl,BZ.out⟩
end
theorem ZbV {m:Msn} (h:fewB m=true):m.ways.length<=8:=by
 simp only [fewB,Bool.and_eq_true,decide_eq_true_eq] at h;omega
theorem fix_in {m:Msn} {x:Int} (h:x ∈ fixL m):0<x/\x<m.ways.length/\(wy m.ways x.toNat).fix≠0:=by
 obtain⟨j,rfl,c,a,b⟩:=(Z1v m _ _).1 h;exact⟨by omega,by omega,by rw [Int.toNat_natCast];omega⟩
theorem sub_ok {m:Msn} (hV:validB m=true) {s:List Int} (h:s.Sublist (fixL m)):radOkB m s=true:=by
 unfold radOkB;rw [hV,Bool.true_and];exact Z9E (List.Pairwise.sublist h (Z2j m _)) fun x hx=>fix_in (h.subset hx)
theorem kp_of {m:Msn} {s:List Int} (h:radOkB m s=true):kpL m s=leadV m s/\kpK m s=leadK m s/\kpE m s=0:=by
 simp [kpL,kpK,kpE,h]
theorem kpL_nn (m:Msn) (s:List Int):0<=kpL m s:=by
 unfold kpL leadV
 split <;> omega
theorem Zb5 (m:Msn):IsBest (kpL m) (allTo (fixL m) ((fixL m).length+1)) (bestP m):=by
 have h:=Z7P (kpL m) (kpL_nn m) (allTo (fixL m) ((fixL m).length+1)) [] (-1,[]) (by rw [List.nil_append];exact Z31 (Z2j m m.ways.length) _) (.inl ⟨rfl,rfl⟩) (.inl (fun h=>by
  have:([]:List Int) ∈ allTo (fixL m) ((fixL m).length+1):=Z3D.2 ⟨List.nil_sublist _,by simp⟩
  rw [h] at this;cases this))
 simpa [bestP,farL] using h
theorem Z89 (m:Msn):(bestP m).2.Sublist (fixL m):=(Z3D.1 (Zb5 m).1).1
theorem Z6o (m:Msn):kpL m (bestP m).2=(bestP m).1:=(Zb5 m).2.1.symm
theorem Za0 {m:Msn} {s:List Int} (h:radOkB m s=true) (he:kpL m s=((m.ways.length-1:Nat):Int)):kpK m s=0:=by
 obtain⟨a,b,-⟩:=kp_of h;rw [b];rw [a] at he;unfold leadV at he;unfold leadK;rw [if_neg (by omega)]
theorem Z5d {m:Msn} {s:List Int} (h:radOkB m s=true) (he:kpL m s≠((m.ways.length-1:Nat):Int)):0<kpK m s:=by
 obtain⟨a,b,-⟩:=kp_of h;rw [b];rw [a] at he;unfold leadV at he;have d:=Z11 m s;have c:leadN m s<m.ways.length-1:=by omega
 unfold leadK;rw [if_pos c];have:=d.2.2 c;have:=(Z5e m s (leadN m s)).1;omega
section
variable (m:Msn) (R:List (List Pt)) (b d:Int)
end
section
variable {m:Msn} {R:List (List Pt)} {b d:Int}
theorem Z7M {c : List Pt} {ls : List (List Pt)} : ∀ k, (hitTo c ls k).isSome = false ↔ ∀ j, j < k -> touchB c (rk ls j) = false
 | 0=>⟨fun _ j h=>by omega,fun _=>rfl⟩
 | k + 1 => by
  have ih:=Z7M (c:=c) (ls:=ls) k;simp only [hitTo];constructor
  ·intro h j hj
   cases hk:(hitTo c ls k).isSome
   ·rw [hk] at h
    simp only [Bool.false_eq_true,if_false] at h;rcases Nat.lt_or_eq_of_le (Nat.le_of_lt_succ hj) with e | e
    ·exact ih.1 hk j e
    ·rw [e];cases ht:touchB c (rk ls k)
     ·rfl
     ·rw [ht] at h;simp at h
   ·rw [hk] at h;simp [hk] at h
  ·intro h
   have hk:=ih.2 fun j hj=>h j (by omega)
   rw [hk,h k (by omega)]
   rfl
def Fewer (R ls:List (List Pt)):Prop:=R.length<=ls.length/\∀ j,j<R.length->∃ i,i<ls.length/\rk R j=rk ls i
variable (hF:Fewer R m.rocks) (V:VMsn m)
include hF V
omit hF V in
end
section
attribute [local irreducible] wpQuiet
open Go.RowKit
theorem Z7.offG {W X : World} {v : Value} {l : List Pt} {row : Option Nat} (h : Z7 W.heap.size W v l) (hg : W.grownBy X row) (hne : ∀ r, row = some r -> l = [] \/ v.ownBlock ≠ some r) : Z7 X.heap.size X v l := by
 obtain⟨m,a,g,e,c⟩:=h;refine⟨m,a,g,e,?_⟩;rcases c with c | ⟨b,o,k,f,c⟩
 ·exact .inl c
 ·by_cases hl0:l=[]
  ·exact .inl hl0
  ·refine .inr ⟨b,o,k,Nat.lt_of_lt_of_le f hg.size,fun j hj=>?_⟩
   have d:some b≠row:=fun er=>by
    rcases hne b er.symm with h | h
    ·exact hl0 h
    ·exact h (by rw [e,k];rfl)
   obtain⟨p,n⟩:=c j hj;exact⟨(World.cell?_of_block (hg.block b f d)).trans p,(World.cell?_of_block (hg.block b f d)).trans n⟩
theorem Z7.own_lt {W:World} {n0:Nat} {v:Value} {l:List Pt} (h:Z7 n0 W v l) {r:Nat} (hr:v.ownBlock=some r):l=[]\/r<n0:=by
 obtain⟨-,a,d,e,c⟩:=h;rcases c with c | ⟨b,o,f,g,-⟩
 ·exact .inl c
 ·right
  rw [e,f] at hr;simp only [Value.ownBlock,Option.some.injEq] at hr;omega
def PsR (W:World) (g:Nat->Psg) (k:Nat) (xs:List Value) (P:Nat->Prop):Prop :=
 xs.length=k*5/\∀ j,j<k->∃ u,xs[j*5]?=some u/\Z7 W.heap.size W u (g j).cor/\((g j).cor=[]\/∀ r,u.ownBlock=some r->P r)/\xs[j*5+1]?=some (O qL (g j).fr)/\xs[j*5+2]?=some (O qL (g j).tw)/\xs[j*5+3]?=some (O qL (g j).tm)/\xs[j*5+4]?=some (O qL (g j).en)
section
variable {W X:World} {g:Nat->Psg} {k:Nat} {xs:List Value} {P Q:Nat->Prop}
theorem PsR.nil:PsR W g 0 [] P:=⟨rfl,fun j h=>by omega⟩
theorem PsR.snoc (h:PsR W g k xs P) {u:Value} (hu:Z7 W.heap.size W u (g k).cor) (hP:(g k).cor=[]\/∀ r,u.ownBlock=some r->P r) :
  PsR W g (k+1) (xs++[u,O qL (g k).fr,O qL (g k).tw,O qL (g k).tm,O qL (g k).en]) P:=by
 obtain⟨a,d⟩:=h;refine⟨by simp [a];omega,fun j hj=>?_⟩
 by_cases e:j=k
 ·subst e
  have q:∀ i,(xs++[u,O qL (g j).fr,O qL (g j).tw,O qL (g j).tm,O qL (g j).en])[j*5+i]?=[u,O qL (g j).fr,O qL (g j).tw,O qL (g j).tm,O qL (g j).en][i]?:=fun i=>by
   rw [List.getElem?_append_right (by omega),a,Nat.add_sub_cancel_left]
  exact⟨u,by have:=q 0;rw [Nat.add_zero] at this;exact this,hu,hP,q 1,q 2,q 3,q 4⟩
 ·obtain⟨f,b,c⟩:=d j (by omega)
  have q:∀ i,i<5->(xs++[u,O qL (g k).fr,O qL (g k).tw,O qL (g k).tm,O qL (g k).en])[j*5+i]?=xs[j*5+i]?:=fun i hi=>List.getElem?_append_left (by omega)
  refine⟨f,by have:=q 0 (by omega);rw [Nat.add_zero] at this;rw [this];exact b,c.1,c.2.1,?_,?_,?_,?_⟩
  ·rw [q 1 (by omega)];exact c.2.2.1
  ·rw [q 2 (by omega)];exact c.2.2.2.1
  ·rw [q 3 (by omega)];exact c.2.2.2.2.1
  ·rw [q 4 (by omega)];exact c.2.2.2.2.2
theorem PsR.below (h:PsR W g k xs P) (B:Below W.heap.size W X):PsR X g k xs P:=by
 refine⟨h.1,fun j hj=>?_⟩
 obtain⟨u,a,b,c⟩:=h.2 j hj;exact⟨u,a,(b.below B).mono B.size,c⟩
theorem PsR.app (h:PsR W g k xs P) {row:Option Nat} (hg:W.grownBy X row) (hr:∀ r,row=some r->¬ P r) (hQ:∀ r,r<W.heap.size->P r->Q r):PsR X g k xs Q:=by
 refine⟨h.1,fun j hj=>?_⟩
 obtain⟨u,d,b,a,c⟩:=h.2 j hj;refine⟨u,d,b.offG hg (fun r e=>?_),?_,c⟩
 ·rcases a with a | a
  ·exact .inl a
  ·exact .inr fun e2=>hr r e (a r e2)
 ·rcases a with a | a
  ·exact .inl a
  ·by_cases hn:(g j).cor=[]
   ·exact .inl hn
   ·exact .inr fun r e=>hQ r ((b.own_lt e).resolve_left hn) (a r e)
theorem PsR.psgs (h:PsR W g k xs P) {base:Nat} {v:Value} (hr:W.ownsRow base 58 5 v k xs) (hl:k<=70368744177663):PsgsAt W.heap.size W v (upto g k):=by
 have f:∀ j,j<k->pgd (upto g k) j=g j:=fun j hj=>by simp [pgd,upto,List.getD,hj]
 refine⟨by rw [Zq];exact hl,?_⟩
 rw [Zq];rcases hr.2 with⟨rfl,c⟩ | ⟨b,a,l,rfl,_,s,t,_⟩
 ·exact⟨none,0,by rw [c],.inl (List.eq_nil_of_length_eq_zero (by rw [Zq];exact c))⟩
 ·refine⟨some ⟨b,0,none⟩,a-k,by rw [show k+(a-k)=a by omega],.inr ⟨b,0,rfl,(Array.getElem?_eq_some_iff.1 s).1,fun j hj=>?_⟩⟩
  rw [f j hj];obtain⟨u,d,r,-,o,m,p,n⟩:=h.2 j hj;have q:∀ i w,i<5->xs[j*5+i]?=some w->W.cell? ⟨b,0+j*5+i,none⟩=some w:=fun i w hi e=>by
   rw [Nat.zero_add];exact (hr.cellAt (j*5+i) (by omega)).trans e
  exact⟨u,by have:=q 0 u (by omega) d;rwa [Nat.add_zero] at this,r,q 1 _ (by omega) o,q 2 _ (by omega) m,q 3 _ (by omega) p,q 4 _ (by omega) n⟩
end
structure MkS (bC:Nat) (Z X:World) (g:Nat->Psg) (v1 v2:Value) (n1 n2:Nat) (x1 x2:List Value) (kc:Nat) (xc:List Value):Prop where
 bel:Below bC Z X
 r1:X.ownsRow (bC+1) 58 5 v1 n1 x1
 r2:X.ownsRow (bC+1) 3 1 v2 n2 x2
 ne:v1.ownBlock=none\/v1.ownBlock≠v2.ownBlock
 cor:PsR X g kc xc (fun r=>bC<r/\some r≠v1.ownBlock/\some r≠v2.ownBlock)
section
variable {bC:Nat} {Z X Y:World} {g:Nat->Psg} {v1 v2 u:Value} {n1 n2 n' kc:Nat} {x1 x2 x' xc:List Value}
theorem MkS.ne2 (h:MkS bC Z X g v1 v2 n1 n2 x1 x2 kc xc):v2.ownBlock=none\/v2.ownBlock≠v1.ownBlock:=by
 rcases h.ne with h | h
 ·rw [h]
  cases v2.ownBlock <;> simp
 ·exact .inr (Ne.symm h)
theorem MkS.up (h:MkS bC Z X g v1 v2 n1 n2 x1 x2 kc xc) (B:Below X.heap.size X Y) (hb:bC<=X.heap.size):MkS bC Z Y g v1 v2 n1 n2 x1 x2 kc xc:=by
 have a:X.grownBy Y none:=⟨B.os,B.tape,B.output,B.size,fun b hb _=>B.block b hb⟩
 exact⟨h.bel.trans (B.mono hb),h.r1.kept a (by cases v1.ownBlock <;> simp),h.r2.kept a (by cases v2.ownBlock <;> simp),h.ne,h.cor.below B⟩
theorem MkS.app1 (h:MkS bC Z X g v1 v2 n1 n2 x1 x2 kc xc) (hb:bC<=X.heap.size) (hg:X.grownBy Y v1.ownBlock) (hr:Y.ownsRow (bC+1) 58 5 u n' x') (ho:u.ownBlock=v1.ownBlock\/u.ownBlock=some X.heap.size):MkS bC Z Y g u v2 n' n2 x' x2 kc xc:=by
 refine⟨h.bel.trans ((qK bC X).grown hg hb (fun j e=>by have:=(h.r1.lt j e).1;omega)),hr,h.r2.kept hg h.ne2,?_,h.cor.app hg (fun r e hp=>hp.2.1 e.symm) (fun r hlt hp=>⟨hp.1,?_,hp.2.2⟩)⟩
 ·rcases ho with ho | ho
  ·rw [ho];exact h.ne
  ·right
   rw [ho];intro e;have:=(h.r2.lt _ e.symm).2;omega
 ·rcases ho with ho | ho
  ·rw [ho];exact hp.2.1
  ·rw [ho]
   intro e;have:r=X.heap.size:=by simpa using e
   omega
theorem MkS.app2 (h : MkS bC Z X g v1 v2 n1 n2 x1 x2 kc xc) (hb : bC <= X.heap.size) (hg : X.grownBy Y v2.ownBlock) (hr : Y.ownsRow (bC + 1) 3 1 u n' x') (ho : u.ownBlock = v2.ownBlock \/ u.ownBlock = some X.heap.size) : MkS bC Z Y g v1 u n1 n' x1 x' kc xc := by
 refine⟨h.bel.trans ((qK bC X).grown hg hb (fun j e=>by have:=(h.r2.lt j e).1;omega)),h.r1.kept hg h.ne,hr,?_,h.cor.app hg (fun r e hp=>hp.2.2 e.symm) (fun r hlt hp=>⟨hp.1,hp.2.1,?_⟩)⟩
 ·rcases ho with ho | ho
  ·rw [ho];exact h.ne
  ·by_cases hn:v1.ownBlock=none
   ·exact .inl hn
   ·right
    rw [ho];intro e;have:=(h.r1.lt _ e).2;omega
 ·rcases ho with ho | ho
  ·rw [ho];exact hp.2.2
  ·rw [ho]
   intro e;have:r=X.heap.size:=by simpa using e
   omega
theorem MkS.set (h:MkS bC Z X g v1 v2 n1 n2 x1 x2 kc xc) (i:Nat) (w:Value):MkS bC Z (X.setCell ⟨bC,i,none⟩ w) g v1 v2 n1 n2 x1 x2 kc xc:=by
 have a:X.grownBy (X.setCell ⟨bC,i,none⟩ w) (some bC):=⟨rfl,rfl,rfl,by simp [World.setCell],fun k _ hk=>Below.heap_setCell _ _ _ k (fun e=>hk (by rw [e]))⟩
 refine⟨h.bel.setCell (p:=⟨bC,i,none⟩) (qN _) w,h.r1.kept a (.inr fun e=>?_),h.r2.kept a (.inr fun e=>?_),h.ne,h.cor.app a (fun r e hp=>?_) (fun r _ hp=>hp)⟩
 ·have:=(h.r1.lt _ e).1;omega
 ·have:=(h.r2.lt _ e).1;omega
 ·cases e;exact Nat.lt_irrefl _ hp.1
theorem MkS.fin (h:MkS bC Z X g v1 v2 n1 n2 x1 x2 n1 x1) {b:Nat} (hb:b<=bC) (hg:X.grownBy Y (some b)) (hn:n1<=70368744177663):PsgsAt Y.heap.size Y v1 (upto g n1)/\Y.ownsRow (bC+1) 3 1 v2 n2 x2:=by
 have a:Y.ownsRow (bC+1) 58 5 v1 n1 x1:=h.r1.kept hg (.inr fun e=>by have:=(h.r1.lt _ e).1;omega)
 have c:Y.ownsRow (bC+1) 3 1 v2 n2 x2:=h.r2.kept hg (.inr fun e=>by have:=(h.r2.lt _ e).1;omega)
 have d:=h.cor.app (Q:=fun _=>True) hg (fun r e hp=>by cases e;omega) (fun _ _ _=>trivial)
 exact⟨d.psgs a hn,c⟩
theorem Z7E {s n0:Nat} {W:World} {v:Value} {l:List Pt} (hN:NewI s v) (h:Z7 n0 W v l) {r:Nat} (hr:v.ownBlock=some r):l=[]\/s<=r:=by
 obtain⟨-,a,f,e,c⟩:=h;rcases c with c | ⟨b,o,d,g,-⟩
 ·exact .inl c
 ·right
  have:=hN b o _ _ (by rw [e,d])
  rw [e,d] at hr;simp only [Value.ownBlock,Option.some.injEq] at hr;omega
theorem MkS.fresh (h:MkS bC Z X g v1 v2 n1 n2 x1 x2 kc xc) (hb:bC<X.heap.size) {s n0:Nat} {W:World} {l:List Pt} (hN:NewI s u) (hs:X.heap.size<=s) (hu:Z7 n0 W u l):l=[]\/∀ r,u.ownBlock=some r->bC<r/\some r≠v1.ownBlock/\some r≠v2.ownBlock:=by
 by_cases hl:l=[]
 ·exact .inl hl
 ·refine .inr fun r hr=>?_
  have a:=(Z7E hN hu hr).resolve_left hl;refine⟨by omega,fun e=>?_,fun e=>?_⟩
  ·have:=(h.r1.lt _ e.symm).2;omega
  ·have:=(h.r2.lt _ e.symm).2;omega
theorem MkS.one (h:MkS bC Z X g v1 v2 n1 n2 x1 x2 kc xc) (hu:Z7 X.heap.size X u (g kc).cor) (hP:(g kc).cor=[]\/∀ r,u.ownBlock=some r->bC<r/\some r≠v1.ownBlock/\some r≠v2.ownBlock) :
  MkS bC Z X g v1 v2 n1 n2 x1 x2 (kc+1) (xc++[u,O qL (g kc).fr,O qL (g kc).tw,O qL (g kc).tm,O qL (g kc).en]):=⟨h.bel,h.r1,h.r2,h.ne,h.cor.snoc hu hP⟩
def MkH (X:World) (v1 v2:Value) (B:Nat) (cs:Array Value) (T:TypeId):Prop:=Has X B cs T/\some B≠v1.ownBlock/\some B≠v2.ownBlock
variable {B:Nat} {cs:Array Value} {T:TypeId}
theorem MkH.app1 (h:MkH X v1 v2 B cs T) (hg:X.grownBy Y v1.ownBlock) (ho:u.ownBlock=v1.ownBlock\/u.ownBlock=some X.heap.size):MkH Y u v2 B cs T:=by
 have a:=h.1.lt;refine⟨(hg.block B a (by exact h.2.1)).trans h.1,?_,h.2.2⟩
 rcases ho with ho | ho
 ·rw [ho];exact h.2.1
 ·rw [ho];intro e;have:B=X.heap.size:=by simpa using e
  omega
theorem MkH.app2 (h:MkH X v1 v2 B cs T) (hg:X.grownBy Y v2.ownBlock) (ho:u.ownBlock=v2.ownBlock\/u.ownBlock=some X.heap.size):MkH Y v1 u B cs T:=by
 have a:=h.1.lt;refine⟨(hg.block B a (by exact h.2.2)).trans h.1,h.2.1,?_⟩
 rcases ho with ho | ho
 ·rw [ho];exact h.2.2
 ·rw [ho];intro e;have:B=X.heap.size:=by simpa using e
  omega
theorem MkH.up (h:MkH X v1 v2 B cs T) (hB:Below X.heap.size X Y):MkH Y v1 v2 B cs T:=⟨h.1.below hB h.1.lt,h.2⟩
theorem MkS.free (h:MkS bC Z X g v1 v2 n1 n2 x1 x2 kc xc) (hH:Has Y B cs T) (hB:B<=bC\/X.heap.size<=B):MkH Y v1 v2 B cs T:=by
 refine⟨hH,fun e=>?_,fun e=>?_⟩
 ·have:=h.r1.lt _ e.symm;omega
 ·have:=h.r2.lt _ e.symm;omega
end
theorem Z2O {W:World} {b:Nat} {t:TypeId} {s n:Nat} {v:Value} {xs:List Value} (h:W.ownsRow b t s v n xs):∃ a c,v=qS a n c:=by
 rcases h.2 with⟨e,d⟩ | ⟨g,j,f,e,-⟩
 ·exact⟨none,0,by rw [e,d]⟩
 ·exact⟨_,_,e⟩
theorem Z1K {X:World} {B:Nat} {l:List Value} {T:TypeId} (h:Has X B l.toArray T):∀ j u,l[j]?=some u->X.cell? ((⟨B,0,none⟩:Addr).add j)=some u:=fun j u hu=>by
 rw [show (⟨B,0,none⟩:Addr).add j=⟨B,j,none⟩ by simp [Addr.add];try exact fun h=>h.symm]
 exact h.cell (by simpa using hu)
theorem Z5t (v : Value) (l : List Int) (w : World) (hp : Z8 w.heap.size w v l) (hl : l.length <= 1000000) :
  Calls Tryz.prog 42 #[v] w fun e w'=>∃ v',e=qR v'/\Z8 w'.heap.size w' v' l/\Below w.heap.size w w'/\NewI w.heap.size v':=by
 obtain⟨I,a,t,rfl,f⟩:=hp;have B:∀ (w:World) (a:Option Addr) (n c n' c':Nat),(binOp .eql 29 (.slice a n c) (.slice none n' c')).run Tryz.prog w=.ok (.bool a.isNone) w:=fun w a n c n' c'=>Lib.run_eql_slice_nil w _ _ a n c n' c' Tryz.underlying29
 cases a with
 | none =>
  obtain rfl:l=[]:=by
   rcases f with h | ⟨b,o,h,-⟩
   ·exact h
   ·cases h
  go_enter Tryz.func42,Tryz.ntmps42;go_wp2;go_ret;exact⟨_,rfl,Z8.nil _ _,qK _ _,NewI.nil _⟩
 | some ad =>
  have d:∀ j u,(l.map (O qL))[j]?=some u->(w.alloc (qC #[] 3)).cell? (ad.add j)=some u:=fun j u hu=>by
   rcases f with rfl | ⟨b,o,h,F,f⟩
   ·simp at hu
   ·cases h
    have r:j<l.length:=by have:=(List.getElem?_eq_some_iff.1 hu).1;simpa using this
    have e:u=O qL (l.getD j 0):=by
     rw [List.getElem?_map,List.getElem?_eq_getElem r] at hu;simp only [Option.map_some,Option.some.injEq] at hu;rw [<- hu,List.getD,List.getElem?_eq_getElem r];rfl
    rw [e,show (⟨b,o,none⟩:Addr).add j=⟨b,o+j,none⟩ by first | rfl | simp [Addr.add]]
    exact (((qK w.heap.size w).alloc (qN _) (qC #[] 3)).cell (p:=⟨b,o+j,none⟩) F).trans (f j r)
  have s:=qH d;obtain⟨D,k,g,m,q⟩:=info_parts intInfo;have E:=qH k;have A:=qH ((qK w.heap.size w).alloc (qN _) (qC #[] 3));have z:=qH (World.ownsRow_lit (base:=w.heap.size) (e:=3) (size:=1) w #[] 0 (qN _) (by unfold maxLen;omega) (by simp))
  clear d k f;go_enter Tryz.func42,Tryz.ntmps42;go_wp2_with (at_builtin;refine wpList_append_own _ rfl _ _ 29 rfl w.heap.size 3 D (.int .i64 0) 1 8 Tryz.underlying29 E.out g m q rfl (by decide) _ _ _ rfl z.out ad l.length (l.length+t) (l.map (Value.int .i64)) rfl (by simp) s.out (by intro x hx;obtain⟨y,-,rfl⟩:=List.mem_map.1 hx;rfl) (by unfold maxLen;omega) (by omega) (by simp) ?_;intro v' w2 r2 g2 _)
  rw [Nat.zero_add,List.nil_append] at r2;have G:=A.out.trans (Z6r z.out g2 (qN _) A.out.size);have H:=Z8.own r2 (by omega)
  have C:NewI w.heap.size v':=fun b o n c e=>(r2.lt b (by rw [e];rfl)).1
  go_ret;exact⟨_,rfl,H,G,C⟩
end
end Go.Proofs.YthipcinibldgnaaGreat
