/- package spread: chosen, radii, Radii. | package plan: newTrip. -/
import Derived.Test.YthipcinibldgnaaGreatBin12
import Derived.Test.YthipcinibldgnaaGreatBin15
open Go.Value renaming int->O,pointer->qP,slice->qS,tuple->qT
open Go.Obj renaming cells->qC
open Go.IntKind renaming i64->qL
open Go.Lib renaming hid->qH
open Go.RowKit.Below renaming refl->qK
open Go.World renaming setCell->qU,alloc->qV
open Nat renaming le_refl->qN
open And renaming intro->qI
open Go.Act renaming put->qJ
set_option linter.unusedSimpArgs false
set_option linter.unusedVariables false
set_option maxRecDepth 8000
set_option maxHeartbeats 6400000
namespace Go.Proofs.YthipcinibldgnaaGreat
section
open Go.RowKit
theorem zCl {a b:World} {g:Nat} {k:Array Value} {t:TypeId} (h:Hid (Has a g k t)) (q:Hid (Below a.heap.size a b)):Has b g k t:=h.out.below q.out h.out.lt
end
section
attribute [local irreducible] wpQuiet
open Go.RowKit Go.Shelf Go.Maps
theorem Z4u (m : Msn) (vw vh vr vl : Value) (l : List Int) (w : World) (hfx : ∀ k, k < m.ways.length -> 0 <= (wy m.ways k).fix) (hw : WaysAt w.heap.size w vw m.ways) (hl : Z8 w.heap.size w vl l) :
  Calls Tryz.prog 91 #[.agg (Zc m vw vh vr),vl] w (SetsQ m l w):=by
 obtain⟨hll,al,capl,rfl,hlc⟩:=hl;obtain⟨hwl,aw,capw,rfl,hwc⟩:=hw;have H0:=Has.new w (Zc m (qS aw m.ways.length (m.ways.length+capw)) vh vr) 26;have hS0:=SetAt.made (w.alloc (qC (Zc m (qS aw m.ways.length (m.ways.length+capw)) vh vr) 26));rw [World.size_alloc] at hS0;have H1:=H0.below ((qK (w.heap.size+1) _).alloc (by simp) (.map #[] 0)) (by omega)
 have H1':=qH H1;have S1':=qH hS0;have hlH:=qH hlc;have hwH:=qH hwc;have HFX:=qH hfx;clear hfx;have hmm:=@run_makeMap Tryz.prog;clear hlc hwc H0 H1 hS0;unfold Zc at *;go_enter Tryz.func91,Tryz.ntmps91;go_wp2;clear hmm
 go_loopw [7,13] (fun s i wr=>∃ k:Nat,k<=l.length/\i=O qL k/\s=O qL (prevS l k)/\(∀ j,j<k->stopOk m l j)/\SetAt wr (w.heap.size+1) (l.take k)/\Has wr w.heap.size (Zc m (qS aw m.ways.length (m.ways.length+capw)) vh vr) 26/\Below w.heap.size w wr) (fun _ i _=>l.length-(intOf i).toNat)
 case atStart=>exact⟨0,by omega,rfl,rfl,fun j hj=>by omega,S1'.out,H1'.out,((qK _ _).alloc (qN _) _).alloc (by first | omega | (simp;done) | (simp;omega)) _⟩
 case round =>
  obtain⟨k,hk,rfl,rfl,hall,hS,H,hB⟩:=hrel;have hzr:=hB.size;have hlt1:=H.lt;have hall':=qH hall;have HH:=qH H;have cc:wr.cell? ⟨w.heap.size,0,none⟩=some (qS aw m.ways.length (m.ways.length+capw)):=H.cell (i:=0) rfl;have hp:=Z0H hall k (qN _);have HS:=qH hS;clear hall H hS;by_cases hlt:k<l.length
  ·obtain ⟨bl, ol, rfl, hbl, hcl⟩ : ∃ b1 o1, al = some ⟨b1, o1, none⟩ /\ b1 < w.heap.size /\ ∀ j, j < l.length -> w.cell? ⟨b1, o1 + j, none⟩ = some (O qL (l.getD j 0)) := by
    rcases hlH.out with h | h
    ·rw [h] at hlt;simp at hlt
    ·exact h
   have f1:=(hB.cell (p:=⟨bl,ol+k,none⟩) hbl).trans (hcl k hlt);have hsk:prevS l (k+1)=l.getD k 0:=by simp [prevS]
   have htk:l.take (k+1)=l.take k++[l.getD k 0]:=by
    rw [List.take_succ_eq_append_getElem hlt];simp [List.getD,List.getElem?_eq_getElem hlt]
   have hok:stopOk m l k↔prevS l k<l.getD k 0/\l.getD k 0<m.ways.length/\(wy m.ways (l.getD k 0).toNat).fix≠0:=Iff.rfl;clear hcl;obtain⟨s,hs⟩:∃ s,l.getD k 0=s:=⟨_,rfl⟩;obtain⟨p0,hp0⟩:∃ p0,prevS l k=p0:=⟨_,rfl⟩;rw [hs] at f1 hsk htk hok;rw [hp0] at hp hok ⊢;have HK:=qH (qI hsk (qI htk hs));have HO:=qH hok;clear hsk htk hs hp0 hok;by_cases h1:p0<s
   ·have d1 : decide (s <= p0) = false := by simp; omega
    by_cases h2:s<m.ways.length
    ·have d2:decide ((m.ways.length:Int)<=s)=false:=by simp;omega
     obtain⟨q,rfl⟩:∃ q:Nat,s=q:=⟨s.toNat,by omega⟩
     obtain⟨bw,ow,rfl,hbw,hcw⟩:∃ b o,aw=some ⟨b,o,none⟩/\b<w.heap.size/\∀ j,j<m.ways.length->w.cell? ⟨b,o+j*5,none⟩=some (O qL (wy m.ways j).x)/\w.cell? ⟨b,o+j*5+1,none⟩=some (O qL (wy m.ways j).y)/\w.cell? ⟨b,o+j*5+2,none⟩=some (O qL (wy m.ways j).fix)/\w.cell? ⟨b,o+j*5+3,none⟩=some (O qL (wy m.ways j).wait)/\w.cell? ⟨b,o+j*5+4,none⟩=some (O qL (wy m.ways j).back):=by
      rcases hwH.out with h | h
      ·rw [h] at h2;simp at h2;omega
      ·exact h
     have f2:=(hB.cell (p:=⟨bw,ow+q*5+2,none⟩) hbw).trans (hcw q (by omega)).2.2.1
     clear hcw;have hql:q<m.ways.length:=by omega
     have HO2:=HO.out;rw [Int.toNat_natCast] at HO2;have HOO:=qH HO2;clear HO2;by_cases h3:(wy m.ways q).fix=0
     ·have hno:Hid (stopsB m l=false):=Z0O hlt (fun h=>(HOO.out.1 h).2.2 h3)
      rw [h3] at f2;clear h3;go_wp2;go_ret2;exact .inl ⟨hno.out,rfl,hB⟩
     ·have d3:decide ((wy m.ways q).fix<1)=false:=by have:=HFX.out q hql;simp;omega
      have hyes:Hid (stopOk m l k):=HOO.out.2 ⟨h1,h2,h3⟩;obtain⟨n,D,hown,hn,hmp,hat⟩:=HS.out;have HAT:=qH hat;have HMP:=qH hmp;have hn2:n<=70368744177663:=by have:=List.length_take_le k l;omega
      have HN:=qH hn;have hwf:(Lit.int .i64 (q:Int)).wf=true:=Z3x (by omega) (by omega)
      clear h3 hat hmp hn;go_wp2_with (at_mapUpdate;refine wpList_mapUpdate_own _ rfl _ _ _ 148 rfl 3 4 keyInt Tryz.underlying148 _ (w.heap.size+1) n D rfl hown (by unfold maxLen;omega) _ _ (.int .i64 (q:Int)) rfl rfl (keyOf_int_mk Tryz.underlying3 hwf) (.lit (.bool true)) [] (plainElem_bool Tryz.underlying4 true) ?_;intro w1 hown1 hgrow1)
      go_roundw
      case rel =>
       have hB1:Below w.heap.size w w1:=hB.grown hgrow1 (by omega) (fun j e=>by cases e;omega)
       have hb2:Below (w.heap.size+1) wr w1:=(qK _ wr).grown hgrow1 (by omega) (fun j e=>by cases e;omega)
       refine⟨k+1,by omega,by go_num,by rw [HK.out.1],fun j hj=>?_,?_,HH.out.below hb2 (by omega),hB1⟩
       ·by_cases e:j=k
        ·rw [e];exact hyes.out
        ·exact hall'.out j (by omega)
       ·rw [HK.out.2.1]
        exact SetAt.put hwf HN.out HMP.out HAT.out hown1
      case measure=>simp [intOf];omega
    ·have d2:decide ((m.ways.length:Int)<=s)=true:=by simp;omega
     have hno:Hid (stopsB m l=false):=Z0O hlt (fun h=>h2 (HO.out.1 h).2.1)
     go_wp2;go_ret2;exact .inl ⟨hno.out,rfl,hB⟩
   ·have d1:decide (s<=p0)=true:=by simp;omega
    have hno:Hid (stopsB m l=false):=Z0O hlt (fun h=>h1 (HO.out.1 h).1)
    go_wp2;go_ret2;exact .inl ⟨hno.out,rfl,hB⟩
  ·obtain rfl:k=l.length:=by omega
   have hyes:Hid (stopsB m l=true):=by
    show stopsB m l=true
    simp only [stopsB,decide_eq_true_eq];exact hall'.out
   have hd:decide ((l.length:Int)<(l.length:Int))=false:=by simp
   go_wp2;go_ret2;refine .inr ⟨hyes.out,_,rfl,?_,by omega,hB⟩
   have:=HS.out
   rwa [List.take_length] at this
end
section
attribute [local go_sem] Oper.semAt_some
attribute [local irreducible] wpQuiet
open Go.RowKit Go.Shelf
theorem Z98 (m:Msn) (vw vh vr:Value) (bm:Nat) (w:World) :
  Calls Tryz.prog 92 #[.agg (Zc m vw vh vr),.map (some bm)] w fun e w'=>e=.returned (.func (.func 148) #[] #[qP (some ⟨w.heap.size,0,none⟩),qP (some ⟨w.heap.size+1,0,none⟩)])/\(w.alloc (qC (Zc m vw vh vr) 26)).alloc (qC #[.map (some bm)] 148)=w':=by
 unfold Zc;go_enter Tryz.func92,Tryz.ntmps92;go_wp2;go_ret;exact⟨rfl,rfl⟩
def encR (m:Msn) (l:List Int) (x:Nat):Array Value:=#[.agg #[O qL (rdB m l x),O qL (rdA m l x)]]
theorem Z99 (n : Nat) (hn : 1 <= n) (p : Nat -> Prop) (m : Msn) (vw vh vr : Value) (l : List Int) (Bm Bs bm n0 : Nat) (W : World) (lp : Nat) (hV : validB m = true)
  (hm:MsnAt n0 W m vw vh vr) (hn0:n0<=W.heap.size) (hset:SetAt W bm l) (HM:Has W Bm (Zc m vw vh vr) 26) (HS:Boxed W Bs 148 (.map (some bm)))
  (p0:p W.heap.size) (p1:p Bm) (p2:p Bs) (p3:p bm) (p4:∀ b,b<n0->p b) (J Jx:List Nat->World->Prop)
  (hJ:∀ s A B,J s A->MoveM (fun r=>r=W.heap.size) A B->J s B)
  (hY:∀ (pre:List Nat) (x:Nat) W1,J pre W1->pre.length<m.ways.length->W.heap.size+1<=W1.heap.size->YieldAt Fence.wide (n-1) Tryz.prog lp (encR m l x) W1 fun e W' =>
   (e=.returned (.bool true)/\J (pre++[x]) W'/\KeepsP p W1 W')\/(e=.returned (.bool false)/\Jx (pre++[x]) W')) (h0:J [] W) :
  CallsIn Fence.wide n Tryz.prog 148 #[.func (.yield lp) #[] #[],qP (some ⟨Bm,0,none⟩),qP (some ⟨Bs,0,none⟩)] W fun e W'=>(∃ v,e=.returned v) /\
   ((∃ ys,ys=upto id m.ways.length/\J ys W')\/(∃ pre,(∃ j,j<=m.ways.length/\pre=upto id j)/\Jx pre W')):=by
 have V:=(Zj m).1 hV;have n41:=V.n41;have HM0:=qH hm;obtain⟨⟨_,a1,cap1,rfl,_⟩,⟨_,a2,cap2,rfl,_⟩,⟨_,a3,cap3,rfl,_⟩⟩:=hm;obtain⟨c0,c1,c2,c3,c4,c5,c6,c7,c8,c9,c10⟩:=Zg HM;have HV:=qH (qI hV V);have HMB:=qH HM;have HSB:=qH HS;have HSET:=qH hset;have HJ0:=qH (hJ _ _ _ h0 (MoveM.alloc _ W (qC #[O qL m.start,O qL m.start] 155)));have HSP:=qH (Has.new W #[O qL m.start,O qL m.start] 155);have hmlt:=HM.lt;have hslt:=HS.lt;have hblt:=hset.lt;have HWC:=qH HM0.out.1;clear hV V HM HS hset h0;refine callsIn_of_wp Tryz.func148 rfl trivial ?_ rfl;simp only [Tryz.ntmps148,List.size_toArray,List.length_cons,List.length_nil,Nat.reduceAdd,Nat.reduceSub,Array.replicate_succ,Array.replicate_zero,List.push_toArray,List.append_toArray,List.nil_append,List.cons_append];gi_wp2;have HW0:=qH (show ∀ b,p b->b≠W.heap.size->b<W.heap.size->(W.alloc (qC #[O qL m.start,O qL m.start] 155)).heap[b]?=W.heap[b]? from fun b _ _ hb=>Below.heap_alloc _ _ _ hb)
 gi_loopw [19] (fun i wr=>∃ k:Nat,k<=m.ways.length/\i=O qL k/\J (upto id k) wr/\Has wr W.heap.size #[O qL (rdB m l (k-1)),O qL (rdA m l (k-1))] 155/\(∀ b,p b->b≠W.heap.size->b<W.heap.size->wr.heap[b]?=W.heap[b]?)/\W.heap.size+1<=wr.heap.size)
  (fun i _=>m.ways.length-(intOf i).toNat)
 case atStart=>exact⟨0,Nat.zero_le _,rfl,HJ0.out,HSP.out,HW0.out,by simp⟩
 case round =>
  obtain⟨k,hk,rfl,hJs,hsp,hkp,hsz⟩:=hrel;obtain⟨hV,V⟩:=HV.out;have HKP:=qH hkp;have HMr:=HM0.out.blocks (B:=wr) (by omega) (fun b hb=>hkp b (p4 b hb) (by omega) (by omega))
  by_cases hlt:k<m.ways.length
  ·have hub := rd_le V l hlt
   have d1:decide ((k:Int)<(m.ways.length:Int))=true:=by simp;omega
   have kl:(k:Int)<m.ways.length:=by omega
   obtain⟨bw,ow,capw,hvw,hbw,hcw⟩:=HMr.1.cells (by omega)
   simp only [Value.slice.injEq,true_and] at hvw;obtain⟨ha1,hcap⟩:=hvw;obtain⟨q0,q1,q2,q3,q4⟩:=hcw k hlt;subst ha1;have HMH:=qH (HMr.mono (by omega:n0<=wr.heap.size))
   have hbw2:bw<wr.heap.size:=by omega
   clear hkp HMr hcw hcap;cases k with
   | zero =>
    have hbr:W.heap.size<wr.heap.size:=by omega
    have HP2:=qH (hsp.below ((qK wr.heap.size wr).alloc (qN _) (qC #[O qL (wy m.ways 0).x,O qL (wy m.ways 0).y,O qL (wy m.ways 0).fix,O qL (wy m.ways 0).wait,O qL (wy m.ways 0).back] 65)) hsp.lt);have HBL:=qH (show Below wr.heap.size wr (wr.alloc (qC #[O qL (wy m.ways 0).x,O qL (wy m.ways 0).y,O qL (wy m.ways 0).fix,O qL (wy m.ways 0).wait,O qL (wy m.ways 0).back] 65)) from (qK wr.heap.size wr).alloc (qN _) _)
    obtain⟨fn,tmps,assign,body,hy,hR⟩:=hY _ 0 _ (hJ _ _ _ hJs (MoveM.alloc _ wr (qC #[O qL (wy m.ways 0).x,O qL (wy m.ways 0).y,O qL (wy m.ways 0).fix,O qL (wy m.ways 0).wait,O qL (wy m.ways 0).back] 65))) (by rw [Zq];omega) (by simp;omega)
    unfold encR at hy;have e0:=HP2.out.cell (i:=0) rfl;have e1:=HP2.out.cell (i:=1) rfl;have hz2:=hsz;simp only [Nat.zero_mul,Nat.add_zero,Int.natCast_zero] at *;clear hsp hJs V hV;gi_wp2;refine hR.mono ?_;rintro e W3 (⟨rfl,hJ3,hk3⟩ | ⟨rfl,hJx3⟩)
    ·have hsp3:=(hk3.2 _ p0).trans HP2.out
     have hz3:W.heap.size+1<=W3.heap.size:=Nat.le_trans hz2 (Nat.le_trans HBL.out.size hk3.1);have hkp3:∀ b,p b->b≠W.heap.size->b<W.heap.size->W3.heap[b]?=W.heap[b]?:=fun b h1 h2 h3=>(hk3.2 b h1).trans ((HBL.out.block b (by omega)).trans (HKP.out b h1 h2 h3))
     have HN:=qH (qI hsp3 (qI hkp3 hJ3));clear hsp3 hkp3 hJ3 hk3 hy hR;gi_wp2;go_roundw
     case rel =>
      refine⟨0+1,by omega,by go_num,?_,HN.out.1,HN.out.2.1,hz3⟩
      rw [ZA];exact HN.out.2.2
     case measure=>simp [intOf];omega
    ·gi_wp2
     exact bodyPost_ret (v:=qT #[]) (by simp [results,Tryz.f148]) rfl ⟨⟨_,rfl⟩,.inr ⟨_,⟨0+1,by omega,(ZA _ _).symm⟩,hJx3⟩⟩
   | succ j =>
    rw [show j+1-1=j by omega] at hsp
    have hj:=rd_le V l (k:=j) (by omega)
    have hg:=Z00 V.leg V.ways (i:=j) (j:=j+1) (by omega) hlt
    have eB:rdB m l (j+1)=rdA m l j+gLeg m j (j+1):=rfl;have eA:=Z0G m l j;have hl:=Z9r m (qS (some ⟨bw,ow,none⟩) m.ways.length (m.ways.length+cap1)) (qS a2 m.home.length (m.home.length+cap2)) (qS a3 m.rocks.length (m.rocks.length+cap3)) j (j+1);have hl:=qH (fun w1 h=>hl w1 h hV (by omega) hlt)
    have m1:IntKind.i64.wrap (rdA m l j+gLeg m j (j+1))=rdA m l j+gLeg m j (j+1):=zW2;have e1:wr.cell? ⟨W.heap.size,1,none⟩=some (O qL (rdA m l j)):=hsp.cell (i:=1) rfl;have hbm:wr.heap[Bm]?=W.heap[Bm]?:=by
     rcases Nat.lt_or_ge Bm W.heap.size with h | h
     ·exact HKP.out Bm p1 (by omega) h
     ·omega
    obtain⟨c0,c1,c2,c3,c4,c5,c6,c7,c8,c9,c10⟩:=Zg (hbm.trans HMB.out);have HSPr:=qH hsp;have HJs:=qH hJs;have HBL:=qH (show Below wr.heap.size wr (wr.alloc (qC #[O qL (wy m.ways (j+1)).x,O qL (wy m.ways (j+1)).y,O qL (wy m.ways (j+1)).fix,O qL (wy m.ways (j+1)).wait,O qL (wy m.ways (j+1)).back] 65)) from (qK wr.heap.size wr).alloc (qN _) _)
    have HWB:=qH (Has.new wr #[O qL (wy m.ways (j+1)).x,O qL (wy m.ways (j+1)).y,O qL (wy m.ways (j+1)).fix,O qL (wy m.ways (j+1)).wait,O qL (wy m.ways (j+1)).back] 65);have d2:decide ((j:Int)+1>0)=true:=by rw [decide_eq_true_eq];omega
    have hbmlt:Bm<wr.heap.size:=by omega
    have HE:=qH (qI eB eA);clear hsp hJs V hV hub hj hg eB eA;by_cases hin:(((j+1):Nat):Int) ∈ l
    ·have dl : decide (((j + 1 : Nat) : Int) ∈ l) = true := by simpa using hin
     by_cases hmn:(wy m.ways (j+1)).fix<rdA m l j+gLeg m j (j+1)
     ·have hAv:Hid (rdA m l (j+1)=(wy m.ways (j+1)).fix):=HE.out.2.trans ((if_pos hin).trans (if_pos hmn))
      have hBv:=qH HE.out.1;have HB2:Hid ((m.ways.length:Nat)=(m.ways.length:Nat)):=rfl;clear hin HB2
      gi_wp2_with fail
      refine⟨trivial,(callsIn_wide.2 (hl.out _ ((HMH.out.below HBL.out).mono HBL.out.size))).mono ?_⟩;rintro r W2 ⟨rfl,hb2⟩;have BW:=HBL.out.trans (hb2.mono HBL.out.size);have hz2:=BW.size;have hwz:wr.heap.size<W2.heap.size:=by have:=hb2.size;simp at this;omega
      have hsp2:Has W2 W.heap.size #[O qL (rdB m l j),O qL (rdA m l j)] 155:=HSPr.out.below BW HSPr.out.lt;have hwb2:=HWB.out.below hb2 (by simp)
      have old2:∀ b,p b->b≠W.heap.size->b<W.heap.size->W2.heap[b]?=W.heap[b]?:=fun b h1 h2 h3=>(BW.block b (by omega)).trans (HKP.out b h1 h2 h3)
      have hO:Only W.heap.size wr W2:=Only.of_below BW;have HOLD:=qH old2;have h30:=hsp2.set 0 (O qL (rdA m l j+gLeg m j (j+1)));have h3:=h30.set 1 (O qL (rdA m l j+gLeg m j (j+1)));have hO3:=(hO.set 0 (O qL (rdA m l j+gLeg m j (j+1)))).set 1 (O qL (rdA m l j+gLeg m j (j+1)));have old3:∀ b,p b->b≠W.heap.size->b<W.heap.size->(qU (qU W2 ⟨W.heap.size,0,none⟩ (O qL (rdA m l j+gLeg m j (j+1)))) ⟨W.heap.size,1,none⟩ (O qL (rdA m l j+gLeg m j (j+1)))).heap[b]?=W.heap[b]?:=fun b h1 h2 h3=>(hO3.block b (by omega) h2).trans (HKP.out b h1 h2 h3)
      have s0:=(show Boxed (qU (qU W2 ⟨W.heap.size,0,none⟩ (O qL (rdA m l j+gLeg m j (j+1)))) ⟨W.heap.size,1,none⟩ (O qL (rdA m l j+gLeg m j (j+1)))) Bs 148 (.map (some bm)) from (old3 Bs p2 (by omega) hslt).trans HSB.out).cell
      have hst:SetAt (qU (qU W2 ⟨W.heap.size,0,none⟩ (O qL (rdA m l j+gLeg m j (j+1)))) ⟨W.heap.size,1,none⟩ (O qL (rdA m l j+gLeg m j (j+1)))) bm l:=HSET.out.block (old3 bm p3 (by omega) hblt)
      have hlook:(Instr.lookup 148 (.map (some bm)) (O qL ((j:Int)+1)) false).run Tryz.prog (qU (qU W2 ⟨W.heap.size,0,none⟩ (O qL (rdA m l j+gLeg m j (j+1)))) ⟨W.heap.size,1,none⟩ (O qL (rdA m l j+gLeg m j (j+1))))=.ok (.bool (decide (((j+1:Nat):Int) ∈ l))) (qU (qU W2 ⟨W.heap.size,0,none⟩ (O qL (rdA m l j+gLeg m j (j+1)))) ⟨W.heap.size,1,none⟩ (O qL (rdA m l j+gLeg m j (j+1)))):=hst.look (k:=((j+1):Nat)) (Z3x (by omega) (by omega))
      rw [dl] at hlook;have y0:=Ze hsp2 0;have y1:=Ze h30 1;have o1:=hsp2.cell (i:=0) rfl;have o2:=hsp2.cell (i:=1) rfl;have r0:=h3.cell (i:=0) rfl;have r1:=h3.cell (i:=1) rfl;have f2:=((hwb2.other ⟨W.heap.size,0,none⟩ (O qL (rdA m l j+gLeg m j (j+1))) (by show wr.heap.size≠W.heap.size;omega)).other ⟨W.heap.size,1,none⟩ (O qL (rdA m l j+gLeg m j (j+1))) (by show wr.heap.size≠W.heap.size;omega)).cell (i:=2) rfl
      have y2:=Ze h3 1;have h4:=h3.set 1 (O qL (wy m.ways (j+1)).fix);have hO4:=hO3.set 1 (O qL (wy m.ways (j+1)).fix);have t0:=h4.cell (i:=0) rfl;have t1:=h4.cell (i:=1) rfl;obtain⟨fn,tmps,assign,body,hy,hR⟩:=hY _ (j+1) (qU (qU (qU W2 ⟨W.heap.size,0,none⟩ (O qL (rdA m l j+gLeg m j (j+1)))) ⟨W.heap.size,1,none⟩ (O qL (rdA m l j+gLeg m j (j+1)))) ⟨W.heap.size,1,none⟩ (O qL (wy m.ways (j+1)).fix)) (hJ _ _ _ HJs.out (hO4.move rfl ⟨_,HSPr.out,rfl⟩)) (by rw [Zq];omega) (by simp [qU];omega)
      unfold encR at hy;rw [hBv.out,hAv.out] at hy;have H4:=qH (qI h4 hO4);clear hb2 BW hsp2 hwb2 old2 hO h30 h3 hO3 old3 hst h4 hO4 HOLD;gi_wp2;refine hR.mono ?_;rintro e W5 (⟨rfl,hJ3,hk3⟩ | ⟨rfl,hJx3⟩)
      ·have hsp3:=(hk3.2 _ p0).trans H4.out.1
       have hz3:W.heap.size+1<=W5.heap.size:=Nat.le_trans (by omega) (Nat.le_trans H4.out.2.size hk3.1)
       have hkp3:∀ b,p b->b≠W.heap.size->b<W.heap.size->W5.heap[b]?=W.heap[b]?:=fun b h1 h2 h3=>(hk3.2 b h1).trans ((H4.out.2.block b (by omega) h2).trans (HKP.out b h1 h2 h3))
       have HN:=qH (qI hsp3 (qI hkp3 hJ3));clear hsp3 hkp3 hJ3 hk3 hy hR;gi_wp2;go_roundw
       case rel =>
        refine⟨(j+1)+1,by omega,by go_num,?_,?_,HN.out.2.1,hz3⟩
        ·rw [ZA]
         exact HN.out.2.2
        ·rw [show j+1+1-1=j+1 by omega,hBv.out,hAv.out]
         exact HN.out.1
       case measure=>simp [intOf];omega
      ·gi_wp2
       exact bodyPost_ret (v:=qT #[]) (by simp [results,Tryz.f148]) rfl ⟨⟨_,rfl⟩,.inr ⟨_,⟨(j+1)+1,by omega,(ZA _ _).symm⟩,hJx3⟩⟩
     ·have hAv:Hid (rdA m l (j+1)=(rdA m l j+gLeg m j (j+1))):=HE.out.2.trans ((if_pos hin).trans (if_neg hmn))
      have hBv:=qH HE.out.1;have HB2:Hid ((m.ways.length:Nat)=(m.ways.length:Nat)):=rfl;clear hin HB2
      gi_wp2_with fail
      refine⟨trivial,(callsIn_wide.2 (hl.out _ ((HMH.out.below HBL.out).mono HBL.out.size))).mono ?_⟩;rintro r W2 ⟨rfl,hb2⟩;have BW:=HBL.out.trans (hb2.mono HBL.out.size);have hz2:=BW.size;have hwz:wr.heap.size<W2.heap.size:=by have:=hb2.size;simp at this;omega
      have hsp2:Has W2 W.heap.size #[O qL (rdB m l j),O qL (rdA m l j)] 155:=HSPr.out.below BW HSPr.out.lt;have hwb2:=HWB.out.below hb2 (by simp)
      have old2:∀ b,p b->b≠W.heap.size->b<W.heap.size->W2.heap[b]?=W.heap[b]?:=fun b h1 h2 h3=>(BW.block b (by omega)).trans (HKP.out b h1 h2 h3)
      have hO:Only W.heap.size wr W2:=Only.of_below BW;have HOLD:=qH old2;have h30:=hsp2.set 0 (O qL (rdA m l j+gLeg m j (j+1)));have h3:=h30.set 1 (O qL (rdA m l j+gLeg m j (j+1)));have hO3:=(hO.set 0 (O qL (rdA m l j+gLeg m j (j+1)))).set 1 (O qL (rdA m l j+gLeg m j (j+1)));have old3:∀ b,p b->b≠W.heap.size->b<W.heap.size->(qU (qU W2 ⟨W.heap.size,0,none⟩ (O qL (rdA m l j+gLeg m j (j+1)))) ⟨W.heap.size,1,none⟩ (O qL (rdA m l j+gLeg m j (j+1)))).heap[b]?=W.heap[b]?:=fun b h1 h2 h3=>(hO3.block b (by omega) h2).trans (HKP.out b h1 h2 h3)
      have s0:=(show Boxed (qU (qU W2 ⟨W.heap.size,0,none⟩ (O qL (rdA m l j+gLeg m j (j+1)))) ⟨W.heap.size,1,none⟩ (O qL (rdA m l j+gLeg m j (j+1)))) Bs 148 (.map (some bm)) from (old3 Bs p2 (by omega) hslt).trans HSB.out).cell
      have hst:SetAt (qU (qU W2 ⟨W.heap.size,0,none⟩ (O qL (rdA m l j+gLeg m j (j+1)))) ⟨W.heap.size,1,none⟩ (O qL (rdA m l j+gLeg m j (j+1)))) bm l:=HSET.out.block (old3 bm p3 (by omega) hblt)
      have hlook:(Instr.lookup 148 (.map (some bm)) (O qL ((j:Int)+1)) false).run Tryz.prog (qU (qU W2 ⟨W.heap.size,0,none⟩ (O qL (rdA m l j+gLeg m j (j+1)))) ⟨W.heap.size,1,none⟩ (O qL (rdA m l j+gLeg m j (j+1))))=.ok (.bool (decide (((j+1:Nat):Int) ∈ l))) (qU (qU W2 ⟨W.heap.size,0,none⟩ (O qL (rdA m l j+gLeg m j (j+1)))) ⟨W.heap.size,1,none⟩ (O qL (rdA m l j+gLeg m j (j+1)))):=hst.look (k:=((j+1):Nat)) (Z3x (by omega) (by omega))
      rw [dl] at hlook;have y0:=Ze hsp2 0;have y1:=Ze h30 1;have o1:=hsp2.cell (i:=0) rfl;have o2:=hsp2.cell (i:=1) rfl;have r0:=h3.cell (i:=0) rfl;have r1:=h3.cell (i:=1) rfl;have f2:=((hwb2.other ⟨W.heap.size,0,none⟩ (O qL (rdA m l j+gLeg m j (j+1))) (by show wr.heap.size≠W.heap.size;omega)).other ⟨W.heap.size,1,none⟩ (O qL (rdA m l j+gLeg m j (j+1))) (by show wr.heap.size≠W.heap.size;omega)).cell (i:=2) rfl
      have y2:=Ze h3 1;have h4:=h3.set 1 (O qL (rdA m l j+gLeg m j (j+1)));have hO4:=hO3.set 1 (O qL (rdA m l j+gLeg m j (j+1)));have t0:=h4.cell (i:=0) rfl;have t1:=h4.cell (i:=1) rfl;obtain⟨fn,tmps,assign,body,hy,hR⟩:=hY _ (j+1) (qU (qU (qU W2 ⟨W.heap.size,0,none⟩ (O qL (rdA m l j+gLeg m j (j+1)))) ⟨W.heap.size,1,none⟩ (O qL (rdA m l j+gLeg m j (j+1)))) ⟨W.heap.size,1,none⟩ (O qL (rdA m l j+gLeg m j (j+1)))) (hJ _ _ _ HJs.out (hO4.move rfl ⟨_,HSPr.out,rfl⟩)) (by rw [Zq];omega) (by simp [qU];omega)
      unfold encR at hy;rw [hBv.out,hAv.out] at hy;have H4:=qH (qI h4 hO4);clear hb2 BW hsp2 hwb2 old2 hO h30 h3 hO3 old3 hst h4 hO4 HOLD;gi_wp2;refine hR.mono ?_;rintro e W5 (⟨rfl,hJ3,hk3⟩ | ⟨rfl,hJx3⟩)
      ·have hsp3:=(hk3.2 _ p0).trans H4.out.1
       have hz3:W.heap.size+1<=W5.heap.size:=Nat.le_trans (by omega) (Nat.le_trans H4.out.2.size hk3.1)
       have hkp3:∀ b,p b->b≠W.heap.size->b<W.heap.size->W5.heap[b]?=W.heap[b]?:=fun b h1 h2 h3=>(hk3.2 b h1).trans ((H4.out.2.block b (by omega) h2).trans (HKP.out b h1 h2 h3))
       have HN:=qH (qI hsp3 (qI hkp3 hJ3));clear hsp3 hkp3 hJ3 hk3 hy hR;gi_wp2;go_roundw
       case rel =>
        refine⟨(j+1)+1,by omega,by go_num,?_,?_,HN.out.2.1,hz3⟩
        ·rw [ZA]
         exact HN.out.2.2
        ·rw [show j+1+1-1=j+1 by omega,hBv.out,hAv.out]
         exact HN.out.1
       case measure=>simp [intOf];omega
      ·gi_wp2
       exact bodyPost_ret (v:=qT #[]) (by simp [results,Tryz.f148]) rfl ⟨⟨_,rfl⟩,.inr ⟨_,⟨(j+1)+1,by omega,(ZA _ _).symm⟩,hJx3⟩⟩
    ·have dl:decide (((j+1:Nat):Int) ∈ l)=false:=by simpa using hin
     have hAv:Hid (rdA m l (j+1)=rdA m l j+gLeg m j (j+1)):=(HE.out.2.trans (if_neg hin)).trans HE.out.1;have hBv:=qH HE.out.1;have HB2:Hid ((m.ways.length:Nat)=(m.ways.length:Nat)):=rfl;clear hin HB2
     gi_wp2_with fail
     refine⟨trivial,(callsIn_wide.2 (hl.out _ ((HMH.out.below HBL.out).mono HBL.out.size))).mono ?_⟩;rintro r W2 ⟨rfl,hb2⟩;have BW:=HBL.out.trans (hb2.mono HBL.out.size);have hz2:=BW.size;have hwz:wr.heap.size<W2.heap.size:=by have:=hb2.size;simp at this;omega
     have hsp2:Has W2 W.heap.size #[O qL (rdB m l j),O qL (rdA m l j)] 155:=HSPr.out.below BW HSPr.out.lt;have hwb2:=HWB.out.below hb2 (by simp)
     have old2:∀ b,p b->b≠W.heap.size->b<W.heap.size->W2.heap[b]?=W.heap[b]?:=fun b h1 h2 h3=>(BW.block b (by omega)).trans (HKP.out b h1 h2 h3)
     have hO:Only W.heap.size wr W2:=Only.of_below BW;have HOLD:=qH old2;have h30:=hsp2.set 0 (O qL (rdA m l j+gLeg m j (j+1)));have h3:=h30.set 1 (O qL (rdA m l j+gLeg m j (j+1)));have hO3:=(hO.set 0 (O qL (rdA m l j+gLeg m j (j+1)))).set 1 (O qL (rdA m l j+gLeg m j (j+1)));have old3:∀ b,p b->b≠W.heap.size->b<W.heap.size->(qU (qU W2 ⟨W.heap.size,0,none⟩ (O qL (rdA m l j+gLeg m j (j+1)))) ⟨W.heap.size,1,none⟩ (O qL (rdA m l j+gLeg m j (j+1)))).heap[b]?=W.heap[b]?:=fun b h1 h2 h3=>(hO3.block b (by omega) h2).trans (HKP.out b h1 h2 h3)
     have s0:=(show Boxed (qU (qU W2 ⟨W.heap.size,0,none⟩ (O qL (rdA m l j+gLeg m j (j+1)))) ⟨W.heap.size,1,none⟩ (O qL (rdA m l j+gLeg m j (j+1)))) Bs 148 (.map (some bm)) from (old3 Bs p2 (by omega) hslt).trans HSB.out).cell
     have hst:SetAt (qU (qU W2 ⟨W.heap.size,0,none⟩ (O qL (rdA m l j+gLeg m j (j+1)))) ⟨W.heap.size,1,none⟩ (O qL (rdA m l j+gLeg m j (j+1)))) bm l:=HSET.out.block (old3 bm p3 (by omega) hblt)
     have hlook:(Instr.lookup 148 (.map (some bm)) (O qL ((j:Int)+1)) false).run Tryz.prog (qU (qU W2 ⟨W.heap.size,0,none⟩ (O qL (rdA m l j+gLeg m j (j+1)))) ⟨W.heap.size,1,none⟩ (O qL (rdA m l j+gLeg m j (j+1))))=.ok (.bool (decide (((j+1:Nat):Int) ∈ l))) (qU (qU W2 ⟨W.heap.size,0,none⟩ (O qL (rdA m l j+gLeg m j (j+1)))) ⟨W.heap.size,1,none⟩ (O qL (rdA m l j+gLeg m j (j+1)))):=hst.look (k:=((j+1):Nat)) (Z3x (by omega) (by omega))
     rw [dl] at hlook;have y0:=Ze hsp2 0;have y1:=Ze h30 1;have o1:=hsp2.cell (i:=0) rfl;have o2:=hsp2.cell (i:=1) rfl;have r0:=h3.cell (i:=0) rfl;have r1:=h3.cell (i:=1) rfl;have h4:=h3;have hO4:=hO3;obtain⟨fn,tmps,assign,body,hy,hR⟩:=hY _ (j+1) (qU (qU W2 ⟨W.heap.size,0,none⟩ (O qL (rdA m l j+gLeg m j (j+1)))) ⟨W.heap.size,1,none⟩ (O qL (rdA m l j+gLeg m j (j+1)))) (hJ _ _ _ HJs.out (hO4.move rfl ⟨_,HSPr.out,rfl⟩)) (by rw [Zq];omega) (by simp [qU];omega)
     unfold encR at hy;rw [hBv.out,hAv.out] at hy;have H4:=qH (qI h4 hO4);clear hb2 BW hsp2 hwb2 old2 hO h30 h3 hO3 old3 hst h4 hO4 HOLD;gi_wp2;refine hR.mono ?_;rintro e W5 (⟨rfl,hJ3,hk3⟩ | ⟨rfl,hJx3⟩)
     ·have hsp3:=(hk3.2 _ p0).trans H4.out.1
      have hz3:W.heap.size+1<=W5.heap.size:=Nat.le_trans (by omega) (Nat.le_trans H4.out.2.size hk3.1)
      have hkp3:∀ b,p b->b≠W.heap.size->b<W.heap.size->W5.heap[b]?=W.heap[b]?:=fun b h1 h2 h3=>(hk3.2 b h1).trans ((H4.out.2.block b (by omega) h2).trans (HKP.out b h1 h2 h3))
      have HN:=qH (qI hsp3 (qI hkp3 hJ3));clear hsp3 hkp3 hJ3 hk3 hy hR;gi_wp2;go_roundw
      case rel =>
       refine⟨(j+1)+1,by omega,by go_num,?_,?_,HN.out.2.1,hz3⟩
       ·rw [ZA]
        exact HN.out.2.2
       ·rw [show j+1+1-1=j+1 by omega,hBv.out,hAv.out]
        exact HN.out.1
      case measure=>simp [intOf];omega
     ·gi_wp2
      exact bodyPost_ret (v:=qT #[]) (by simp [results,Tryz.f148]) rfl ⟨⟨_,rfl⟩,.inr ⟨_,⟨(j+1)+1,by omega,(ZA _ _).symm⟩,hJx3⟩⟩
  ·obtain rfl:k=m.ways.length:=by omega
   have d1:decide ((m.ways.length:Int)<(m.ways.length:Int))=false:=by simp
   gi_wp2;go_end0;exact⟨⟨_,rfl⟩,.inl ⟨_,rfl,hJs⟩⟩
theorem Z97 (n:Nat) (hn:1<=n) (p:Nat->Nat->Prop) (m:Msn) (vw vh vr:Value) (l:List Int) (Bm Bs bm n0:Nat) (w:World) (hV:validB m=true)
  (hm:MsnAt n0 w m vw vh vr) (hn0:n0<=w.heap.size) (hset:SetAt w bm l) (HM:Has w Bm (Zc m vw vh vr) 26) (HS:Boxed w Bs 148 (.map (some bm)))
  (p0:∀ B,p B B) (p1:∀ B,p B Bm) (p2:∀ B,p B Bs) (p3:∀ B,p B bm) (p4:∀ B b,b<n0->p B b) :
  SeqM n Tryz.prog 148 #[qP (some ⟨Bm,0,none⟩),qP (some ⟨Bs,0,none⟩)] (encR m l) (fun B=>KeepsP (p B)) (fun B r=>r=B) 1 m.ways.length
   (fun ys=>ys=upto id m.ways.length) (fun pre=>∃ j,j<=m.ways.length/\pre=upto id j) w:=fun lp J Jx W hW hJ _ hY h0 =>
 Z99 n hn (p W.heap.size) m vw vh vr l Bm Bs bm n0 W lp hV (hm.below (hW.mono hn0)) (Nat.le_trans hn0 hW.size) (hset.block (hW.block bm hset.lt)) (HM.below hW HM.lt) ((hW.block Bs HS.lt).trans HS)
  (p0 _) (p1 _) (p2 _) (p3 _) (p4 _) J Jx hJ hY h0
def bL (m:Msn) (l:List Int) (k:Nat):Value:=O qL (rdB m l k)
def aL (m:Msn) (l:List Int) (k:Nat):Value:=O qL (rdA m l k)
noncomputable def rdBU (m:Msn) (l:List Int):List Int:=upto (rdB m l) m.ways.length
noncomputable def rdAU (m:Msn) (l:List Int):List Int:=upto (rdA m l) m.ways.length
theorem ZaR (m:Msn) (vw vh vr vl:Value) (l:List Int) (w:World) (hm:MsnAt w.heap.size w m vw vh vr) (hl:Z8 w.heap.size w vl l) (hE:(validB m && stopsB m l)=false) :
  Calls Tryz.prog 40 #[.agg (Zc m vw vh vr),vl] w (UsedQ [] [] 1 w):=by
 obtain⟨t1,t2,t3,tb,tz⟩:=three w (Zc m vw vh vr) 26;have hv:=qH (Z0L m vw vh vr _ ((hm.below tb).mono (by omega)))
 have HT:=qH (qI t1 (qI t2 (qI t3 tb)));have HM:=qH hm;have HL:=qH hl;have hse:=fun hfx w1 h1 h2=>Z4u m vw vh vr vl l w1 hfx h1 h2
 obtain⟨⟨_,a1,cap1,rfl,_⟩,⟨_,a2,cap2,rfl,_⟩,⟨_,a3,cap3,rfl,_⟩⟩:=hm;obtain⟨_,al,capl,rfl,_⟩:=hl;clear t1 t2 t3 tb;cases h:validB m
 ·rw [h] at hv
  have h':=qH h;clear h hE tz hse;unfold Zc at *;go_enter Tryz.func40,Tryz.ntmps40;go_wp2_with fail;refine hv.out.mono ?_;rintro e w1 ⟨rfl,hb1⟩;obtain⟨t1,t2,t3,tb⟩:=HT.out;have k1:=Boxed.below t2 (hb1.mono (by simp):Below (w.heap.size+3) _ w1) (by omega)
  have k2:=Boxed.below t3 (hb1.mono (by simp):Below (w.heap.size+3) _ w1) (by omega)
  have B1:=tb.trans (hb1.mono (by simp;omega))
  have x1:=k1.cell;have x2:=k2.cell;have y1:=k1.frozen;have y2:=k2.frozen;have j1:=qH ((k1.set (qS none 0 0)).other (by omega:w.heap.size+1≠w.heap.size+1+1) (qS none 0 0))
  have j2:=qH ((k2.other (by omega:w.heap.size+1+1≠w.heap.size+1) (qS none 0 0)).set (qS none 0 0))
  have BY:=qH ((B1.setCell (p:=⟨w.heap.size+1,0,none⟩) (by simp) (qS none 0 0)).setCell (p:=⟨w.heap.size+1+1,0,none⟩) (by simp;omega) (qS none 0 0))
  clear hb1 k1 k2 t1 t2 t3 tb B1;go_wp2;generalize qU (qU w1 _ _) _ _=Y at *;have x1:=j1.out.cell;have x2:=j2.out.cell;exact bodyPost_ret (v:=qT #[qS none 0 0,qS none 0 0,O qL 1]) (by simp [results,Tryz.f40,go_sem,x1,x2]) rfl ⟨_,_,rfl,Z8.nil _ _,Z8.nil _ _,BY.out⟩
 ·replace hse:=hse (fun k hk=>(ZO (Z06 ((Zj m).1 h).ways hk)).2.2.2.2.1)
  rw [h] at hv hE;have hst:=qH (show stopsB m l=false by simpa using hE)
  have h':=qH h;have hse:=qH hse;clear h hE tz;unfold Zc at *;go_enter Tryz.func40,Tryz.ntmps40;go_wp2_with fail;refine hv.out.mono ?_;rintro e w1 ⟨rfl,hb1⟩;obtain⟨t1,t2,t3,tb⟩:=HT.out;have H1:=t1.below (hb1.mono (by simp):Below (w.heap.size+3) _ w1) (by omega)
  have k1:=Boxed.below t2 (hb1.mono (by simp):Below (w.heap.size+3) _ w1) (by omega)
  have k2:=Boxed.below t3 (hb1.mono (by simp):Below (w.heap.size+3) _ w1) (by omega)
  have B1:=tb.trans (hb1.mono (by simp;omega))
  have z1:w.heap.size+3<=w1.heap.size:=by have:=hb1.size;simp at this;omega
  obtain⟨c0,c1,c2,c3,c4,c5,c6,c7,c8,c9,c10⟩:=Zg (m:=m) (vw:=qS a1 m.ways.length (m.ways.length+cap1)) (vh:=qS a2 m.home.length (m.home.length+cap2)) (vr:=qS a3 m.rocks.length (m.rocks.length+cap3)) H1;have HK:=qH (qI k1 (qI k2 B1));clear hb1 k1 k2 t1 t2 t3 tb B1 H1;go_wp2_with fail;refine (hse.out _ ((HM.out.1.below HK.out.2.2).mono HK.out.2.2.size) ((HL.out.below HK.out.2.2).mono HK.out.2.2.size)).mono ?_;rintro e w2 (⟨_,rfl,hb2⟩ | ⟨ht,_⟩)
  ·obtain⟨k1,k2,B1⟩:=HK.out
   have k1:=Boxed.below k1 hb2 (by omega)
   have k2:=Boxed.below k2 hb2 (by omega)
   have B2:=B1.trans (hb2.mono B1.size);have x1:=k1.cell;have x2:=k2.cell;have y1:=k1.frozen;have y2:=k2.frozen;have j1:=qH ((k1.set (qS none 0 0)).other (by omega:w.heap.size+1≠w.heap.size+1+1) (qS none 0 0))
   have j2:=qH ((k2.other (by omega:w.heap.size+1+1≠w.heap.size+1) (qS none 0 0)).set (qS none 0 0))
   have BY:=qH ((B2.setCell (p:=⟨w.heap.size+1,0,none⟩) (by simp) (qS none 0 0)).setCell (p:=⟨w.heap.size+1+1,0,none⟩) (by simp;omega) (qS none 0 0))
   clear hb2 k1 k2 B1 B2 c0 c1 c2 c3 c4 c5 c6 c7 c8 c9 c10;go_wp2;generalize qU (qU w2 _ _) _ _=Y at *;have x1:=j1.out.cell;have x2:=j2.out.cell;exact bodyPost_ret (v:=qT #[qS none 0 0,qS none 0 0,O qL 1]) (by simp [results,Tryz.f40,go_sem,x1,x2]) rfl ⟨_,_,rfl,Z8.nil _ _,Z8.nil _ _,BY.out⟩
  ·have h2:=hst.out
   rw [ht] at h2;cases h2
theorem Z1Y (m : Msn) (vw vh vr vl : Value) (l : List Int) (w : World) (hm : MsnAt w.heap.size w m vw vh vr) (hl : Z8 w.heap.size w vl l) (hV : validB m = true) (hst : stopsB m l = true) :
  Calls Tryz.prog 40 #[.agg (Zc m vw vh vr),vl] w (UsedN (rdBU m l) (rdAU m l) 0 w):=by
 obtain⟨t1,t2,t3,tb,tz⟩:=three w (Zc m vw vh vr) 26;have hv:=Z0L m vw vh vr _ ((hm.below tb).mono (by omega))
 rw [hV] at hv;have hv:=qH hv;have HT:=qH (qI t1 (qI t2 (qI t3 tb)));have HM:=qH hm;have HL:=qH hl;have HV:=qH (qI hV hst);have hse:=qH (fun w1 h1 h2=>Z4u m vw vh vr vl l w1 (fun k hk=>(ZO (Z06 ((Zj m).1 hV).ways hk)).2.2.2.2.1) h1 h2)
 have hwy:=qH (fun b w1=>Z98 m vw vh vr b w1)
 obtain⟨⟨_,a1,cap1,rfl,_⟩,⟨_,a2,cap2,rfl,_⟩,⟨_,a3,cap3,rfl,_⟩⟩:=hm;obtain⟨_,al,capl,rfl,_⟩:=hl;have n41:=((Zj m).1 hV).n41;clear t1 t2 t3 tb tz hV hst;unfold Zc at *;refine (callsIn_wide (n:=9)).1 ?_;refine callsIn_of_wp_marks Tryz.func40 rfl trivial ?_ rfl;simp only [Tryz.ntmps40,List.size_toArray,List.length_cons,List.length_nil,Nat.reduceAdd,Nat.reduceSub,Array.replicate_succ,Array.replicate_zero,List.push_toArray,List.append_toArray,List.nil_append,List.cons_append];refine wpIn_wide.2 ?_;go_wp2_with fail;refine hv.out.mono ?_;rintro e w1 ⟨rfl,hb1⟩;obtain⟨t1,t2,t3,tb⟩:=HT.out;have H1:=t1.below (hb1.mono (by simp):Below (w.heap.size+3) _ w1) (by omega)
 have k1:=Boxed.below t2 (hb1.mono (by simp):Below (w.heap.size+3) _ w1) (by omega)
 have k2:=Boxed.below t3 (hb1.mono (by simp):Below (w.heap.size+3) _ w1) (by omega)
 have B1:=tb.trans (hb1.mono (by simp;omega))
 have z1:w.heap.size+3<=w1.heap.size:=by have:=hb1.size;simp at this;omega
 obtain⟨c0,c1,c2,c3,c4,c5,c6,c7,c8,c9,c10⟩:=Zg (m:=m) (vw:=qS a1 m.ways.length (m.ways.length+cap1)) (vh:=qS a2 m.home.length (m.home.length+cap2)) (vr:=qS a3 m.rocks.length (m.rocks.length+cap3)) H1;have HK:=qH (qI k1 (qI k2 (qI B1 H1)));clear hb1 k1 k2 t1 t2 t3 tb B1 H1;go_wp2_with fail;refine (hse.out _ ((HM.out.1.below HK.out.2.2.1).mono HK.out.2.2.1.size) ((HL.out.below HK.out.2.2.1).mono HK.out.2.2.1.size)).mono ?_;rintro e w2 (⟨h0,_⟩ | ⟨_,bm,rfl,hS,hsz,hb2⟩)
 ·exact absurd h0 (by rw [HV.out.2];simp)
 obtain⟨k1,k2,B1,H1⟩:=HK.out;have k1:=Boxed.below k1 hb2 (by omega)
 have k2:=Boxed.below k2 hb2 (by omega)
 have H2:=H1.below hb2 H1.lt;have B2:=B1.trans (hb2.mono B1.size);have z2:w.heap.size+3<=w2.heap.size:=Nat.le_trans z1 hb2.size;clear c0 c1 c2 c3 c4 c5 c6 c7 c8 c9 c10 HK;obtain⟨c0,c1,c2,c3,c4,c5,c6,c7,c8,c9,c10⟩:=Zg (m:=m) (vw:=qS a1 m.ways.length (m.ways.length+cap1)) (vh:=qS a2 m.home.length (m.home.length+cap2)) (vr:=qS a3 m.rocks.length (m.rocks.length+cap3)) H2;have HK:=qH (qI k1 (qI k2 (qI B2 hS)));clear hb2 k1 k2 B1 B2 H1 H2 hS hsz;go_wp2_with (go_at_call 92;refine (hwy.out _ _).mono ?_;rintro e w3 ⟨rfl,rfl⟩);generalize hW0:qV (qV w2 _) _=W0;have hz0:W0.heap.size=w2.heap.size+2:=by rw [<- hW0];simp
 have hB0:Below w2.heap.size w2 W0:=by rw [<- hW0];exact ((qK _ w2).alloc (qN _) _).alloc (by first | omega | (simp;done) | (simp;omega)) _
 obtain⟨k1,k2,B2,hS⟩:=HK.out;have bT:=Boxed.below k1 hB0 (by omega)
 have bE:=Boxed.below k2 hB0 (by omega)
 have hBw:Below w.heap.size w W0:=B2.trans (hB0.mono (by omega))
 have bM:Has W0 w2.heap.size #[qS a1 m.ways.length (m.ways.length+cap1),qS a2 m.home.length (m.home.length+cap2),O qL m.start,qS a3 m.rocks.length (m.rocks.length+cap3),O qL m.speed,O qL m.part,O qL m.flow,O qL m.idle,O qL m.drive,O qL m.battery,O qL m.deadline] 26:=by
  rw [<- hW0];exact (Has.new w2 _ _).below ((qK (w2.heap.size+1) _).alloc (by simp) _) (by omega)
 have bS:Boxed W0 (w2.heap.size+1) 148 (.map (some bm)):=by
  rw [<- hW0];have:=Boxed.new (w2.alloc (qC #[qS a1 m.ways.length (m.ways.length+cap1),qS a2 m.home.length (m.home.length+cap2),O qL m.start,qS a3 m.rocks.length (m.rocks.length+cap3),O qL m.speed,O qL m.part,O qL m.flow,O qL m.idle,O qL m.drive,O qL m.battery,O qL m.deadline] 26)) 148 (.map (some bm))
  rwa [World.size_alloc] at this
 have hset:SetAt W0 bm l:=hS.block (hB0.block bm hS.lt);have hlt:=hset.lt;have hmW:MsnAt w.heap.size W0 m _ _ _:=HM.out.below hBw;have hbm:bm<w2.heap.size:=hS.lt;have hsb:bm≠w.heap.size+1/\bm≠w.heap.size+1+1:=by
  obtain⟨_,_,⟨es,clock,h0,_⟩,_⟩:=hS;exact⟨fun e=>(by rw [e,show w2.heap[w.heap.size+1]?=_ from k1] at h0;cases h0),fun e=>(by rw [e,show w2.heap[w.heap.size+1+1]?=_ from k2] at h0;cases h0)⟩
 clear hW0 c0 c1 c2 c3 c4 c5 c6 c7 c8 c9 c10 k1 k2 B2 hS HK;refine (wpIn_wide (n:=9)).1 ?_;refine Z2h (by omega) (gf:=148) (lb:=#[qP (some ⟨w2.heap.size,0,none⟩),qP (some ⟨w2.heap.size+1,0,none⟩)]) rfl (enters_of Tryz.func148 (by kernel_rfl) rfl)
  (Z97 8 (by omega) (fun B b=>(b<w2.heap.size+2/\b≠w.heap.size+1/\b≠w.heap.size+1+1)\/b=B) m _ _ _ l w2.heap.size (w2.heap.size+1) bm w.heap.size W0 HV.out.1 hmW hBw.size hset bM bS (fun _=>.inr rfl) (fun _=>.inl ⟨by omega,by omega,by omega⟩) (fun _=>.inl ⟨by omega,by omega,by omega⟩) (fun _=>.inl ⟨by omega,hsb.1,hsb.2⟩) (fun _ b hb=>.inl ⟨by omega,by omega,by omega⟩))
  (fun h k=>KeepsP.trans h k) ?hKb (qK _ _) (fun _=>rfl)
  (fun pre W=>(∃ v1 v2,Boxed W (w.heap.size+1) 29 v1/\Boxed W (w.heap.size+1+1) 29 v2/\W.ownsRow (w2.heap.size+5) 3 1 v1 pre.length (pre.map (bL m l))/\W.ownsRow (w2.heap.size+5) 3 1 v2 pre.length (pre.map (aL m l))/\(v1.ownBlock=none\/v1.ownBlock≠v2.ownBlock))/\Below w.heap.size w W)
  (fun _ _ _=>False) ?hI (fun _=>OwnM.pure (fun _=>False)) ⟨⟨_,_,bT,bE,World.ownsRow_nil _ _ _ _,World.ownsRow_nil _ _ _ _,.inl rfl⟩,hBw⟩
  (fun x a' W=>∃ Bc,a'={ tmps:=#[.agg #[qS a1 m.ways.length (m.ways.length+cap1),qS a2 m.home.length (m.home.length+cap2),O qL m.start,qS a3 m.rocks.length (m.rocks.length+cap3),O qL m.speed,O qL m.part,O qL m.flow,O qL m.idle,O qL m.drive,O qL m.battery,O qL m.deadline],qS al l.length (l.length+capl),qP (some ⟨w.heap.size,0,none⟩),undef,qP (some ⟨w.heap.size+1,0,none⟩),qP (some ⟨w.heap.size+1+1,0,none⟩),O qL 0,.map (some bm),.bool true,qP (some ⟨Bc,0,none⟩),.agg #[qS a1 m.ways.length (m.ways.length+cap1),qS a2 m.home.length (m.home.length+cap2),O qL m.start,qS a3 m.rocks.length (m.rocks.length+cap3),O qL m.speed,O qL m.part,O qL m.flow,O qL m.idle,O qL m.drive,O qL m.battery,O qL m.deadline],.bool true,.bool false,qT #[.map (some bm),.bool true],.agg #[qS a1 m.ways.length (m.ways.length+cap1),qS a2 m.home.length (m.home.length+cap2),O qL m.start,qS a3 m.rocks.length (m.rocks.length+cap3),O qL m.speed,O qL m.part,O qL m.flow,O qL m.idle,O qL m.drive,O qL m.battery,O qL m.deadline],qS al l.length (l.length+capl),qT #[.map (some bm),.bool true],.map (some bm),.bool true,.bool true,.bool false,.agg #[qS a1 m.ways.length (m.ways.length+cap1),qS a2 m.home.length (m.home.length+cap2),O qL m.start,qS a3 m.rocks.length (m.rocks.length+cap3),O qL m.speed,O qL m.part,O qL m.flow,O qL m.idle,O qL m.drive,O qL m.battery,O qL m.deadline],.map (some bm),.func (.func 148) #[] #[qP (some ⟨w2.heap.size,0,none⟩),qP (some ⟨w2.heap.size+1,0,none⟩)],.agg #[O qL (rdB m l x),O qL (rdA m l x)],undef,undef,undef,undef,undef,undef,undef,undef,undef,undef,undef,undef],defers:=[] }/\W.heap[Bc]?=some (qC #[bL m l x,aL m l x] 155 (0,0))/\w2.heap.size+5<=Bc)
  ?hAx ?assign ?body ?done ?stop
 case hKb=>exact fun W o o' _ _=>⟨by simp,fun b hb=>World.putObj_heap_other (by rcases hb with⟨h,_⟩ | h <;> omega)⟩
 case hI =>
  refine OwnM.and ?_ (OwnM.below w (qN _) (by omega) (fun r hr=>by omega))
  rintro s X Y row ⟨v1,v2,h1,h2,r1,r2,hne⟩ hg hrow;have off:∀ {b:Nat} {t:TypeId} {v:Value},Boxed X b t v->b<W0.heap.size->some b≠row:=fun {b t v} hb hlt e'=>by
   obtain⟨o,ho,hc⟩:=hrow _ e'.symm;rcases hc with⟨_,hc⟩ | ⟨hc,_⟩
   ·omega
   ·rw [show X.heap[b]?=_ from hb] at ho;cases ho;cases hc
  have offr:∀ {v:Value} {n:Nat} {xs:List Value},X.ownsRow (w2.heap.size+5) 3 1 v n xs->v.ownBlock=none\/v.ownBlock≠row:=fun {v n xs} hr=>by
   rcases hr.2 with⟨rfl,_⟩ | ⟨g,cap,cur,rfl,hbg,hgb,_⟩
   ·exact .inl rfl
   ·refine .inr fun e'=>?_
    obtain⟨o,ho,hc⟩:=hrow g (by simpa [Value.ownBlock] using e'.symm)
    rcases hc with⟨_,hc⟩ | ⟨hc,_⟩
    ·omega
    ·rw [hgb] at ho;cases ho;cases hc
  exact⟨v1,v2,h1.kept hg (off h1 (by omega)),h2.kept hg (off h2 (by omega)),r1.kept hg (offr r1),r2.kept hg (offr r2),hne⟩
 case hAx =>
  rintro x a' s X Y row ⟨Bc,rfl,hc,hBc⟩ hg hrow;refine⟨Bc,rfl,(hg.block Bc (Array.getElem?_eq_some_iff.1 hc).1 fun e'=>?_).trans hc,hBc⟩
  obtain⟨o,ho,h⟩:=hrow _ e'.symm;rcases h with⟨_,h⟩ | ⟨h,_⟩
  ·omega
  ·rw [hc] at ho;cases ho;cases h
 case assign =>
  rintro ll pre x W K hi hsz hK;have hc0:=Has.new W #[bL m l x,aL m l x] 155;obtain⟨⟨v1,v2,h1,h2,r1,r2,hne⟩,hB⟩:=hi;have hI:=qH (qI (⟨v1,v2,h1.alloc (qC #[bL m l x,aL m l x] 155),h2.alloc _,r1.alloc _,r2.alloc _,hne⟩:∃ v1 v2,Boxed (W.alloc (qC #[bL m l x,aL m l x] 155)) (w.heap.size+1) 29 v1/\Boxed (W.alloc (qC #[bL m l x,aL m l x] 155)) (w.heap.size+1+1) 29 v2/\(W.alloc (qC #[bL m l x,aL m l x] 155)).ownsRow (w2.heap.size+5) 3 1 v1 pre.length (pre.map (bL m l))/\(W.alloc (qC #[bL m l x,aL m l x] 155)).ownsRow (w2.heap.size+5) 3 1 v2 pre.length (pre.map (aL m l))/\(v1.ownBlock=none\/v1.ownBlock≠v2.ownBlock)) (hB.trans (((qK w.heap.size W).alloc hB.size (qC #[bL m l x,aL m l x] 155)))));have HC:=qH hc0;clear h1 h2 r1 r2 hne hB hc0;unfold encR;gi_wp2;exact hK _ _ ((KeepsOthers.alloc W _).from _) ⟨by simp,fun b hb=>Below.heap_alloc _ _ _ (by rcases hb with⟨h,_⟩ | h <;> omega)⟩ hI.out ⟨_,rfl,HC.out,by omega⟩
 case body =>
  rintro ll pre x a' W hll ⟨r,hr⟩ ⟨⟨v1,v2,h1,h2,r1,r2,hne⟩,hB⟩ ⟨Bc,rfl,hc,hBc⟩ hlt hsz;have hn:pre.length<=100:=by omega
  have hTW:=(Two.refl r1 r2 hne).grow (X':=W.drew) ⟨rfl,rfl,rfl,qN _,fun _ _ _=>rfl⟩
  have hclt:=(Array.getElem?_eq_some_iff.1 hc).1;have hcr:∀ {v:Value} {n:Nat} {xs:List Value},W.ownsRow (w2.heap.size+5) 3 1 v n xs->some Bc≠v.ownBlock:=fun {v n xs} hr e'=>by
   rcases hr.2 with⟨rfl,_⟩ | ⟨g,cap,cur,rfl,_,hg,_⟩
   ·simp [Value.ownBlock] at e'
   ·obtain rfl:Bc=g:=by simpa [Value.ownBlock] using e'
    rw [hc] at hg;cases hg
  have hc1:=hcr r1;have hc2:=hcr r2;simp only [bL,aL] at hc;have SS:Hid (∀ (X:World) (u1 u2:Value) (n1 n2:Nat) (l1 l2:List Value),Two (w2.heap.size+5) 3 W X v1 v2 u1 u2 n1 n2 l1 l2->Boxed X (w.heap.size+1) 29 v1/\Boxed X (w.heap.size+1+1) 29 v2/\X.heap[Bc]?=some (qC #[O qL (rdB m l x),O qL (rdA m l x)] 155 (0,0))):=fun X u1 u2 n1 n2 l1 l2 h =>
   ⟨(h.keep _ (by omega) (Zw r1 (by omega)) (Zw r2 (by omega))).trans h1,(h.keep _ (by omega) (Zw r1 (by omega)) (Zw r2 (by omega))).trans h2,(h.keep _ hclt hc1 hc2).trans hc⟩
  have HR:=qH (qI r1 (qI r2 (qI h1 (qI h2 hB))));have hbase:w2.heap.size+5<=W.heap.size:=by omega
  have HT:=qH hTW;obtain⟨i0,hi,hz0',hz1',hz2'⟩:=info_parts intInfo;clear r1 r2 h1 h2 hB hne hTW hc hcr hc1 hc2 hr;gi_wp2;refine Zi (ZP _ _) 10 (fun X=>Boxed X (w.heap.size+1) 29 v1/\Boxed X (w.heap.size+1+1) 29 v2/\X.heap[Bc]?=some (qC #[O qL (rdB m l x),O qL (rdA m l x)] 155 (0,0))) (by kernel_rfl) (by kernel_rfl) (by kernel_rfl) fun hH inv0=>?_
  refine sk hH (i:=0) (v:=v1) (Zd rfl) inv0 (fun X hX=>?_) fun inv1=>?_
  ·have hx:=hX.1.cell;go_simp
  simp only [qJ,zq4,zr4,zs4];refine sk hH (i:=1) (v:=qP (some ⟨Bc,0,none⟩)) (Zd rfl) inv1 (fun X hX=>?_) fun inv2=>?_
  ·go_simp
  simp only [qJ,zq4,zr4,zs4];refine sk hH (i:=2) (v:=O qL (rdB m l x)) (Zd rfl) inv2 (fun X hX=>?_) fun inv3=>?_
  ·have hx:=Zl hX.2.2 (i:=0) rfl;go_simp
  simp only [qJ,zq4,zr4,zs4];refine sk hH (i:=5) (v:=v2) (Zd rfl) inv3 (fun X hX=>?_) fun inv4=>?_
  ·have hx:=hX.2.1.cell;go_simp
  simp only [qJ,zq4,zr4,zs4];refine sk hH (i:=6) (v:=qP (some ⟨Bc,1,none⟩)) (Zd rfl) inv4 (fun X hX=>?_) fun inv5=>?_
  ·go_simp
  simp only [qJ,zq4,zr4,zs4];refine sk hH (i:=7) (v:=O qL (rdA m l x)) (Zd rfl) inv5 (fun X hX=>?_) fun inv6=>?_
  ·have hx:=Zl hX.2.2 (i:=1) rfl;go_simp
  simp only [qJ,zq4,zr4,zs4];clear inv0 inv1 inv2 inv3 inv4 inv5 inv6 hH;generalize hTx:rdB m l x=T at *;generalize hEx:rdA m l x=E at *;generalize W.drew=X0 at *;have hT:=HT.out;clear HT;refine ZB (rs:=[3,8]) (by kernel_rfl) (by simp) (SS.out _ _ _ _ _ _ _ hT) (by simp) (fun i hi'=>?_)
  simp only [List.mem_cons,List.not_mem_nil,or_false] at hi';rcases hi' with rfl | rfl
  ·refine ZE (Zd rfl) rfl (v:=qS (some ⟨X0.heap.size,0,none⟩) 1 1) (w':=X0.alloc (qC #[O qL T] 3)) (by go_simp) ?_
   simp only [qJ,zq4,zr4,zs4];have b3:=Boxed.new X0 3 (O qL T);have zs3:W.heap.size<=X0.heap.size:=hT.size;replace hT:=hT.alloc (qC #[O qL T] 3);generalize X0.alloc (qC #[O qL T] 3)=X1 at *;generalize X0.heap.size=s3 at *;refine ZB (rs:=[4,8]) (by kernel_rfl) (by simp) (SS.out _ _ _ _ _ _ _ hT) (by simp) (fun i hi'=>?_)
   simp only [List.mem_cons,List.not_mem_nil,or_false] at hi';rcases hi' with rfl | rfl
   ·refine Zz (Zd rfl) rfl (.tmp 25) (.tmp 28) 29 rfl (w2.heap.size+5) 3 i0 (.int .i64 0) 1 8 Tryz.underlying29 hi hz0' hz1' hz2' rfl (by decide) _ _ _ rfl hT.r1 ⟨s3,0,none⟩ 1 1 [.int .i64 T] rfl rfl (ZI b3) (by simp [Value.oneCell']) (by unfold maxLen;omega) (by omega) (Nat.le_trans hbase hT.size) ?_
    intro u1 X2 hr1 hg1 ho1;simp only [qJ,zq4,zr4,zs4];replace hT:=hT.app1 hg1 hr1 ho1;obtain⟨g1,cp1,rfl⟩:=ownsRow_succ hr1;clear hg1 hr1 ho1 b3;refine ZB (rs:=[8]) (by kernel_rfl) (by simp) (SS.out _ _ _ _ _ _ _ hT) (by simp) (fun i hi'=>?_)
    simp only [List.mem_cons,List.not_mem_nil,or_false] at hi';subst hi';refine ZE (Zd rfl) rfl (v:=qS (some ⟨X2.heap.size,0,none⟩) 1 1) (w':=X2.alloc (qC #[O qL E] 3)) (by go_simp) ?_
    simp only [qJ,zq4,zr4,zs4];have b8:=Boxed.new X2 3 (O qL E);have zs8:W.heap.size<=X2.heap.size:=hT.size;replace hT:=hT.alloc (qC #[O qL E] 3);generalize X2.alloc (qC #[O qL E] 3)=X3 at *;generalize X2.heap.size=s8 at *;refine ZB (rs:=[9]) (by kernel_rfl) (by simp) (SS.out _ _ _ _ _ _ _ hT) (by simp) (fun i hi'=>?_)
    simp only [List.mem_cons,List.not_mem_nil,or_false] at hi';subst hi';refine Zz (Zd rfl) rfl (.tmp 30) (.tmp 33) 29 rfl (w2.heap.size+5) 3 i0 (.int .i64 0) 1 8 Tryz.underlying29 hi hz0' hz1' hz2' rfl (by decide) _ _ _ rfl hT.r2 ⟨s8,0,none⟩ 1 1 [.int .i64 E] rfl rfl (ZI b8) (by simp [Value.oneCell']) (by unfold maxLen;omega) (by omega) (Nat.le_trans hbase hT.size) ?_
    intro u2 X4 hr2 hg2 ho2;simp only [qJ,zq4,zr4,zs4];replace hT:=hT.app2 hg2 hr2 ho2;obtain⟨g2,cp2,rfl⟩:=ownsRow_succ hr2;clear hg2 hr2 ho2 b8;refine Zm (by kernel_rfl) (SS.out _ _ _ _ _ _ _ hT) ?_
    simp only [List.drop_succ_cons,List.drop_zero];obtain⟨r1,r2,h1,h2,hB⟩:=HR.out;obtain⟨_,⟨q3,q4⟩,⟨q5,q6⟩,q7,q8,q9⟩:=hT.store (t:=29) r1 r2 h1 h2 (by omega) (by omega) (by omega)
    obtain⟨p1,p2,_⟩:=SS.out _ _ _ _ _ _ _ hT;have x1:=p1.cell;have y1:=p1.frozen;have x2:=p2.cell;have y2:=p2.frozen;have HQ:=qH (qI q3 (qI q4 (qI q5 (qI q6 (qI q7 (qI q8 (qI q9 (qI hT.ne (qI r1 (qI r2 hB))))))))));clear q3 q4 q5 q6 q7 q8 q9 r1 r2 h1 h2 hB p1 p2 hT;gi_wp2;obtain⟨q3,q4,q5,q6,q7,q8,q9,hne,r1,r2,hB⟩:=HQ.out;refine⟨q7.from _,⟨q9.1,fun b hb=>?_⟩,⟨_,_,q3,q4,?_,?_,hne⟩,hB.trans (q8 _ (by omega) (by omega) (by omega))⟩
    ·rcases hb with⟨b1,b2,b3⟩ | b1
     ·exact q9.2 b (by omega) b2 b3 (Zw r1 (by omega)) (Zw r2 (by omega))
     ·exact q9.2 b (by omega) (by omega) (by omega) (Zw r1 (by omega)) (Zw r2 (by omega))
    ·rw [show (pre++[x]).length=pre.length+1 by simp,show (pre++[x]).map (bL m l)=pre.map (bL m l)++[O qL T] by rw [<- hTx];simp [bL]]
     exact q5
    ·rw [show (pre++[x]).length=pre.length+1 by simp,show (pre++[x]).map (aL m l)=pre.map (aL m l)++[O qL E] by rw [<- hEx];simp [aL]]
     exact q6
   ·refine ZE (Zd rfl) rfl (v:=qS (some ⟨X1.heap.size,0,none⟩) 1 1) (w':=X1.alloc (qC #[O qL E] 3)) (by go_simp) ?_
    simp only [qJ,zq4,zr4,zs4];have b8:=Boxed.new X1 3 (O qL E);have zs8:W.heap.size<=X1.heap.size:=hT.size;have b3:=b3.alloc (qC #[O qL E] 3);replace hT:=hT.alloc (qC #[O qL E] 3);generalize X1.alloc (qC #[O qL E] 3)=X2 at *;generalize X1.heap.size=s8 at *;refine ZB (rs:=[4]) (by kernel_rfl) (by simp) (SS.out _ _ _ _ _ _ _ hT) (by simp) (fun i hi'=>?_)
    simp only [List.mem_cons,List.not_mem_nil,or_false] at hi';subst hi';refine Zz (Zd rfl) rfl (.tmp 25) (.tmp 28) 29 rfl (w2.heap.size+5) 3 i0 (.int .i64 0) 1 8 Tryz.underlying29 hi hz0' hz1' hz2' rfl (by decide) _ _ _ rfl hT.r1 ⟨s3,0,none⟩ 1 1 [.int .i64 T] rfl rfl (ZI b3) (by simp [Value.oneCell']) (by unfold maxLen;omega) (by omega) (Nat.le_trans hbase hT.size) ?_
    intro u1 X3 hr1 hg1 ho1;simp only [qJ,zq4,zr4,zs4];have b8:=b8.kept hg1 (fun e'=>by have:=(HR.out.1.lt _ e'.symm).2;omega)
    replace hT:=hT.app1 hg1 hr1 ho1;obtain⟨g1,cp1,rfl⟩:=ownsRow_succ hr1;clear hg1 hr1 ho1 b3;refine ZB (rs:=[9]) (by kernel_rfl) (by simp) (SS.out _ _ _ _ _ _ _ hT) (by simp) (fun i hi'=>?_)
    simp only [List.mem_cons,List.not_mem_nil,or_false] at hi';subst hi';refine Zz (Zd rfl) rfl (.tmp 30) (.tmp 33) 29 rfl (w2.heap.size+5) 3 i0 (.int .i64 0) 1 8 Tryz.underlying29 hi hz0' hz1' hz2' rfl (by decide) _ _ _ rfl hT.r2 ⟨s8,0,none⟩ 1 1 [.int .i64 E] rfl rfl (ZI b8) (by simp [Value.oneCell']) (by unfold maxLen;omega) (by omega) (Nat.le_trans hbase hT.size) ?_
    intro u2 X4 hr2 hg2 ho2;simp only [qJ,zq4,zr4,zs4];replace hT:=hT.app2 hg2 hr2 ho2;obtain⟨g2,cp2,rfl⟩:=ownsRow_succ hr2;clear hg2 hr2 ho2 b8;refine Zm (by kernel_rfl) (SS.out _ _ _ _ _ _ _ hT) ?_
    simp only [List.drop_succ_cons,List.drop_zero];obtain⟨r1,r2,h1,h2,hB⟩:=HR.out;obtain⟨_,⟨q3,q4⟩,⟨q5,q6⟩,q7,q8,q9⟩:=hT.store (t:=29) r1 r2 h1 h2 (by omega) (by omega) (by omega)
    obtain⟨p1,p2,_⟩:=SS.out _ _ _ _ _ _ _ hT;have x1:=p1.cell;have y1:=p1.frozen;have x2:=p2.cell;have y2:=p2.frozen;have HQ:=qH (qI q3 (qI q4 (qI q5 (qI q6 (qI q7 (qI q8 (qI q9 (qI hT.ne (qI r1 (qI r2 hB))))))))));clear q3 q4 q5 q6 q7 q8 q9 r1 r2 h1 h2 hB p1 p2 hT;gi_wp2;obtain⟨q3,q4,q5,q6,q7,q8,q9,hne,r1,r2,hB⟩:=HQ.out;refine⟨q7.from _,⟨q9.1,fun b hb=>?_⟩,⟨_,_,q3,q4,?_,?_,hne⟩,hB.trans (q8 _ (by omega) (by omega) (by omega))⟩
    ·rcases hb with⟨b1,b2,b3⟩ | b1
     ·exact q9.2 b (by omega) b2 b3 (Zw r1 (by omega)) (Zw r2 (by omega))
     ·exact q9.2 b (by omega) (by omega) (by omega) (Zw r1 (by omega)) (Zw r2 (by omega))
    ·rw [show (pre++[x]).length=pre.length+1 by simp,show (pre++[x]).map (bL m l)=pre.map (bL m l)++[O qL T] by rw [<- hTx];simp [bL]]
     exact q5
    ·rw [show (pre++[x]).length=pre.length+1 by simp,show (pre++[x]).map (aL m l)=pre.map (aL m l)++[O qL E] by rw [<- hEx];simp [aL]]
     exact q6
  ·refine ZE (Zd rfl) rfl (v:=qS (some ⟨X0.heap.size,0,none⟩) 1 1) (w':=X0.alloc (qC #[O qL E] 3)) (by go_simp) ?_
   simp only [qJ,zq4,zr4,zs4];have b8:=Boxed.new X0 3 (O qL E);have zs8:W.heap.size<=X0.heap.size:=hT.size;replace hT:=hT.alloc (qC #[O qL E] 3);generalize X0.alloc (qC #[O qL E] 3)=X1 at *;generalize X0.heap.size=s8 at *;refine ZB (rs:=[3]) (by kernel_rfl) (by simp) (SS.out _ _ _ _ _ _ _ hT) (by simp) (fun i hi'=>?_)
   simp only [List.mem_cons,List.not_mem_nil,or_false] at hi';subst hi';refine ZE (Zd rfl) rfl (v:=qS (some ⟨X1.heap.size,0,none⟩) 1 1) (w':=X1.alloc (qC #[O qL T] 3)) (by go_simp) ?_
   simp only [qJ,zq4,zr4,zs4];have b3:=Boxed.new X1 3 (O qL T);have zs3:W.heap.size<=X1.heap.size:=hT.size;have b8:=b8.alloc (qC #[O qL T] 3);replace hT:=hT.alloc (qC #[O qL T] 3);generalize X1.alloc (qC #[O qL T] 3)=X2 at *;generalize X1.heap.size=s3 at *;refine ZB (rs:=[4]) (by kernel_rfl) (by simp) (SS.out _ _ _ _ _ _ _ hT) (by simp) (fun i hi'=>?_)
   simp only [List.mem_cons,List.not_mem_nil,or_false] at hi';subst hi';refine Zz (Zd rfl) rfl (.tmp 25) (.tmp 28) 29 rfl (w2.heap.size+5) 3 i0 (.int .i64 0) 1 8 Tryz.underlying29 hi hz0' hz1' hz2' rfl (by decide) _ _ _ rfl hT.r1 ⟨s3,0,none⟩ 1 1 [.int .i64 T] rfl rfl (ZI b3) (by simp [Value.oneCell']) (by unfold maxLen;omega) (by omega) (Nat.le_trans hbase hT.size) ?_
   intro u1 X3 hr1 hg1 ho1;simp only [qJ,zq4,zr4,zs4];have b8:=b8.kept hg1 (fun e'=>by have:=(HR.out.1.lt _ e'.symm).2;omega)
   replace hT:=hT.app1 hg1 hr1 ho1;obtain⟨g1,cp1,rfl⟩:=ownsRow_succ hr1;clear hg1 hr1 ho1 b3;refine ZB (rs:=[9]) (by kernel_rfl) (by simp) (SS.out _ _ _ _ _ _ _ hT) (by simp) (fun i hi'=>?_)
   simp only [List.mem_cons,List.not_mem_nil,or_false] at hi';subst hi';refine Zz (Zd rfl) rfl (.tmp 30) (.tmp 33) 29 rfl (w2.heap.size+5) 3 i0 (.int .i64 0) 1 8 Tryz.underlying29 hi hz0' hz1' hz2' rfl (by decide) _ _ _ rfl hT.r2 ⟨s8,0,none⟩ 1 1 [.int .i64 E] rfl rfl (ZI b8) (by simp [Value.oneCell']) (by unfold maxLen;omega) (by omega) (Nat.le_trans hbase hT.size) ?_
   intro u2 X4 hr2 hg2 ho2;simp only [qJ,zq4,zr4,zs4];replace hT:=hT.app2 hg2 hr2 ho2;obtain⟨g2,cp2,rfl⟩:=ownsRow_succ hr2;clear hg2 hr2 ho2 b8;refine Zm (by kernel_rfl) (SS.out _ _ _ _ _ _ _ hT) ?_
   simp only [List.drop_succ_cons,List.drop_zero];obtain⟨r1,r2,h1,h2,hB⟩:=HR.out;obtain⟨_,⟨q3,q4⟩,⟨q5,q6⟩,q7,q8,q9⟩:=hT.store (t:=29) r1 r2 h1 h2 (by omega) (by omega) (by omega)
   obtain⟨p1,p2,_⟩:=SS.out _ _ _ _ _ _ _ hT;have x1:=p1.cell;have y1:=p1.frozen;have x2:=p2.cell;have y2:=p2.frozen;have HQ:=qH (qI q3 (qI q4 (qI q5 (qI q6 (qI q7 (qI q8 (qI q9 (qI hT.ne (qI r1 (qI r2 hB))))))))));clear q3 q4 q5 q6 q7 q8 q9 r1 r2 h1 h2 hB p1 p2 hT;gi_wp2;obtain⟨q3,q4,q5,q6,q7,q8,q9,hne,r1,r2,hB⟩:=HQ.out;refine⟨q7.from _,⟨q9.1,fun b hb=>?_⟩,⟨_,_,q3,q4,?_,?_,hne⟩,hB.trans (q8 _ (by omega) (by omega) (by omega))⟩
   ·rcases hb with⟨b1,b2,b3⟩ | b1
    ·exact q9.2 b (by omega) b2 b3 (Zw r1 (by omega)) (Zw r2 (by omega))
    ·exact q9.2 b (by omega) (by omega) (by omega) (Zw r1 (by omega)) (Zw r2 (by omega))
   ·rw [show (pre++[x]).length=pre.length+1 by simp,show (pre++[x]).map (bL m l)=pre.map (bL m l)++[O qL T] by rw [<- hTx];simp [bL]]
    exact q5
   ·rw [show (pre++[x]).length=pre.length+1 by simp,show (pre++[x]).map (aL m l)=pre.map (aL m l)++[O qL E] by rw [<- hEx];simp [aL]]
    exact q6
 case done =>
  rintro D ys W hD rfl ⟨⟨v1,v2,h1,h2,r1,r2,hne⟩,hB⟩ hK;have e1:(upto id m.ways.length).length=m.ways.length:=Zq _ _;have e2:(upto id m.ways.length).map (bL m l)=(rdBU m l).map (O qL):=by simp [rdBU,upto,bL]
  have e3:(upto id m.ways.length).map (aL m l)=(rdAU m l).map (O qL):=by simp [rdAU,upto,aL]
  rw [e1,e2] at r1;rw [e1,e3] at r2;have g1:(rdBU m l).length<=70368744177663:=by simp [rdBU,upto];omega
  have g2:(rdAU m l).length<=70368744177663:=by simp [rdAU,upto];omega
  obtain⟨_,av1,cv1,hv1,_⟩:=Z8.own r1 g1;obtain⟨_,av2,cv2,hv2,_⟩:=Z8.own r2 g2;subst hv1;subst hv2;have l1:=Low.fact h1.cell;have l2:=Low.fact h2.cell;have HQ:=qH (qI h1 (qI h2 (qI r1 (qI r2 (qI hne (qI hB (qI hK (qI g1 g2))))))));have hDb:=hBw.size;have hzW:=hB.size;clear h1 h2 r1 r2 hne hB hK e1 e2 e3 g1 g2;go_wp2;have hS:Hid (Boxed W (w.heap.size+1) 29 (qS av1 (rdBU m l).length ((rdBU m l).length+cv1))/\Boxed W (w.heap.size+1+1) 29 (qS av2 (rdAU m l).length ((rdAU m l).length+cv2))):=⟨HQ.out.1,HQ.out.2.1⟩;clear l1 l2;generalize hVa:Value.slice av1 (rdBU m l).length ((rdBU m l).length+cv1)=va1 at *;generalize hVb:Value.slice av2 (rdAU m l).length ((rdAU m l).length+cv2)=va2 at *;refine (wpIn_wide (n:=9)).1 ?_;refine Zi (Zk _) 3 (fun X=>Boxed X (w.heap.size+1) 29 va1/\Boxed X (w.heap.size+1+1) 29 va2) (by kernel_rfl) (by kernel_rfl) (by kernel_rfl) fun hH inv0=>?_
  refine sk hH (i:=0) (v:=va1) (Zd rfl) inv0 (fun X hX=>?_) fun inv1=>?_
  ·have hx:=hX.1.cell;go_simp
  simp only [qJ,zq4,zr4,zs4];refine sk hH (i:=1) (v:=va2) (Zd rfl) inv1 (fun X hX=>?_) fun inv2=>?_
  ·have hx:=hX.2.cell;go_simp
  simp only [qJ,zq4,zr4,zs4];clear inv0 inv1 inv2 hH;have hSw:Boxed W.drew (w.heap.size+1) 29 va1/\Boxed W.drew (w.heap.size+1+1) 29 va2:=hS.out;have hg2:W.grownBy W.drew none:=⟨rfl,rfl,rfl,qN _,fun _ _ _=>rfl⟩
  have hwd:Hid (Below W.heap.size W W.drew):=⟨rfl,rfl,rfl,qN _,fun _ _=>rfl⟩
  generalize W.drew=w5 at *;refine sa1 (r:=2) hSw ?_;have x1:=hSw.1.cell;have y1:=hSw.1.frozen;subst hVa;subst hVb;refine ZY (Zd rfl) rfl (w':=w5.setCell ⟨w.heap.size+1,0,none⟩ (qS av1 (rdBU m l).length ((rdBU m l).length+cv1))) (by go_simp) ?_
  simp only [qJ,zq4,zr4,zs4];refine Zm (by kernel_rfl) ⟨hSw.1.set _,hSw.2.other (by omega) _⟩ ?_
  simp only [List.drop_succ_cons,List.drop_zero];obtain⟨h1,h2,r1,r2,hne,hB,hK,g1,g2⟩:=HQ.out;have h1:=h1.kept hg2 (by simp)
  have h2:=h2.kept hg2 (by simp)
  have r1:=r1.kept hg2 (by cases (Value.slice av1 (rdBU m l).length ((rdBU m l).length+cv1)).ownBlock <;> simp)
  have r2:=r2.kept hg2 (by cases (Value.slice av2 (rdAU m l).length ((rdAU m l).length+cv2)).ownBlock <;> simp)
  have hK2:w5.heap[D]?=some (.deferred (some [])):=(hwd.out.block D (Array.getElem?_eq_some_iff.1 hK).1).trans hK;have hB2:Below w.heap.size w w5:=hB.trans (hwd.out.mono hB.size);obtain⟨_,⟨q3,q4⟩,⟨q5,q6⟩,q7,q8,q9⟩:=(Two.refl r1 r2 hne).store (t:=29) r1 r2 h1 h2 (by omega) (by omega) (by omega)
  have x2:=h2.cell;have y2:=h2.frozen;have HX:=qH (qI q3 (qI q4 (qI q5 (qI q6 (qI (q7.same D _ hK2 rfl) (qI (hB2.trans (q8 w.heap.size (by omega) (by omega) (by omega))) (qI g1 g2)))))))
  clear h1 h2 r1 r2 hne hB hK g1 g2 hg2 hK2 hB2 q3 q4 q5 q6 q7 q8 q9 HQ hSw hS hwd;gi_wp2;generalize qU (qU w5 _ _) _ _=F at *;go_wp2;obtain⟨q3,q4,q5,q6,hK,hB,g1,g2⟩:=HX.out;have f1:=ownsRow_putObj q5 (.deferred none) hK rfl;have f2:=ownsRow_putObj q6 (.deferred none) hK rfl;have b1:=q3.kept (grownBy_putObj' F D (.deferred none)) (fun e=>by cases e;omega)
  have b2:=q4.kept (grownBy_putObj' F D (.deferred none)) (fun e=>by cases e;omega)
  have x1:=b1.cell;have x2:=b2.cell;have I1:=Z8.own f1 g1;have I2:=Z8.own f2 g2;have hBf:Below w.heap.size w (F.putObj D (.deferred none)):=hB.grown (grownBy_putObj' F D _) hB.size (fun j e=>by cases e;omega)
  refine⟨by simp,.inl ⟨_,_,rfl,run_takeDeferred hK,?_⟩⟩
  exact⟨qT #[_,_,O qL 0],by simp [results,Tryz.f40,go_sem,x1,x2],_,_,rfl,I1,I2,hBf,fun b o n c e=>by have:=(f1.lt b (by rw [e];rfl)).1;omega,fun b o n c e=>by have:=(f2.lt b (by rw [e];rfl)).1;omega⟩
 case stop=>rintro D c pre W _ _ hf;exact hf.elim
theorem Z96 (m:Msn) (vw vh vr vl:Value) (l:List Int) (w:World) (hm:MsnAt w.heap.size w m vw vh vr) (hl:Z8 w.heap.size w vl l) (hV:validB m=true) (hst:stopsB m l=true) :
  Calls Tryz.prog 40 #[.agg (Zc m vw vh vr),vl] w (UsedQ (rdBU m l) (rdAU m l) 0 w) :=
 (Z1Y m vw vh vr vl l w hm hl hV hst).mono fun _ _ h=>h.used
theorem Z3g (m:Msn) (vw vh vr vl:Value) (l:List Int) (w:World) (hm:MsnAt w.heap.size w m vw vh vr) (hl:Z8 w.heap.size w vl l) :
  Calls Tryz.prog 40 #[.agg (Zc m vw vh vr),vl] w (UsedQ (rdBL m l) (rdAL m l) (rdE m l) w):=by
 cases h:radOkB m l
 ·simp only [rdBL,rdAL,rdE,h,Bool.false_eq_true,if_false]
  exact ZaR m vw vh vr vl l w hm hl h
 ·simp only [rdBL,rdAL,rdE,h,if_true]
  have h2:validB m=true/\stopsB m l=true:=by simpa [radOkB] using h
  exact Z96 m vw vh vr vl l w hm hl h2.1 h2.2
end
section
attribute [local irreducible] wpQuiet
open Go.RowKit
def tripCells (m:Msn) (vw vh vr vb va vt ve:Value):Array Value:=#[vw,vh,O qL m.start,vr,O qL m.speed,O qL m.part,O qL m.flow,O qL m.idle,O qL m.drive,O qL m.battery,O qL m.deadline,vb,va,vt,ve]
def trip0:Array Value:=#[qS none 0 0,qS none 0 0,O qL 0,qS none 0 0,O qL 0,O qL 0,O qL 0,O qL 0,O qL 0,O qL 0,O qL 0,qS none 0 0,qS none 0 0,qS none 0 0,qS none 0 0]
theorem set15 {X Z:World} {B:Nat} {cs:Array Value} {T:TypeId} {v0 v1 v2 v3 v4 v5 v6 v7 v8 v9 v10 v11 v12 v13 v14:Value} (H:Has X B cs T) (hs:cs.size=15) (hz:(((((((((((((((X.setCell ⟨B,0,none⟩ v0).setCell ⟨B,1,none⟩ v1).setCell ⟨B,2,none⟩ v2).setCell ⟨B,3,none⟩ v3).setCell ⟨B,4,none⟩ v4).setCell ⟨B,5,none⟩ v5).setCell ⟨B,6,none⟩ v6).setCell ⟨B,7,none⟩ v7).setCell ⟨B,8,none⟩ v8).setCell ⟨B,9,none⟩ v9).setCell ⟨B,10,none⟩ v10).setCell ⟨B,11,none⟩ v11).setCell ⟨B,12,none⟩ v12).setCell ⟨B,13,none⟩ v13).setCell ⟨B,14,none⟩ v14)=Z) :
  Has Z B #[v0,v1,v2,v3,v4,v5,v6,v7,v8,v9,v10,v11,v12,v13,v14] T/\(∀ n,n<=B->Below n X Z)/\Z.heap.size=X.heap.size/\∀ b,b≠B->Z.heap[b]?=X.heap[b]?:=by
 subst hz;obtain⟨l,rfl⟩:∃ l:List Value,cs=l.toArray:=⟨cs.toList,by simp⟩
 obtain⟨u0,u1,u2,u3,u4,u5,u6,u7,u8,u9,u10,u11,u12,u13,u14,rfl⟩:∃ u0 u1 u2 u3 u4 u5 u6 u7 u8 u9 u10 u11 u12 u13 u14,l=[u0,u1,u2,u3,u4,u5,u6,u7,u8,u9,u10,u11,u12,u13,u14]:=by
  match l,hs with
  | [u0,u1,u2,u3,u4,u5,u6,u7,u8,u9,u10,u11,u12,u13,u14],_=>exact⟨_,_,_,_,_,_,_,_,_,_,_,_,_,_,_,rfl⟩
 refine⟨?_,fun n hn=>?_,by simp,fun b hb=>?_⟩
 ·have:=(((((((((((((((H.set 0 v0).set 1 v1).set 2 v2).set 3 v3).set 4 v4).set 5 v5).set 6 v6).set 7 v7).set 8 v8).set 9 v9).set 10 v10).set 11 v11).set 12 v12).set 13 v13).set 14 v14)
  simpa only [zq4,zr4,zs4] using this
 ·exact ((((((((((((((((qK n X).setCell (p:=⟨B,0,none⟩) hn v0).setCell (p:=⟨B,1,none⟩) hn v1).setCell (p:=⟨B,2,none⟩) hn v2).setCell (p:=⟨B,3,none⟩) hn v3).setCell (p:=⟨B,4,none⟩) hn v4).setCell (p:=⟨B,5,none⟩) hn v5).setCell (p:=⟨B,6,none⟩) hn v6).setCell (p:=⟨B,7,none⟩) hn v7).setCell (p:=⟨B,8,none⟩) hn v8).setCell (p:=⟨B,9,none⟩) hn v9).setCell (p:=⟨B,10,none⟩) hn v10).setCell (p:=⟨B,11,none⟩) hn v11).setCell (p:=⟨B,12,none⟩) hn v12).setCell (p:=⟨B,13,none⟩) hn v13).setCell (p:=⟨B,14,none⟩) hn v14)
 ·iterate 15 (rw [Below.heap_setCell _ _ _ _ (by exact hb)])
theorem Z8.offB {W Z:World} {v:Value} {l:List Int} {base B:Nat} (h:Z8 W.heap.size W v l) (hn:NewI base v) (hB:B<base) (hz:Z.heap.size=W.heap.size) (hq:∀ b,b≠B->Z.heap[b]?=W.heap[b]?):Z8 Z.heap.size Z v l:=by
 obtain⟨hl,a,cap,e,hc⟩:=h;refine⟨hl,a,cap,e,hc.imp id ?_⟩;rintro ⟨b,o,e1,hb,hc⟩;have hb2:base<=b:=hn b o _ _ (by rw [e,e1])
 exact⟨b,o,e1,by omega,fun j hj=>by rw [World.cell?_of_block (hq b (by omega))];exact hc j hj⟩
theorem set2 {X Z:World} {B i j:Nat} {cs:Array Value} {T:TypeId} {u v:Value} (H:Has X B cs T) (hz:(X.setCell ⟨B,i,none⟩ u).setCell ⟨B,j,none⟩ v=Z) :
  Has Z B ((cs.setIfInBounds i u).setIfInBounds j v) T/\(∀ n,n<=B->Below n X Z)/\Z.heap.size=X.heap.size/\∀ b,b≠B->Z.heap[b]?=X.heap[b]?:=by
 subst hz;refine⟨(H.set i u).set j v,fun n hn=>((qK n X).setCell (p:=⟨B,i,none⟩) hn u).setCell (p:=⟨B,j,none⟩) hn v,by simp,fun b hb=>?_⟩
 rw [Below.heap_setCell _ _ _ _ (by exact hb),Below.heap_setCell _ _ _ _ (by exact hb)]
theorem Has.eq {X Z:World} {B:Nat} {cs:Array Value} {T:TypeId} (H:Has X B cs T) {C:Nat} (h:∀ b,b≠C->Z.heap[b]?=X.heap[b]?) (hne:B≠C):Has Z B cs T:=(h B hne).trans H
theorem Zc0 (m:Msn) (vw vh vr vl:Value) (l:List Int) (w:World) (hm:MsnAt w.heap.size w m vw vh vr) (hl:Z8 w.heap.size w vl l) (hok:radOkB m l=false) :
  Calls Tryz.prog 38 #[.agg (Zc m vw vh vr),vl] w fun e w'=>e=.returned (qT #[.agg trip0,O qL 1])/\Below w.heap.size w w':=by
 have f3:=fun w1 (B:Below w.heap.size w w1)=>Z3g m vw vh vr vl l w1 ((hm.below B).mono B.size) ((hl.below B).mono B.size)
 rw [show rdBL m l=[] by simp [rdBL,hok],show rdAL m l=[] by simp [rdAL,hok],show rdE m l=1 by simp [rdE,hok]] at f3
 obtain⟨⟨-,a1,cap1,rfl,-⟩,⟨-,a2,cap2,rfl,-⟩,⟨-,a3,cap3,rfl,-⟩⟩:=hm;obtain⟨-,al,capl,rfl,-⟩:=hl;unfold Zc at *;replace f3:=qH f3;clear hok;have BW:=qH (qK w.heap.size w);go_enter Tryz.func38,Tryz.ntmps38;go_wp2_with fail;generalize hXX0:qV (qV (qV w _) _) _=X0;obtain⟨q0,q1,q2,hA,hzX0⟩:=box3 hXX0;clear hXX0;have BW:=qH hA;clear hA;have MB:=qH q0;clear q0;have RV:=qH q1;clear q1;have TB:=qH q2;clear q2;obtain⟨c0,c1,c2,c3,c4,c5,c6,c7,c8,c9,c10⟩:=Zg (m:=m) MB.out;refine (f3.out _ BW.out).mono ?_;rintro e w1 ⟨v1,u1,rfl,p1,q1,b1⟩;replace BW:=zAf BW b1;have B_X0:=qH b1;clear b1;obtain⟨-,g1,k1,hv1,-⟩:=p1;subst hv1;obtain⟨-,g2,k2,hv2,-⟩:=q1;subst hv2;clear c0 c1 c2 c3 c4 c5 c6 c7 c8 c9 c10;have H2:=(zCl TB B_X0);have H1:=(zCl RV B_X0);have s11:=H2.cell (i:=11) rfl;have s12:=H2.cell (i:=12) rfl;have y11:=Ze H2 11;have y12:=Ze H2 12;have r0:=H1.cell (i:=0) rfl;have z0:=Ze H1 0;have r1:=H1.cell (i:=1) rfl;have z1:=Ze H1 1;have r2:=H1.cell (i:=2) rfl;have z2:=Ze H1 2;have r3:=H1.cell (i:=3) rfl;have z3:=Ze H1 3;have r4:=H1.cell (i:=4) rfl;have z4:=Ze H1 4;have r5:=H1.cell (i:=5) rfl;have z5:=Ze H1 5;have r6:=H1.cell (i:=6) rfl;have z6:=Ze H1 6;have r7:=H1.cell (i:=7) rfl;have z7:=Ze H1 7;have r8:=H1.cell (i:=8) rfl;have z8:=Ze H1 8;have r9:=H1.cell (i:=9) rfl;have z9:=Ze H1 9;have r10:=H1.cell (i:=10) rfl;have z10:=Ze H1 10;have r11:=H1.cell (i:=11) rfl;have z11:=Ze H1 11;have r12:=H1.cell (i:=12) rfl;have z12:=Ze H1 12;have r13:=H1.cell (i:=13) rfl;have z13:=Ze H1 13;have r14:=H1.cell (i:=14) rfl;have z14:=Ze H1 14;have HK:=qH (qI H1 H2);clear H1 H2;go_wp2;generalize hX:qU (qU w1 _ _) _ _=X at *;obtain⟨-,hl1,hs1,he1⟩:=set2 HK.out.2 hX;have H1:=HK.out.1.eq he1 (by omega)
 have BX:=BW.out.trans (hl1 _ (by omega))
 generalize hZ:qU (qU (qU (qU (qU (qU (qU (qU (qU (qU (qU (qU (qU (qU (qU X _ _) _ _) _ _) _ _) _ _) _ _) _ _) _ _) _ _) _ _) _ _) _ _) _ _) _ _) _ _=Z at *;obtain⟨HZ,hl2,hs2,he2⟩:=set15 H1 rfl hZ;have BZ:=BX.trans (hl2 _ (by omega))
 clear r0 z0 r1 z1 r2 z2 r3 z3 r4 z4 r5 z5 r6 z6 r7 z7 r8 z8 r9 z9 r10 z10 r11 z11 r12 z12 r13 z13 r14 z14 hX hZ;have r0:=HZ.cell (i:=0) rfl;have r1:=HZ.cell (i:=1) rfl;have r2:=HZ.cell (i:=2) rfl;have r3:=HZ.cell (i:=3) rfl;have r4:=HZ.cell (i:=4) rfl;have r5:=HZ.cell (i:=5) rfl;have r6:=HZ.cell (i:=6) rfl;have r7:=HZ.cell (i:=7) rfl;have r8:=HZ.cell (i:=8) rfl;have r9:=HZ.cell (i:=9) rfl;have r10:=HZ.cell (i:=10) rfl;have r11:=HZ.cell (i:=11) rfl;have r12:=HZ.cell (i:=12) rfl;have r13:=HZ.cell (i:=13) rfl;have r14:=HZ.cell (i:=14) rfl;refine bodyPost_ret (v:=qT #[.agg trip0,O qL 1]) (by simp [results,trip0,Tryz.f38,go_sem,r0,r1,r2,r3,r4,r5,r6,r7,r8,r9,r10,r11,r12,r13,r14]) rfl ⟨rfl,BZ⟩
theorem ZaJ (m:Msn) (vw vh vr vl:Value) (l:List Int) (w:World) (hm:MsnAt w.heap.size w m vw vh vr) (hl:Z8 w.heap.size w vl l) (hok:radOkB m l=true) :
  Calls Tryz.prog 38 #[.agg (Zc m vw vh vr),vl] w fun e w'=>∃ vb va vt ve,e=.returned (qT #[.agg (tripCells m vw vh vr vb va vt ve),O qL 0]) /\
   (Z8 w'.heap.size w' vb (rdBU m l)/\Z8 w'.heap.size w' va (rdAU m l)/\Z8 w'.heap.size w' vt (usedT m l)/\Z8 w'.heap.size w' ve (usedE m l))/\Below w.heap.size w w':=by
 have hvs:validB m=true/\stopsB m l=true:=by simpa [radOkB] using hok
 have f3:=fun w1 (B:Below w.heap.size w w1)=>Z1Y m vw vh vr vl l w1 ((hm.below B).mono B.size) ((hl.below B).mono B.size) hvs.1 hvs.2
 have f4:=fun w1 (B:Below w.heap.size w w1)=>Z75 m vw vh vr vl l w1 ((hm.below B).mono B.size) ((hl.below B).mono B.size) hvs.1 hvs.2
 obtain⟨⟨-,a1,cap1,rfl,-⟩,⟨-,a2,cap2,rfl,-⟩,⟨-,a3,cap3,rfl,-⟩⟩:=hm;obtain⟨-,al,capl,rfl,-⟩:=hl;unfold Zc at *;generalize rdAU m l=la at *;generalize rdBU m l=lb at *;generalize usedT m l=lt at *;generalize usedE m l=le at *;replace f3:=qH f3;replace f4:=qH f4;clear hok hvs;have BW:=qH (qK w.heap.size w);go_enter Tryz.func38,Tryz.ntmps38;go_wp2_with fail;generalize hXX0:qV (qV (qV w _) _) _=X0;obtain⟨q0,q1,q2,hA,hzX0⟩:=box3 hXX0;clear hXX0;have BW:=qH hA;clear hA;have MB:=qH q0;clear q0;have RV:=qH q1;clear q1;have TB:=qH q2;clear q2;obtain⟨c0,c1,c2,c3,c4,c5,c6,c7,c8,c9,c10⟩:=Zg (m:=m) MB.out;refine (f3.out _ BW.out).mono ?_;rintro e w1 ⟨v1,u1,rfl,p1,q1,b1,m1,n1⟩;replace BW:=zAf BW b1;have B_X0:=qH b1;clear b1;have BE:=qH (qI p1 m1);have AF:=qH (qI q1 n1);obtain⟨-,g1,k1,hv1,-⟩:=p1;subst hv1;obtain⟨-,g2,k2,hv2,-⟩:=q1;subst hv2;clear m1 n1 c0 c1 c2 c3 c4 c5 c6 c7 c8 c9 c10;have H2:=(zCl TB B_X0);have H1:=(zCl RV B_X0);have H0:=(zCl MB B_X0);have s11:=H2.cell (i:=11) rfl;have s12:=H2.cell (i:=12) rfl;have y11:=Ze H2 11;have y12:=Ze H2 12;obtain⟨c0,c1,c2,c3,c4,c5,c6,c7,c8,c9,c10⟩:=Zg (m:=m) H0;have HK:=qH (qI H0 (qI H1 H2));clear H0 H1 H2;go_wp2_with fail;clear c0 c1 c2 c3 c4 c5 c6 c7 c8 c9 c10 s11 s12 y11 y12;generalize hX:qU (qU w1 _ _) _ _=X at *;obtain⟨H2,hl1,hs1,he1⟩:=set2 HK.out.2.2 hX;clear hX;simp only [zq4,zr4,zs4] at H2;have H1:=HK.out.2.1.eq he1 (by omega)
 have BX:=qH (BW.out.trans (hl1 _ (by omega)))
 have I1:=qH (BE.out.1.offB BE.out.2 (by omega) hs1 he1)
 have I2:=qH (AF.out.1.offB AF.out.2 (by omega) hs1 he1)
 have HK2:=qH (qI H1 H2);have hzX:X.heap.size=w1.heap.size:=hs1;have hz1:=B_X0.out.size;clear HK H1 H2 hl1 hs1 he1;refine (f4.out _ BX.out).mono ?_;rintro e w2 ⟨v2,u2,rfl,p2,q2,b2,m2,n2⟩;have N1:=qH (qI BE.out.2 AF.out.2);clear BE AF;have B2:=zAf BX b2;replace I1:=qH ((I1.out.below b2).mono b2.size);replace I2:=qH ((I2.out.below b2).mono b2.size);have I3:=qH p2;have I4:=qH q2;have N2:=qH (qI m2 n2);obtain⟨-,g3,k3,hv3,-⟩:=p2;subst hv3;obtain⟨-,g4,k4,hv4,-⟩:=q2;subst hv4;have H1:=HK2.out.1.below b2 HK2.out.1.lt;have H2:=HK2.out.2.below b2 HK2.out.2.lt;have hz2:=b2.size;clear b2 HK2 m2 n2;have s13:=H2.cell (i:=13) rfl;have s14:=H2.cell (i:=14) rfl;have y13:=Ze H2 13;have y14:=Ze H2 14;have HK:=qH (qI H1 H2);clear H1 H2;go_upto_region 7 with fail
 generalize hY:qU (qU w2 _ _) _ _=Y at *;obtain⟨H2,hl1,hs1,he1⟩:=set2 HK.out.2 hY;clear hY s13 s14 y13 y14;simp only [zq4,zr4,zs4] at H2;have H1:=HK.out.1.eq he1 (by omega)
 have BY:=qH (B2.out.trans (hl1 _ (by omega)))
 replace I1:=qH (I1.out.offB N1.out.1 (by omega) hs1 he1)
 replace I2:=qH (I2.out.offB N1.out.2 (by omega) hs1 he1)
 replace I3:=qH (I3.out.offB N2.out.1 (by omega) hs1 he1)
 replace I4:=qH (I4.out.offB N2.out.2 (by omega) hs1 he1)
 clear hl1 hs1 he1 HK;have r0:=H1.cell (i:=0) rfl;have z0:=Ze H1 0;have r1:=H1.cell (i:=1) rfl;have z1:=Ze H1 1;have r2:=H1.cell (i:=2) rfl;have z2:=Ze H1 2;have r3:=H1.cell (i:=3) rfl;have z3:=Ze H1 3;have r4:=H1.cell (i:=4) rfl;have z4:=Ze H1 4;have r5:=H1.cell (i:=5) rfl;have z5:=Ze H1 5;have r6:=H1.cell (i:=6) rfl;have z6:=Ze H1 6;have r7:=H1.cell (i:=7) rfl;have z7:=Ze H1 7;have r8:=H1.cell (i:=8) rfl;have z8:=Ze H1 8;have r9:=H1.cell (i:=9) rfl;have z9:=Ze H1 9;have r10:=H1.cell (i:=10) rfl;have z10:=Ze H1 10;have r11:=H1.cell (i:=11) rfl;have z11:=Ze H1 11;have r12:=H1.cell (i:=12) rfl;have z12:=Ze H1 12;have r13:=H1.cell (i:=13) rfl;have z13:=Ze H1 13;have r14:=H1.cell (i:=14) rfl;have z14:=Ze H1 14;have s0:=H2.cell (i:=0) rfl;have s1:=H2.cell (i:=1) rfl;have s2:=H2.cell (i:=2) rfl;have s3:=H2.cell (i:=3) rfl;have s4:=H2.cell (i:=4) rfl;have s5:=H2.cell (i:=5) rfl;have s6:=H2.cell (i:=6) rfl;have s7:=H2.cell (i:=7) rfl;have s8:=H2.cell (i:=8) rfl;have s9:=H2.cell (i:=9) rfl;have s10:=H2.cell (i:=10) rfl;have s11:=H2.cell (i:=11) rfl;have s12:=H2.cell (i:=12) rfl;have s13:=H2.cell (i:=13) rfl;have s14:=H2.cell (i:=14) rfl;have HK:=qH (qI H1 H2);clear H1 H2;go_wp2;generalize hZ:qU (qU (qU (qU (qU (qU (qU (qU (qU (qU (qU (qU (qU (qU (qU Y _ _) _ _) _ _) _ _) _ _) _ _) _ _) _ _) _ _) _ _) _ _) _ _) _ _) _ _) _ _=Z at *;obtain⟨HZ,hl2,hs2,he2⟩:=set15 HK.out.1 rfl hZ;have BZ:=BY.out.trans (hl2 _ (by omega))
 clear r0 z0 r1 z1 r2 z2 r3 z3 r4 z4 r5 z5 r6 z6 r7 z7 r8 z8 r9 z9 r10 z10 r11 z11 r12 z12 r13 z13 r14 z14 hZ s0 s1 s2 s3 s4 s5 s6 s7 s8 s9 s10 s11 s12 s13 s14;have r0:=HZ.cell (i:=0) rfl;have r1:=HZ.cell (i:=1) rfl;have r2:=HZ.cell (i:=2) rfl;have r3:=HZ.cell (i:=3) rfl;have r4:=HZ.cell (i:=4) rfl;have r5:=HZ.cell (i:=5) rfl;have r6:=HZ.cell (i:=6) rfl;have r7:=HZ.cell (i:=7) rfl;have r8:=HZ.cell (i:=8) rfl;have r9:=HZ.cell (i:=9) rfl;have r10:=HZ.cell (i:=10) rfl;have r11:=HZ.cell (i:=11) rfl;have r12:=HZ.cell (i:=12) rfl;have r13:=HZ.cell (i:=13) rfl;have r14:=HZ.cell (i:=14) rfl;refine bodyPost_ret (v:=qT #[.agg (tripCells m _ _ _ _ _ _ _),O qL 0]) (by simp [results,tripCells,Tryz.f38,go_sem,r0,r1,r2,r3,r4,r5,r6,r7,r8,r9,r10,r11,r12,r13,r14]) rfl ⟨_,_,_,_,rfl,⟨I1.out.offB N1.out.1 (by omega) hs2 he2,I2.out.offB N1.out.2 (by omega) hs2 he2,I3.out.offB N2.out.1 (by omega) hs2 he2,I4.out.offB N2.out.2 (by omega) hs2 he2⟩,BZ⟩
end
end Go.Proofs.YthipcinibldgnaaGreat
