/- package spread: chosen, radii, Radii. | package plan: newTrip. -/
import Derived.Test.YthipcinibldgnaaGreatBin11
import Derived.Test.YthipcinibldgnaaGreatBin13
open Go.Value renaming int->O,pointer->qP,slice->qS,tuple->qT
open Go.Obj renaming cells->qC
open Go.IntKind renaming i64->qL
open Go.Lib renaming hid->qH
open Go.RowKit.Below renaming refl->qK
open Go.World renaming setCell->qU,alloc->qV
open Nat renaming le_refl->qN
open And renaming intro->qI
open Go.Act renaming put->qJ
set_option linter.unusedSimpArgs false
set_option linter.unusedVariables false
set_option maxRecDepth 8000
set_option maxHeartbeats 6400000
namespace Go.Proofs.YthipcinibldgnaaGreat
section
open Go.RowKit
theorem zCj {a b:World} {g:Nat} {k:Array Value} {t:TypeId} (h:Hid (Has a g k t)) (q:Hid (Below a.heap.size a b)):Has b g k t:=h.out.below q.out h.out.lt
end
section
attribute [local irreducible] wpQuiet
open Go.RowKit Go.Shelf Go.Maps
theorem Z4K (m : Msn) (vw vh vr vl : Value) (l : List Int) (w : World) (hfx : ∀ k, k < m.ways.length -> 0 <= (wy m.ways k).fix) (hw : WaysAt w.heap.size w vw m.ways) (hl : Z8 w.heap.size w vl l) :
  Calls Tryz.prog 91 #[.agg (Zc m vw vh vr),vl] w (SetsQ m l w):=by
 obtain⟨hll,al,capl,rfl,E⟩:=hl;obtain⟨hwl,J,a,rfl,K⟩:=hw;have H0:=Has.new w (Zc m (qS J m.ways.length (m.ways.length+a)) vh vr) 26;have z:=SetAt.made (w.alloc (qC (Zc m (qS J m.ways.length (m.ways.length+a)) vh vr) 26));rw [World.size_alloc] at z;have H1:=H0.below ((qK (w.heap.size+1) _).alloc (by simp) (.map #[] 0)) (by omega)
 have ad:=qH H1;have T:=qH z;have ac:=qH E;have Q:=qH K;have W:=qH hfx;clear hfx;have Z:=@run_makeMap Tryz.prog;clear E K H0 H1 z;unfold Zc at *;go_enter Tryz.func91,Tryz.ntmps91;go_wp2;clear Z
 go_loopw [7,13] (fun s i wr=>∃ k:Nat,k<=l.length/\i=O qL k/\s=O qL (prevS l k)/\(∀ j,j<k->stopOk m l j)/\SetAt wr (w.heap.size+1) (l.take k)/\Has wr w.heap.size (Zc m (qS J m.ways.length (m.ways.length+a)) vh vr) 26/\Below w.heap.size w wr) (fun _ i _=>l.length-(intOf i).toNat)
 case atStart=>exact⟨0,by omega,rfl,rfl,fun j hj=>by omega,T.out,ad.out,((qK _ _).alloc (qN _) _).alloc (by first | omega | (simp;done) | (simp;omega)) _⟩
 case round =>
  obtain⟨k,hk,rfl,rfl,f,hS,H,t⟩:=hrel;have hzr:=t.size;have hlt1:=H.lt;have g:=qH f;have HH:=qH H;have cc:wr.cell? ⟨w.heap.size,0,none⟩=some (qS J m.ways.length (m.ways.length+a)):=cX 0 H rfl;have hp:=Z0x f k (qN _);have HS:=qH hS;clear f H hS;by_cases hlt:k<l.length
  ·obtain ⟨bl, ol, rfl, aa, L⟩ : ∃ b1 o1, al = some ⟨b1, o1, none⟩ /\ b1 < w.heap.size /\ ∀ j, j < l.length -> w.cell? ⟨b1, o1 + j, none⟩ = some (O qL (l.getD j 0)) := by
    rcases ac.out with h | h
    ·rw [h] at hlt;simp at hlt
    ·exact h
   have f1:=(t.cell (p:=⟨bl,ol+k,none⟩) aa).trans (L k hlt);have A:prevS l (k+1)=l.getD k 0:=by simp [prevS]
   have v:l.take (k+1)=l.take k++[l.getD k 0]:=by
    rw [List.take_succ_eq_append_getElem hlt];simp [List.getD,List.getElem?_eq_getElem hlt]
   have r:stopOk m l k↔prevS l k<l.getD k 0/\l.getD k 0<m.ways.length/\(wy m.ways (l.getD k 0).toNat).fix≠0:=Iff.rfl;clear L;obtain⟨s,hs⟩:∃ s,l.getD k 0=s:=⟨_,rfl⟩;obtain⟨M,B⟩:∃ M,prevS l k=M:=⟨_,rfl⟩;rw [hs] at f1 A v r;rw [B] at hp r ⊢;have HK:=qH (qI A (qI v hs));have U:=qH r;clear A v hs B r;by_cases h1:M<s
   ·have d1 : decide (s <= M) = false := by simp; omega
    by_cases h2:s<m.ways.length
    ·have d2:decide ((m.ways.length:Int)<=s)=false:=by simp;omega
     obtain⟨q,rfl⟩:∃ q:Nat,s=q:=⟨s.toNat,by omega⟩
     obtain⟨bw,ow,rfl,X,F⟩:∃ b o,J=some ⟨b,o,none⟩/\b<w.heap.size/\∀ j,j<m.ways.length->w.cell? ⟨b,o+j*5,none⟩=some (O qL (wy m.ways j).x)/\w.cell? ⟨b,o+j*5+1,none⟩=some (O qL (wy m.ways j).y)/\w.cell? ⟨b,o+j*5+2,none⟩=some (O qL (wy m.ways j).fix)/\w.cell? ⟨b,o+j*5+3,none⟩=some (O qL (wy m.ways j).wait)/\w.cell? ⟨b,o+j*5+4,none⟩=some (O qL (wy m.ways j).back):=by
      rcases Q.out with h | h
      ·rw [h] at h2;simp at h2;omega
      ·exact h
     have f2:=(t.cell (p:=⟨bw,ow+q*5+2,none⟩) X).trans (F q (by omega)).2.2.1
     clear F;have R:q<m.ways.length:=by omega
     have u:=U.out;rw [Int.toNat_natCast] at u;have C:=qH u;clear u;by_cases h3:(wy m.ways q).fix=0
     ·have c:Hid (stopsB m l=false):=Z04 hlt (fun h=>(C.out.1 h).2.2 h3)
      rw [h3] at f2;clear h3;go_wp2;go_ret2;exact .inl ⟨c.out,rfl,t⟩
     ·have d3:decide ((wy m.ways q).fix<1)=false:=by have:=W.out q R;simp;omega
      have d:Hid (stopOk m l k):=C.out.2 ⟨h1,h2,h3⟩;obtain⟨n,D,I,hn,P,N⟩:=HS.out;have V:=qH N;have S:=qH P;have hn2:n<=70368744177663:=by have:=List.length_take_le k l;omega
      have HN:=qH hn;have G:(Lit.int .i64 (q:Int)).wf=true:=Z3M (by omega) (by omega)
      clear h3 N P hn;go_wp2_with (at_mapUpdate;refine wpList_mapUpdate_own _ rfl _ _ _ 148 rfl 3 4 keyInt Tryz.underlying148 _ (w.heap.size+1) n D rfl I (by unfold maxLen;omega) _ _ (.int .i64 (q:Int)) rfl rfl (keyOf_int_mk Tryz.underlying3 G) (.lit (.bool true)) [] (plainElem_bool Tryz.underlying4 true) ?_;intro w1 hown1 hgrow1)
      go_roundw
      case rel =>
       have Y:Below w.heap.size w w1:=t.grown hgrow1 (by omega) (fun j e=>by cases e;omega)
       have ab:Below (w.heap.size+1) wr w1:=(qK _ wr).grown hgrow1 (by omega) (fun j e=>by cases e;omega)
       refine⟨k+1,by omega,by go_num,by rw [HK.out.1],fun j hj=>?_,?_,HH.out.below ab (by omega),Y⟩
       ·by_cases e:j=k
        ·rw [e];exact d.out
        ·exact g.out j (by omega)
       ·rw [HK.out.2.1]
        exact SetAt.put G HN.out S.out V.out hown1
      case measure=>simp [intOf];omega
    ·have d2:decide ((m.ways.length:Int)<=s)=true:=by simp;omega
     have c:Hid (stopsB m l=false):=Z04 hlt (fun h=>h2 (U.out.1 h).2.1)
     go_wp2;go_ret2;exact .inl ⟨c.out,rfl,t⟩
   ·have d1:decide (s<=M)=true:=by simp;omega
    have c:Hid (stopsB m l=false):=Z04 hlt (fun h=>h1 (U.out.1 h).1)
    go_wp2;go_ret2;exact .inl ⟨c.out,rfl,t⟩
  ·obtain rfl:k=l.length:=by omega
   have d:Hid (stopsB m l=true):=by
    show stopsB m l=true
    simp only [stopsB,decide_eq_true_eq];exact g.out
   have hd:decide ((l.length:Int)<(l.length:Int))=false:=by simp
   go_wp2;go_ret2;refine .inr ⟨d.out,_,rfl,?_,by omega,t⟩
   have:=HS.out
   rwa [List.take_length] at this
end
section
attribute [local go_sem] Oper.semAt_some
attribute [local irreducible] wpQuiet
open Go.RowKit Go.Shelf
theorem Z9z (m:Msn) (vw vh vr:Value) (bm:Nat) (w:World) :
  Calls Tryz.prog 92 #[.agg (Zc m vw vh vr),.map (some bm)] w fun e w'=>e=.returned (.func (.func 148) #[] #[qP (some ⟨w.heap.size,0,none⟩),qP (some ⟨w.heap.size+1,0,none⟩)])/\(w.alloc (qC (Zc m vw vh vr) 26)).alloc (qC #[.map (some bm)] 148)=w':=by
 unfold Zc;go_enter Tryz.func92,Tryz.ntmps92;go_wp2;go_ret;exact⟨rfl,rfl⟩
def encR (m:Msn) (l:List Int) (x:Nat):Array Value:=#[.agg #[O qL (rdB m l x),O qL (rdA m l x)]]
theorem Z9A (n : Nat) (hn : 1 <= n) (p : Nat -> Prop) (m : Msn) (vw vh vr : Value) (l : List Int) (Bm Bs bm n0 : Nat) (W : World) (lp : Nat) (hV : validB m = true)
  (hm:MsnAt n0 W m vw vh vr) (hn0:n0<=W.heap.size) (hset:SetAt W bm l) (HM:Has W Bm (Zc m vw vh vr) 26) (HS:Boxed W Bs 148 (.map (some bm)))
  (p0:p W.heap.size) (p1:p Bm) (p2:p Bs) (p3:p bm) (p4:∀ b,b<n0->p b) (J Jx:List Nat->World->Prop)
  (hJ:∀ s A B,J s A->MoveM (fun r=>r=W.heap.size) A B->J s B)
  (hY:∀ (pre:List Nat) (x:Nat) W1,J pre W1->pre.length<m.ways.length->W.heap.size+1<=W1.heap.size->YieldAt Fence.wide (n-1) Tryz.prog lp (encR m l x) W1 fun e W' =>
   (e=.returned (.bool true)/\J (pre++[x]) W'/\KeepsP p W1 W')\/(e=.returned (.bool false)/\Jx (pre++[x]) W')) (h0:J [] W) :
  CallsIn Fence.wide n Tryz.prog 148 #[.func (.yield lp) #[] #[],qP (some ⟨Bm,0,none⟩),qP (some ⟨Bs,0,none⟩)] W fun e W'=>(∃ v,e=.returned v) /\
   ((∃ ys,ys=upto id m.ways.length/\J ys W')\/(∃ pre,(∃ j,j<=m.ways.length/\pre=upto id j)/\Jx pre W')):=by
 have V:=(Zm m).1 hV;have n41:=V.n41;have HM0:=qH hm;obtain⟨⟨_,a1,cap1,rfl,_⟩,⟨_,a2,cap2,rfl,_⟩,⟨_,a3,cap3,rfl,_⟩⟩:=hm;obtain⟨c0,c1,c2,c3,c4,c5,c6,c7,c8,c9,c10⟩:=Zh HM;have HV:=qH (qI hV V);have HMB:=qH HM;have HSB:=qH HS;have HSET:=qH hset;have HJ0:=qH (hJ _ _ _ h0 (MoveM.alloc _ W (qC #[O qL m.start,O qL m.start] 155)));have HSP:=qH (Has.new W #[O qL m.start,O qL m.start] 155);have hmlt:=HM.lt;have hslt:=HS.lt;have hblt:=hset.lt;have HWC:=qH HM0.out.1;clear hV V HM HS hset h0;refine callsIn_of_wp Tryz.func148 rfl trivial ?_ rfl;simp only [Tryz.ntmps148,List.size_toArray,List.length_cons,List.length_nil,Nat.reduceAdd,Nat.reduceSub,Array.replicate_succ,Array.replicate_zero,List.push_toArray,List.append_toArray,List.nil_append,List.cons_append];gi_wp2;have HW0:=qH (show ∀ b,p b->b≠W.heap.size->b<W.heap.size->(W.alloc (qC #[O qL m.start,O qL m.start] 155)).heap[b]?=W.heap[b]? from fun b _ _ hb=>Below.heap_alloc _ _ _ hb)
 gi_loopw [19] (fun i wr=>∃ k:Nat,k<=m.ways.length/\i=O qL k/\J (upto id k) wr/\Has wr W.heap.size #[O qL (rdB m l (k-1)),O qL (rdA m l (k-1))] 155/\(∀ b,p b->b≠W.heap.size->b<W.heap.size->wr.heap[b]?=W.heap[b]?)/\W.heap.size+1<=wr.heap.size)
  (fun i _=>m.ways.length-(intOf i).toNat)
 case atStart=>exact⟨0,Nat.zero_le _,rfl,HJ0.out,HSP.out,HW0.out,by simp⟩
 case round =>
  obtain⟨k,hk,rfl,Z,S,hkp,hsz⟩:=hrel;obtain⟨hV,V⟩:=HV.out;have E:=qH hkp;have HMr:=HM0.out.blocks (B:=wr) (by omega) (fun b hb=>hkp b (p4 b hb) (by omega) (by omega))
  by_cases hlt:k<m.ways.length
  ·have hub := rd_le V l hlt
   have d1:decide ((k:Int)<(m.ways.length:Int))=true:=by simp;omega
   have kl:(k:Int)<m.ways.length:=by omega
   obtain⟨bw,ow,capw,hvw,hbw,hcw⟩:=HMr.1.cells (by omega)
   simp only [Value.slice.injEq,true_and] at hvw;obtain⟨ha1,hcap⟩:=hvw;obtain⟨q0,q1,q2,q3,q4⟩:=hcw k hlt;subst ha1;have HMH:=qH (HMr.mono (by omega:n0<=wr.heap.size))
   have hbw2:bw<wr.heap.size:=by omega
   clear hkp HMr hcw hcap;cases k with
   | zero =>
    have hbr:W.heap.size<wr.heap.size:=by omega
    have HP2:=qH (S.below ((qK wr.heap.size wr).alloc (qN _) (qC #[O qL (wy m.ways 0).x,O qL (wy m.ways 0).y,O qL (wy m.ways 0).fix,O qL (wy m.ways 0).wait,O qL (wy m.ways 0).back] 65)) S.lt);have t:=qH (show Below wr.heap.size wr (wr.alloc (qC #[O qL (wy m.ways 0).x,O qL (wy m.ways 0).y,O qL (wy m.ways 0).fix,O qL (wy m.ways 0).wait,O qL (wy m.ways 0).back] 65)) from (qK wr.heap.size wr).alloc (qN _) _)
    obtain⟨fn,tmps,L,body,X,hR⟩:=hY _ 0 _ (hJ _ _ _ Z (MoveM.alloc _ wr (qC #[O qL (wy m.ways 0).x,O qL (wy m.ways 0).y,O qL (wy m.ways 0).fix,O qL (wy m.ways 0).wait,O qL (wy m.ways 0).back] 65))) (by rw [Zq];omega) (by simp;omega)
    unfold encR at X;have e0:=cX 0 HP2.out rfl;have e1:=cX 1 HP2.out rfl;have hz2:=hsz;simp only [Nat.zero_mul,Nat.add_zero,Int.natCast_zero] at *;clear S Z V hV;gi_wp2;refine hR.mono ?_;rintro e W3 (⟨rfl,F,c⟩ | ⟨rfl,I⟩)
    ·have o:=(c.2 _ p0).trans HP2.out
     have T:W.heap.size+1<=W3.heap.size:=Nat.le_trans hz2 (Nat.le_trans t.out.size c.1);have g:∀ b,p b->b≠W.heap.size->b<W.heap.size->W3.heap[b]?=W.heap[b]?:=fun b h1 h2 d=>(c.2 b h1).trans ((t.out.block b (by omega)).trans (E.out b h1 h2 d))
     have U:=qH (qI o (qI g F));clear o g F c X hR;gi_wp2;go_roundw
     case rel =>
      refine⟨0+1,by omega,by go_num,?_,U.out.1,U.out.2.1,T⟩
      rw [ZB];exact U.out.2.2
     case measure=>simp [intOf];omega
    ·gi_wp2
     exact bodyPost_ret (v:=qT #[]) (by simp [results,Tryz.f148]) rfl ⟨⟨_,rfl⟩,.inr ⟨_,⟨0+1,by omega,(ZB _ _).symm⟩,I⟩⟩
   | succ j =>
    rw [show j+1-1=j by omega] at S
    have hj:=rd_le V l (k:=j) (by omega)
    have hg:=ZW V.leg V.ways (i:=j) (j:=j+1) (by omega) hlt
    have eB:rdB m l (j+1)=rdA m l j+gLeg m j (j+1):=rfl;have eA:=Z0R m l j;have hl:=Z9Y m (qS (some ⟨bw,ow,none⟩) m.ways.length (m.ways.length+cap1)) (qS a2 m.home.length (m.home.length+cap2)) (qS a3 m.rocks.length (m.rocks.length+cap3)) j (j+1);have hl:=qH (fun w1 h=>hl w1 h hV (by omega) hlt)
    have m1:IntKind.i64.wrap (rdA m l j+gLeg m j (j+1))=rdA m l j+gLeg m j (j+1):=zW2;have e1:wr.cell? ⟨W.heap.size,1,none⟩=some (O qL (rdA m l j)):=cX 1 S rfl;have hbm:wr.heap[Bm]?=W.heap[Bm]?:=by
     rcases Nat.lt_or_ge Bm W.heap.size with h | h
     ·exact E.out Bm p1 (by omega) h
     ·omega
    obtain⟨c0,c1,c2,c3,c4,c5,c6,c7,c8,c9,c10⟩:=Zh (hbm.trans HMB.out);have u:=qH S;have HJs:=qH Z;have t:=qH (show Below wr.heap.size wr (wr.alloc (qC #[O qL (wy m.ways (j+1)).x,O qL (wy m.ways (j+1)).y,O qL (wy m.ways (j+1)).fix,O qL (wy m.ways (j+1)).wait,O qL (wy m.ways (j+1)).back] 65)) from (qK wr.heap.size wr).alloc (qN _) _)
    have HWB:=qH (Has.new wr #[O qL (wy m.ways (j+1)).x,O qL (wy m.ways (j+1)).y,O qL (wy m.ways (j+1)).fix,O qL (wy m.ways (j+1)).wait,O qL (wy m.ways (j+1)).back] 65);have d2:decide ((j:Int)+1>0)=true:=by rw [decide_eq_true_eq];omega
    have hbmlt:Bm<wr.heap.size:=by omega
    have HE:=qH (qI eB eA);clear S Z V hV hub hj hg eB eA;by_cases hin:(((j+1):Nat):Int) ∈ l
    ·have dl : decide (((j + 1 : Nat) : Int) ∈ l) = true := by simpa using hin
     by_cases hmn:(wy m.ways (j+1)).fix<rdA m l j+gLeg m j (j+1)
     ·have Q:Hid (rdA m l (j+1)=(wy m.ways (j+1)).fix):=HE.out.2.trans ((if_pos hin).trans (if_pos hmn))
      have P:=qH HE.out.1;have HB2:Hid ((m.ways.length:Nat)=(m.ways.length:Nat)):=rfl;clear hin HB2
      gi_wp2_with fail
      refine⟨trivial,(callsIn_wide.2 (hl.out _ ((HMH.out.below t.out).mono t.out.size))).mono ?_⟩;rintro r q ⟨rfl,w⟩;have M:=t.out.trans (w.mono t.out.size);have hz2:=M.size;have hwz:wr.heap.size<q.heap.size:=by have:=w.size;simp at this;omega
      have a:Has q W.heap.size #[O qL (rdB m l j),O qL (rdA m l j)] 155:=u.out.below M u.out.lt;have G:=HWB.out.below w (by simp)
      have z:∀ b,p b->b≠W.heap.size->b<W.heap.size->q.heap[b]?=W.heap[b]?:=fun b h1 h2 d=>(M.block b (by omega)).trans (E.out b h1 h2 d)
      have hO:Only W.heap.size wr q:=Only.of_below M;have N:=qH z;have D:=a.set 0 (O qL (rdA m l j+gLeg m j (j+1)));have d:=D.set 1 (O qL (rdA m l j+gLeg m j (j+1)));have K:=(hO.set 0 (O qL (rdA m l j+gLeg m j (j+1)))).set 1 (O qL (rdA m l j+gLeg m j (j+1)));have f:∀ b,p b->b≠W.heap.size->b<W.heap.size->(qU (qU q ⟨W.heap.size,0,none⟩ (O qL (rdA m l j+gLeg m j (j+1)))) ⟨W.heap.size,1,none⟩ (O qL (rdA m l j+gLeg m j (j+1)))).heap[b]?=W.heap[b]?:=fun b h1 h2 d=>(K.block b (by omega) h2).trans (E.out b h1 h2 d)
      have s0:=(show Boxed (qU (qU q ⟨W.heap.size,0,none⟩ (O qL (rdA m l j+gLeg m j (j+1)))) ⟨W.heap.size,1,none⟩ (O qL (rdA m l j+gLeg m j (j+1)))) Bs 148 (.map (some bm)) from (f Bs p2 (by omega) hslt).trans HSB.out).cell
      have R:SetAt (qU (qU q ⟨W.heap.size,0,none⟩ (O qL (rdA m l j+gLeg m j (j+1)))) ⟨W.heap.size,1,none⟩ (O qL (rdA m l j+gLeg m j (j+1)))) bm l:=HSET.out.block (f bm p3 (by omega) hblt)
      have H:(Instr.lookup 148 (.map (some bm)) (O qL ((j:Int)+1)) false).run Tryz.prog (qU (qU q ⟨W.heap.size,0,none⟩ (O qL (rdA m l j+gLeg m j (j+1)))) ⟨W.heap.size,1,none⟩ (O qL (rdA m l j+gLeg m j (j+1))))=.ok (.bool (decide (((j+1:Nat):Int) ∈ l))) (qU (qU q ⟨W.heap.size,0,none⟩ (O qL (rdA m l j+gLeg m j (j+1)))) ⟨W.heap.size,1,none⟩ (O qL (rdA m l j+gLeg m j (j+1)))):=R.look (k:=((j+1):Nat)) (Z3M (by omega) (by omega))
      rw [dl] at H;have y0:=Ze a 0;have y1:=Ze D 1;have o1:=cX 0 a rfl;have o2:=cX 1 a rfl;have r0:=cX 0 d rfl;have r1:=cX 1 d rfl;have f2:=((G.other ⟨W.heap.size,0,none⟩ (O qL (rdA m l j+gLeg m j (j+1))) (by show wr.heap.size≠W.heap.size;omega)).other ⟨W.heap.size,1,none⟩ (O qL (rdA m l j+gLeg m j (j+1))) (by show wr.heap.size≠W.heap.size;omega)).cell (i:=2) rfl
      have y2:=Ze d 1;have Y:=d.set 1 (O qL (wy m.ways (j+1)).fix);have C:=K.set 1 (O qL (wy m.ways (j+1)).fix);have t0:=cX 0 Y rfl;have t1:=cX 1 Y rfl;obtain⟨fn,tmps,L,body,X,hR⟩:=hY _ (j+1) (qU (qU (qU q ⟨W.heap.size,0,none⟩ (O qL (rdA m l j+gLeg m j (j+1)))) ⟨W.heap.size,1,none⟩ (O qL (rdA m l j+gLeg m j (j+1)))) ⟨W.heap.size,1,none⟩ (O qL (wy m.ways (j+1)).fix)) (hJ _ _ _ HJs.out (C.move rfl ⟨_,u.out,rfl⟩)) (by rw [Zq];omega) (by simp [qU];omega)
      unfold encR at X;rw [P.out,Q.out] at X;have H4:=qH (qI Y C);clear w M a G z hO D d K f R Y C N;gi_wp2;refine hR.mono ?_;rintro e W5 (⟨rfl,F,c⟩ | ⟨rfl,I⟩)
      ·have o:=(c.2 _ p0).trans H4.out.1
       have T:W.heap.size+1<=W5.heap.size:=Nat.le_trans (by omega) (Nat.le_trans H4.out.2.size c.1)
       have g:∀ b,p b->b≠W.heap.size->b<W.heap.size->W5.heap[b]?=W.heap[b]?:=fun b h1 h2 d=>(c.2 b h1).trans ((H4.out.2.block b (by omega) h2).trans (E.out b h1 h2 d))
       have U:=qH (qI o (qI g F));clear o g F c X hR;gi_wp2;go_roundw
       case rel =>
        refine⟨(j+1)+1,by omega,by go_num,?_,?_,U.out.2.1,T⟩
        ·rw [ZB]
         exact U.out.2.2
        ·rw [show j+1+1-1=j+1 by omega,P.out,Q.out]
         exact U.out.1
       case measure=>simp [intOf];omega
      ·gi_wp2
       exact bodyPost_ret (v:=qT #[]) (by simp [results,Tryz.f148]) rfl ⟨⟨_,rfl⟩,.inr ⟨_,⟨(j+1)+1,by omega,(ZB _ _).symm⟩,I⟩⟩
     ·have Q:Hid (rdA m l (j+1)=(rdA m l j+gLeg m j (j+1))):=HE.out.2.trans ((if_pos hin).trans (if_neg hmn))
      have P:=qH HE.out.1;have HB2:Hid ((m.ways.length:Nat)=(m.ways.length:Nat)):=rfl;clear hin HB2
      gi_wp2_with fail
      refine⟨trivial,(callsIn_wide.2 (hl.out _ ((HMH.out.below t.out).mono t.out.size))).mono ?_⟩;rintro r q ⟨rfl,w⟩;have M:=t.out.trans (w.mono t.out.size);have hz2:=M.size;have hwz:wr.heap.size<q.heap.size:=by have:=w.size;simp at this;omega
      have a:Has q W.heap.size #[O qL (rdB m l j),O qL (rdA m l j)] 155:=u.out.below M u.out.lt;have G:=HWB.out.below w (by simp)
      have z:∀ b,p b->b≠W.heap.size->b<W.heap.size->q.heap[b]?=W.heap[b]?:=fun b h1 h2 d=>(M.block b (by omega)).trans (E.out b h1 h2 d)
      have hO:Only W.heap.size wr q:=Only.of_below M;have N:=qH z;have D:=a.set 0 (O qL (rdA m l j+gLeg m j (j+1)));have d:=D.set 1 (O qL (rdA m l j+gLeg m j (j+1)));have K:=(hO.set 0 (O qL (rdA m l j+gLeg m j (j+1)))).set 1 (O qL (rdA m l j+gLeg m j (j+1)));have f:∀ b,p b->b≠W.heap.size->b<W.heap.size->(qU (qU q ⟨W.heap.size,0,none⟩ (O qL (rdA m l j+gLeg m j (j+1)))) ⟨W.heap.size,1,none⟩ (O qL (rdA m l j+gLeg m j (j+1)))).heap[b]?=W.heap[b]?:=fun b h1 h2 d=>(K.block b (by omega) h2).trans (E.out b h1 h2 d)
      have s0:=(show Boxed (qU (qU q ⟨W.heap.size,0,none⟩ (O qL (rdA m l j+gLeg m j (j+1)))) ⟨W.heap.size,1,none⟩ (O qL (rdA m l j+gLeg m j (j+1)))) Bs 148 (.map (some bm)) from (f Bs p2 (by omega) hslt).trans HSB.out).cell
      have R:SetAt (qU (qU q ⟨W.heap.size,0,none⟩ (O qL (rdA m l j+gLeg m j (j+1)))) ⟨W.heap.size,1,none⟩ (O qL (rdA m l j+gLeg m j (j+1)))) bm l:=HSET.out.block (f bm p3 (by omega) hblt)
      have H:(Instr.lookup 148 (.map (some bm)) (O qL ((j:Int)+1)) false).run Tryz.prog (qU (qU q ⟨W.heap.size,0,none⟩ (O qL (rdA m l j+gLeg m j (j+1)))) ⟨W.heap.size,1,none⟩ (O qL (rdA m l j+gLeg m j (j+1))))=.ok (.bool (decide (((j+1:Nat):Int) ∈ l))) (qU (qU q ⟨W.heap.size,0,none⟩ (O qL (rdA m l j+gLeg m j (j+1)))) ⟨W.heap.size,1,none⟩ (O qL (rdA m l j+gLeg m j (j+1)))):=R.look (k:=((j+1):Nat)) (Z3M (by omega) (by omega))
      rw [dl] at H;have y0:=Ze a 0;have y1:=Ze D 1;have o1:=cX 0 a rfl;have o2:=cX 1 a rfl;have r0:=cX 0 d rfl;have r1:=cX 1 d rfl;have f2:=((G.other ⟨W.heap.size,0,none⟩ (O qL (rdA m l j+gLeg m j (j+1))) (by show wr.heap.size≠W.heap.size;omega)).other ⟨W.heap.size,1,none⟩ (O qL (rdA m l j+gLeg m j (j+1))) (by show wr.heap.size≠W.heap.size;omega)).cell (i:=2) rfl
      have y2:=Ze d 1;have Y:=d.set 1 (O qL (rdA m l j+gLeg m j (j+1)));have C:=K.set 1 (O qL (rdA m l j+gLeg m j (j+1)));have t0:=cX 0 Y rfl;have t1:=cX 1 Y rfl;obtain⟨fn,tmps,L,body,X,hR⟩:=hY _ (j+1) (qU (qU (qU q ⟨W.heap.size,0,none⟩ (O qL (rdA m l j+gLeg m j (j+1)))) ⟨W.heap.size,1,none⟩ (O qL (rdA m l j+gLeg m j (j+1)))) ⟨W.heap.size,1,none⟩ (O qL (rdA m l j+gLeg m j (j+1)))) (hJ _ _ _ HJs.out (C.move rfl ⟨_,u.out,rfl⟩)) (by rw [Zq];omega) (by simp [qU];omega)
      unfold encR at X;rw [P.out,Q.out] at X;have H4:=qH (qI Y C);clear w M a G z hO D d K f R Y C N;gi_wp2;refine hR.mono ?_;rintro e W5 (⟨rfl,F,c⟩ | ⟨rfl,I⟩)
      ·have o:=(c.2 _ p0).trans H4.out.1
       have T:W.heap.size+1<=W5.heap.size:=Nat.le_trans (by omega) (Nat.le_trans H4.out.2.size c.1)
       have g:∀ b,p b->b≠W.heap.size->b<W.heap.size->W5.heap[b]?=W.heap[b]?:=fun b h1 h2 d=>(c.2 b h1).trans ((H4.out.2.block b (by omega) h2).trans (E.out b h1 h2 d))
       have U:=qH (qI o (qI g F));clear o g F c X hR;gi_wp2;go_roundw
       case rel =>
        refine⟨(j+1)+1,by omega,by go_num,?_,?_,U.out.2.1,T⟩
        ·rw [ZB]
         exact U.out.2.2
        ·rw [show j+1+1-1=j+1 by omega,P.out,Q.out]
         exact U.out.1
       case measure=>simp [intOf];omega
      ·gi_wp2
       exact bodyPost_ret (v:=qT #[]) (by simp [results,Tryz.f148]) rfl ⟨⟨_,rfl⟩,.inr ⟨_,⟨(j+1)+1,by omega,(ZB _ _).symm⟩,I⟩⟩
    ·have dl:decide (((j+1:Nat):Int) ∈ l)=false:=by simpa using hin
     have Q:Hid (rdA m l (j+1)=rdA m l j+gLeg m j (j+1)):=(HE.out.2.trans (if_neg hin)).trans HE.out.1;have P:=qH HE.out.1;have HB2:Hid ((m.ways.length:Nat)=(m.ways.length:Nat)):=rfl;clear hin HB2
     gi_wp2_with fail
     refine⟨trivial,(callsIn_wide.2 (hl.out _ ((HMH.out.below t.out).mono t.out.size))).mono ?_⟩;rintro r q ⟨rfl,w⟩;have M:=t.out.trans (w.mono t.out.size);have hz2:=M.size;have hwz:wr.heap.size<q.heap.size:=by have:=w.size;simp at this;omega
     have a:Has q W.heap.size #[O qL (rdB m l j),O qL (rdA m l j)] 155:=u.out.below M u.out.lt;have G:=HWB.out.below w (by simp)
     have z:∀ b,p b->b≠W.heap.size->b<W.heap.size->q.heap[b]?=W.heap[b]?:=fun b h1 h2 d=>(M.block b (by omega)).trans (E.out b h1 h2 d)
     have hO:Only W.heap.size wr q:=Only.of_below M;have N:=qH z;have D:=a.set 0 (O qL (rdA m l j+gLeg m j (j+1)));have d:=D.set 1 (O qL (rdA m l j+gLeg m j (j+1)));have K:=(hO.set 0 (O qL (rdA m l j+gLeg m j (j+1)))).set 1 (O qL (rdA m l j+gLeg m j (j+1)));have f:∀ b,p b->b≠W.heap.size->b<W.heap.size->(qU (qU q ⟨W.heap.size,0,none⟩ (O qL (rdA m l j+gLeg m j (j+1)))) ⟨W.heap.size,1,none⟩ (O qL (rdA m l j+gLeg m j (j+1)))).heap[b]?=W.heap[b]?:=fun b h1 h2 d=>(K.block b (by omega) h2).trans (E.out b h1 h2 d)
     have s0:=(show Boxed (qU (qU q ⟨W.heap.size,0,none⟩ (O qL (rdA m l j+gLeg m j (j+1)))) ⟨W.heap.size,1,none⟩ (O qL (rdA m l j+gLeg m j (j+1)))) Bs 148 (.map (some bm)) from (f Bs p2 (by omega) hslt).trans HSB.out).cell
     have R:SetAt (qU (qU q ⟨W.heap.size,0,none⟩ (O qL (rdA m l j+gLeg m j (j+1)))) ⟨W.heap.size,1,none⟩ (O qL (rdA m l j+gLeg m j (j+1)))) bm l:=HSET.out.block (f bm p3 (by omega) hblt)
     have H:(Instr.lookup 148 (.map (some bm)) (O qL ((j:Int)+1)) false).run Tryz.prog (qU (qU q ⟨W.heap.size,0,none⟩ (O qL (rdA m l j+gLeg m j (j+1)))) ⟨W.heap.size,1,none⟩ (O qL (rdA m l j+gLeg m j (j+1))))=.ok (.bool (decide (((j+1:Nat):Int) ∈ l))) (qU (qU q ⟨W.heap.size,0,none⟩ (O qL (rdA m l j+gLeg m j (j+1)))) ⟨W.heap.size,1,none⟩ (O qL (rdA m l j+gLeg m j (j+1)))):=R.look (k:=((j+1):Nat)) (Z3M (by omega) (by omega))
     rw [dl] at H;have y0:=Ze a 0;have y1:=Ze D 1;have o1:=cX 0 a rfl;have o2:=cX 1 a rfl;have r0:=cX 0 d rfl;have r1:=cX 1 d rfl;have Y:=d;have C:=K;obtain⟨fn,tmps,L,body,X,hR⟩:=hY _ (j+1) (qU (qU q ⟨W.heap.size,0,none⟩ (O qL (rdA m l j+gLeg m j (j+1)))) ⟨W.heap.size,1,none⟩ (O qL (rdA m l j+gLeg m j (j+1)))) (hJ _ _ _ HJs.out (C.move rfl ⟨_,u.out,rfl⟩)) (by rw [Zq];omega) (by simp [qU];omega)
     unfold encR at X;rw [P.out,Q.out] at X;have H4:=qH (qI Y C);clear w M a G z hO D d K f R Y C N;gi_wp2;refine hR.mono ?_;rintro e W5 (⟨rfl,F,c⟩ | ⟨rfl,I⟩)
     ·have o:=(c.2 _ p0).trans H4.out.1
      have T:W.heap.size+1<=W5.heap.size:=Nat.le_trans (by omega) (Nat.le_trans H4.out.2.size c.1)
      have g:∀ b,p b->b≠W.heap.size->b<W.heap.size->W5.heap[b]?=W.heap[b]?:=fun b h1 h2 d=>(c.2 b h1).trans ((H4.out.2.block b (by omega) h2).trans (E.out b h1 h2 d))
      have U:=qH (qI o (qI g F));clear o g F c X hR;gi_wp2;go_roundw
      case rel =>
       refine⟨(j+1)+1,by omega,by go_num,?_,?_,U.out.2.1,T⟩
       ·rw [ZB]
        exact U.out.2.2
       ·rw [show j+1+1-1=j+1 by omega,P.out,Q.out]
        exact U.out.1
      case measure=>simp [intOf];omega
     ·gi_wp2
      exact bodyPost_ret (v:=qT #[]) (by simp [results,Tryz.f148]) rfl ⟨⟨_,rfl⟩,.inr ⟨_,⟨(j+1)+1,by omega,(ZB _ _).symm⟩,I⟩⟩
  ·obtain rfl:k=m.ways.length:=by omega
   have d1:decide ((m.ways.length:Int)<(m.ways.length:Int))=false:=by simp
   gi_wp2;go_end0;exact⟨⟨_,rfl⟩,.inl ⟨_,rfl,Z⟩⟩
theorem Z9y (n:Nat) (hn:1<=n) (p:Nat->Nat->Prop) (m:Msn) (vw vh vr:Value) (l:List Int) (Bm Bs bm n0:Nat) (w:World) (hV:validB m=true)
  (hm:MsnAt n0 w m vw vh vr) (hn0:n0<=w.heap.size) (hset:SetAt w bm l) (HM:Has w Bm (Zc m vw vh vr) 26) (HS:Boxed w Bs 148 (.map (some bm)))
  (p0:∀ B,p B B) (p1:∀ B,p B Bm) (p2:∀ B,p B Bs) (p3:∀ B,p B bm) (p4:∀ B b,b<n0->p B b) :
  SeqM n Tryz.prog 148 #[qP (some ⟨Bm,0,none⟩),qP (some ⟨Bs,0,none⟩)] (encR m l) (fun B=>KeepsP (p B)) (fun B r=>r=B) 1 m.ways.length
   (fun ys=>ys=upto id m.ways.length) (fun pre=>∃ j,j<=m.ways.length/\pre=upto id j) w:=fun lp J Jx W hW hJ _ hY h0 =>
 Z9A n hn (p W.heap.size) m vw vh vr l Bm Bs bm n0 W lp hV (hm.below (hW.mono hn0)) (Nat.le_trans hn0 hW.size) (hset.block (hW.block bm hset.lt)) (HM.below hW HM.lt) ((hW.block Bs HS.lt).trans HS)
  (p0 _) (p1 _) (p2 _) (p3 _) (p4 _) J Jx hJ hY h0
def bL (m:Msn) (l:List Int) (k:Nat):Value:=O qL (rdB m l k)
def aL (m:Msn) (l:List Int) (k:Nat):Value:=O qL (rdA m l k)
noncomputable def rdBU (m:Msn) (l:List Int):List Int:=upto (rdB m l) m.ways.length
noncomputable def rdAU (m:Msn) (l:List Int):List Int:=upto (rdA m l) m.ways.length
theorem Zbu (m:Msn) (vw vh vr vl:Value) (l:List Int) (w:World) (hm:MsnAt w.heap.size w m vw vh vr) (hl:Z8 w.heap.size w vl l) (hE:(validB m && stopsB m l)=false) :
  Calls Tryz.prog 40 #[.agg (Zc m vw vh vr),vl] w (UsedQ [] [] 1 w):=by
 obtain⟨r,q,o,g,I⟩:=three w (Zc m vw vh vr) 26;have B:=qH (Z0V m vw vh vr _ ((hm.below g).mono (by omega)))
 have J:=qH (qI r (qI q (qI o g)));have HM:=qH hm;have M:=qH hl;have d:=fun hfx f h1 A=>Z4K m vw vh vr vl l f hfx h1 A
 obtain⟨⟨_,P,y,rfl,_⟩,⟨_,a2,z,rfl,_⟩,⟨_,N,x,rfl,_⟩⟩:=hm;obtain⟨_,al,K,rfl,_⟩:=hl;clear r q o g;cases h:validB m
 ·rw [h] at B
  have h':=qH h;clear h hE I d;unfold Zc at *;go_enter Tryz.func40,Tryz.ntmps40;go_wp2_with fail;refine B.out.mono ?_;rintro e f ⟨rfl,a⟩;obtain⟨r,q,o,g⟩:=J.out;have b:=Boxed.below q (a.mono (by simp):Below (w.heap.size+3) _ f) (by omega)
  have c:=Boxed.below o (a.mono (by simp):Below (w.heap.size+3) _ f) (by omega)
  have j:=g.trans (a.mono (by simp;omega))
  have u:=b.cell;have t:=c.cell;have X:=b.frozen;have V:=c.frozen;have E:=qH ((b.set (qS none 0 0)).other (by omega:w.heap.size+1≠w.heap.size+1+1) (qS none 0 0))
  have G:=qH ((c.other (by omega:w.heap.size+1+1≠w.heap.size+1) (qS none 0 0)).set (qS none 0 0))
  have C:=qH ((j.setCell (p:=⟨w.heap.size+1,0,none⟩) (by simp) (qS none 0 0)).setCell (p:=⟨w.heap.size+1+1,0,none⟩) (by simp;omega) (qS none 0 0))
  clear a b c r q o g j;go_wp2;generalize qU (qU f _ _) _ _=Y at *;have u:=E.out.cell;have t:=G.out.cell;exact bodyPost_ret (v:=qT #[qS none 0 0,qS none 0 0,O qL 1]) (by simp [results,Tryz.f40,go_sem,u,t]) rfl ⟨_,_,rfl,Z8.nil _ _,Z8.nil _ _,C.out⟩
 ·replace d:=d (fun k hk=>(ZP (Z0b ((Zm m).1 h).ways hk)).2.2.2.2.1)
  rw [h] at B hE;have D:=qH (show stopsB m l=false by simpa using hE)
  have h':=qH h;have d:=qH d;clear h hE I;unfold Zc at *;go_enter Tryz.func40,Tryz.ntmps40;go_wp2_with fail;refine B.out.mono ?_;rintro e f ⟨rfl,a⟩;obtain⟨r,q,o,g⟩:=J.out;have H:=r.below (a.mono (by simp):Below (w.heap.size+3) _ f) (by omega)
  have b:=Boxed.below q (a.mono (by simp):Below (w.heap.size+3) _ f) (by omega)
  have c:=Boxed.below o (a.mono (by simp):Below (w.heap.size+3) _ f) (by omega)
  have j:=g.trans (a.mono (by simp;omega))
  have z1:w.heap.size+3<=f.heap.size:=by have:=a.size;simp at this;omega
  obtain⟨Q,c1,c2,Z,T,c5,R,S,c8,W,F⟩:=Zh (m:=m) (vw:=qS P m.ways.length (m.ways.length+y)) (vh:=qS a2 m.home.length (m.home.length+z)) (vr:=qS N m.rocks.length (m.rocks.length+x)) H;have s:=qH (qI b (qI c j));clear a b c r q o g j H;go_wp2_with fail;refine (d.out _ ((HM.out.1.below s.out.2.2).mono s.out.2.2.size) ((M.out.below s.out.2.2).mono s.out.2.2.size)).mono ?_;rintro e w2 (⟨_,rfl,n⟩ | ⟨U,_⟩)
  ·obtain⟨b,c,j⟩:=s.out
   have b:=Boxed.below b n (by omega)
   have c:=Boxed.below c n (by omega)
   have L:=j.trans (n.mono j.size);have u:=b.cell;have t:=c.cell;have X:=b.frozen;have V:=c.frozen;have E:=qH ((b.set (qS none 0 0)).other (by omega:w.heap.size+1≠w.heap.size+1+1) (qS none 0 0))
   have G:=qH ((c.other (by omega:w.heap.size+1+1≠w.heap.size+1) (qS none 0 0)).set (qS none 0 0))
   have C:=qH ((L.setCell (p:=⟨w.heap.size+1,0,none⟩) (by simp) (qS none 0 0)).setCell (p:=⟨w.heap.size+1+1,0,none⟩) (by simp;omega) (qS none 0 0))
   clear n b c j L Q c1 c2 Z T c5 R S c8 W F;go_wp2;generalize qU (qU w2 _ _) _ _=Y at *;have u:=E.out.cell;have t:=G.out.cell;exact bodyPost_ret (v:=qT #[qS none 0 0,qS none 0 0,O qL 1]) (by simp [results,Tryz.f40,go_sem,u,t]) rfl ⟨_,_,rfl,Z8.nil _ _,Z8.nil _ _,C.out⟩
  ·have A:=D.out
   rw [U] at A;cases A
theorem Z26 (m : Msn) (vw vh vr vl : Value) (l : List Int) (w : World) (hm : MsnAt w.heap.size w m vw vh vr) (hl : Z8 w.heap.size w vl l) (hV : validB m = true) (hst : stopsB m l = true) :
  Calls Tryz.prog 40 #[.agg (Zc m vw vh vr),vl] w (UsedN (rdBU m l) (rdAU m l) 0 w):=by
 obtain⟨t1,t2,t3,tb,tz⟩:=three w (Zc m vw vh vr) 26;have hv:=Z0V m vw vh vr _ ((hm.below tb).mono (by omega))
 rw [hV] at hv;have hv:=qH hv;have HT:=qH (qI t1 (qI t2 (qI t3 tb)));have HM:=qH hm;have HL:=qH hl;have HV:=qH (qI hV hst);have hse:=qH (fun w1 y u=>Z4K m vw vh vr vl l w1 (fun k hk=>(ZP (Z0b ((Zm m).1 hV).ways hk)).2.2.2.2.1) y u)
 have hwy:=qH (fun b w1=>Z9z m vw vh vr b w1)
 obtain⟨⟨_,a1,G,rfl,_⟩,⟨_,a2,H,rfl,_⟩,⟨_,a3,C,rfl,_⟩⟩:=hm;obtain⟨_,al,capl,rfl,_⟩:=hl;have n41:=((Zm m).1 hV).n41;clear t1 t2 t3 tb tz hV hst;unfold Zc at *;refine (callsIn_wide (n:=9)).1 ?_;refine callsIn_of_wp_marks Tryz.func40 rfl trivial ?_ rfl;simp only [Tryz.ntmps40,List.size_toArray,List.length_cons,List.length_nil,Nat.reduceAdd,Nat.reduceSub,Array.replicate_succ,Array.replicate_zero,List.push_toArray,List.append_toArray,List.nil_append,List.cons_append];refine wpIn_wide.2 ?_;go_wp2_with fail;refine hv.out.mono ?_;rintro e w1 ⟨rfl,hb1⟩;obtain⟨t1,t2,t3,tb⟩:=HT.out;have H1:=t1.below (hb1.mono (by simp):Below (w.heap.size+3) _ w1) (by omega)
 have k1:=Boxed.below t2 (hb1.mono (by simp):Below (w.heap.size+3) _ w1) (by omega)
 have k2:=Boxed.below t3 (hb1.mono (by simp):Below (w.heap.size+3) _ w1) (by omega)
 have B1:=tb.trans (hb1.mono (by simp;omega))
 have z1:w.heap.size+3<=w1.heap.size:=by have:=hb1.size;simp at this;omega
 obtain⟨c0,c1,c2,c3,c4,c5,c6,c7,c8,c9,c10⟩:=Zh (m:=m) (vw:=qS a1 m.ways.length (m.ways.length+G)) (vh:=qS a2 m.home.length (m.home.length+H)) (vr:=qS a3 m.rocks.length (m.rocks.length+C)) H1;have HK:=qH (qI k1 (qI k2 (qI B1 H1)));clear hb1 k1 k2 t1 t2 t3 tb B1 H1;go_wp2_with fail;refine (hse.out _ ((HM.out.1.below HK.out.2.2.1).mono HK.out.2.2.1.size) ((HL.out.below HK.out.2.2.1).mono HK.out.2.2.1.size)).mono ?_;rintro e p (⟨h0,_⟩ | ⟨_,bm,rfl,hS,hsz,hb2⟩)
 ·exact absurd h0 (by rw [HV.out.2];simp)
 obtain⟨k1,k2,B1,H1⟩:=HK.out;have k1:=Boxed.below k1 hb2 (by omega)
 have k2:=Boxed.below k2 hb2 (by omega)
 have H2:=H1.below hb2 H1.lt;have B2:=B1.trans (hb2.mono B1.size);have z2:w.heap.size+3<=p.heap.size:=Nat.le_trans z1 hb2.size;clear c0 c1 c2 c3 c4 c5 c6 c7 c8 c9 c10 HK;obtain⟨c0,c1,c2,c3,c4,c5,c6,c7,c8,c9,c10⟩:=Zh (m:=m) (vw:=qS a1 m.ways.length (m.ways.length+G)) (vh:=qS a2 m.home.length (m.home.length+H)) (vr:=qS a3 m.rocks.length (m.rocks.length+C)) H2;have HK:=qH (qI k1 (qI k2 (qI B2 hS)));clear hb2 k1 k2 B1 B2 H1 H2 hS hsz;go_wp2_with (go_at_call 92;refine (hwy.out _ _).mono ?_;rintro e w3 ⟨rfl,rfl⟩);generalize hW0:qV (qV p _) _=W0;have hz0:W0.heap.size=p.heap.size+2:=by rw [<- hW0];simp
 have hB0:Below p.heap.size p W0:=by rw [<- hW0];exact ((qK _ p).alloc (qN _) _).alloc (by first | omega | (simp;done) | (simp;omega)) _
 obtain⟨k1,k2,B2,hS⟩:=HK.out;have bT:=Boxed.below k1 hB0 (by omega)
 have bE:=Boxed.below k2 hB0 (by omega)
 have hBw:Below w.heap.size w W0:=B2.trans (hB0.mono (by omega))
 have bM:Has W0 p.heap.size #[qS a1 m.ways.length (m.ways.length+G),qS a2 m.home.length (m.home.length+H),O qL m.start,qS a3 m.rocks.length (m.rocks.length+C),O qL m.speed,O qL m.part,O qL m.flow,O qL m.idle,O qL m.drive,O qL m.battery,O qL m.deadline] 26:=by
  rw [<- hW0];exact (Has.new p _ _).below ((qK (p.heap.size+1) _).alloc (by simp) _) (by omega)
 have bS:Boxed W0 (p.heap.size+1) 148 (.map (some bm)):=by
  rw [<- hW0];have:=Boxed.new (p.alloc (qC #[qS a1 m.ways.length (m.ways.length+G),qS a2 m.home.length (m.home.length+H),O qL m.start,qS a3 m.rocks.length (m.rocks.length+C),O qL m.speed,O qL m.part,O qL m.flow,O qL m.idle,O qL m.drive,O qL m.battery,O qL m.deadline] 26)) 148 (.map (some bm))
  rwa [World.size_alloc] at this
 have hset:SetAt W0 bm l:=hS.block (hB0.block bm hS.lt);have hlt:=hset.lt;have hmW:MsnAt w.heap.size W0 m _ _ _:=HM.out.below hBw;have hbm:bm<p.heap.size:=hS.lt;have hsb:bm≠w.heap.size+1/\bm≠w.heap.size+1+1:=by
  obtain⟨_,_,⟨es,clock,h0,_⟩,_⟩:=hS;exact⟨fun e=>(by rw [e,show p.heap[w.heap.size+1]?=_ from k1] at h0;cases h0),fun e=>(by rw [e,show p.heap[w.heap.size+1+1]?=_ from k2] at h0;cases h0)⟩
 clear hW0 c0 c1 c2 c3 c4 c5 c6 c7 c8 c9 c10 k1 k2 B2 hS HK;refine (wpIn_wide (n:=9)).1 ?_;refine Z2s (by omega) (gf:=148) (lb:=#[qP (some ⟨p.heap.size,0,none⟩),qP (some ⟨p.heap.size+1,0,none⟩)]) rfl (enters_of Tryz.func148 (by kernel_rfl) rfl)
  (Z9y 8 (by omega) (fun B b=>(b<p.heap.size+2/\b≠w.heap.size+1/\b≠w.heap.size+1+1)\/b=B) m _ _ _ l p.heap.size (p.heap.size+1) bm w.heap.size W0 HV.out.1 hmW hBw.size hset bM bS (fun _=>.inr rfl) (fun _=>.inl ⟨by omega,by omega,by omega⟩) (fun _=>.inl ⟨by omega,by omega,by omega⟩) (fun _=>.inl ⟨by omega,hsb.1,hsb.2⟩) (fun _ b hb=>.inl ⟨by omega,by omega,by omega⟩))
  (fun h k=>KeepsP.trans h k) ?hKb (qK _ _) (fun _=>rfl)
  (fun a W=>(∃ Q V,Boxed W (w.heap.size+1) 29 Q/\Boxed W (w.heap.size+1+1) 29 V/\W.ownsRow (p.heap.size+5) 3 1 Q a.length (a.map (bL m l))/\W.ownsRow (p.heap.size+5) 3 1 V a.length (a.map (aL m l))/\(Q.ownBlock=none\/Q.ownBlock≠V.ownBlock))/\Below w.heap.size w W)
  (fun _ _ _=>False) ?hI (fun _=>OwnM.pure (fun _=>False)) ⟨⟨_,_,bT,bE,World.ownsRow_nil _ _ _ _,World.ownsRow_nil _ _ _ _,.inl rfl⟩,hBw⟩
  (fun x a' W=>∃ Bc,a'={ tmps:=#[.agg #[qS a1 m.ways.length (m.ways.length+G),qS a2 m.home.length (m.home.length+H),O qL m.start,qS a3 m.rocks.length (m.rocks.length+C),O qL m.speed,O qL m.part,O qL m.flow,O qL m.idle,O qL m.drive,O qL m.battery,O qL m.deadline],qS al l.length (l.length+capl),qP (some ⟨w.heap.size,0,none⟩),undef,qP (some ⟨w.heap.size+1,0,none⟩),qP (some ⟨w.heap.size+1+1,0,none⟩),O qL 0,.map (some bm),.bool true,qP (some ⟨Bc,0,none⟩),.agg #[qS a1 m.ways.length (m.ways.length+G),qS a2 m.home.length (m.home.length+H),O qL m.start,qS a3 m.rocks.length (m.rocks.length+C),O qL m.speed,O qL m.part,O qL m.flow,O qL m.idle,O qL m.drive,O qL m.battery,O qL m.deadline],.bool true,.bool false,qT #[.map (some bm),.bool true],.agg #[qS a1 m.ways.length (m.ways.length+G),qS a2 m.home.length (m.home.length+H),O qL m.start,qS a3 m.rocks.length (m.rocks.length+C),O qL m.speed,O qL m.part,O qL m.flow,O qL m.idle,O qL m.drive,O qL m.battery,O qL m.deadline],qS al l.length (l.length+capl),qT #[.map (some bm),.bool true],.map (some bm),.bool true,.bool true,.bool false,.agg #[qS a1 m.ways.length (m.ways.length+G),qS a2 m.home.length (m.home.length+H),O qL m.start,qS a3 m.rocks.length (m.rocks.length+C),O qL m.speed,O qL m.part,O qL m.flow,O qL m.idle,O qL m.drive,O qL m.battery,O qL m.deadline],.map (some bm),.func (.func 148) #[] #[qP (some ⟨p.heap.size,0,none⟩),qP (some ⟨p.heap.size+1,0,none⟩)],.agg #[O qL (rdB m l x),O qL (rdA m l x)],undef,undef,undef,undef,undef,undef,undef,undef,undef,undef,undef,undef],defers:=[] }/\W.heap[Bc]?=some (qC #[bL m l x,aL m l x] 155 (0,0))/\p.heap.size+5<=Bc)
  ?hAx ?assign ?body ?done ?stop
 case hKb=>exact fun W o o' _ _=>⟨by simp,fun b hb=>World.putObj_heap_other (by rcases hb with⟨h,_⟩ | h <;> omega)⟩
 case hI =>
  refine OwnM.and ?_ (OwnM.below w (qN _) (by omega) (fun r hr=>by omega))
  rintro s X Y row ⟨Q,V,y,u,r1,r2,f⟩ hg hrow;have off:∀ {b:Nat} {t:TypeId} {v:Value},Boxed X b t v->b<W0.heap.size->some b≠row:=fun {b t v} hb hlt e'=>by
   obtain⟨o,ho,S⟩:=hrow _ e'.symm;rcases S with⟨_,S⟩ | ⟨S,_⟩
   ·omega
   ·rw [show X.heap[b]?=_ from hb] at ho;cases ho;cases S
  have offr:∀ {v:Value} {n:Nat} {xs:List Value},X.ownsRow (p.heap.size+5) 3 1 v n xs->v.ownBlock=none\/v.ownBlock≠row:=fun {v n xs} hr=>by
   rcases hr.2 with⟨rfl,_⟩ | ⟨g,cap,cur,rfl,hbg,hgb,_⟩
   ·exact .inl rfl
   ·refine .inr fun e'=>?_
    obtain⟨o,ho,S⟩:=hrow g (by simpa [Value.ownBlock] using e'.symm)
    rcases S with⟨_,S⟩ | ⟨S,_⟩
    ·omega
    ·rw [hgb] at ho;cases ho;cases S
  exact⟨Q,V,y.kept hg (off y (by omega)),u.kept hg (off u (by omega)),r1.kept hg (offr r1),r2.kept hg (offr r2),f⟩
 case hAx =>
  rintro x a' s X Y row ⟨Bc,rfl,S,hBc⟩ hg hrow;refine⟨Bc,rfl,(hg.block Bc (Array.getElem?_eq_some_iff.1 S).1 fun e'=>?_).trans S,hBc⟩
  obtain⟨o,ho,h⟩:=hrow _ e'.symm;rcases h with⟨_,h⟩ | ⟨h,_⟩
  ·omega
  ·rw [S] at ho;cases ho;cases h
 case assign =>
  rintro ll a x W K hi hsz hK;have hc0:=Has.new W #[bL m l x,aL m l x] 155;obtain⟨⟨Q,V,y,u,r1,r2,f⟩,q⟩:=hi;have hI:=qH (qI (⟨Q,V,y.alloc (qC #[bL m l x,aL m l x] 155),u.alloc _,r1.alloc _,r2.alloc _,f⟩:∃ Q V,Boxed (W.alloc (qC #[bL m l x,aL m l x] 155)) (w.heap.size+1) 29 Q/\Boxed (W.alloc (qC #[bL m l x,aL m l x] 155)) (w.heap.size+1+1) 29 V/\(W.alloc (qC #[bL m l x,aL m l x] 155)).ownsRow (p.heap.size+5) 3 1 Q a.length (a.map (bL m l))/\(W.alloc (qC #[bL m l x,aL m l x] 155)).ownsRow (p.heap.size+5) 3 1 V a.length (a.map (aL m l))/\(Q.ownBlock=none\/Q.ownBlock≠V.ownBlock)) (q.trans (((qK w.heap.size W).alloc q.size (qC #[bL m l x,aL m l x] 155)))));have HC:=qH hc0;clear y u r1 r2 f q hc0;unfold encR;gi_wp2;exact hK _ _ ((KeepsOthers.alloc W _).from _) ⟨by simp,fun b hb=>Below.heap_alloc _ _ _ (by rcases hb with⟨h,_⟩ | h <;> omega)⟩ hI.out ⟨_,rfl,HC.out,by omega⟩
 case body =>
  rintro ll a x a' W hll ⟨r,hr⟩ ⟨⟨Q,V,y,u,r1,r2,f⟩,q⟩ ⟨Bc,rfl,S,hBc⟩ hlt hsz;have hn:a.length<=100:=by omega
  have hTW:=(Two.refl r1 r2 f).grow (X':=W.drew) ⟨rfl,rfl,rfl,qN _,fun _ _ _=>rfl⟩
  have hclt:=(Array.getElem?_eq_some_iff.1 S).1;have hcr:∀ {v:Value} {n:Nat} {xs:List Value},W.ownsRow (p.heap.size+5) 3 1 v n xs->some Bc≠v.ownBlock:=fun {v n xs} hr e'=>by
   rcases hr.2 with⟨rfl,_⟩ | ⟨g,cap,cur,rfl,_,hg,_⟩
   ·simp [Value.ownBlock] at e'
   ·obtain rfl:Bc=g:=by simpa [Value.ownBlock] using e'
    rw [S] at hg;cases hg
  have hc1:=hcr r1;have hc2:=hcr r2;simp only [bL,aL] at S;have SS:Hid (∀ (X:World) (u1 u2:Value) (n1 n2:Nat) (l1 l2:List Value),Two (p.heap.size+5) 3 W X Q V u1 u2 n1 n2 l1 l2->Boxed X (w.heap.size+1) 29 Q/\Boxed X (w.heap.size+1+1) 29 V/\X.heap[Bc]?=some (qC #[O qL (rdB m l x),O qL (rdA m l x)] 155 (0,0))):=fun X u1 u2 n1 n2 l1 l2 h =>
   ⟨(h.keep _ (by omega) (Zx r1 (by omega)) (Zx r2 (by omega))).trans y,(h.keep _ (by omega) (Zx r1 (by omega)) (Zx r2 (by omega))).trans u,(h.keep _ hclt hc1 hc2).trans S⟩
  have HR:=qH (qI r1 (qI r2 (qI y (qI u q))));have A:p.heap.size+5<=W.heap.size:=by omega
  have HT:=qH hTW;obtain⟨i0,hi,L,M,J⟩:=info_parts intInfo;clear r1 r2 y u q f hTW S hcr hc1 hc2 hr;gi_wp2;refine Zi (ZT _ _) 10 (fun X=>Boxed X (w.heap.size+1) 29 Q/\Boxed X (w.heap.size+1+1) 29 V/\X.heap[Bc]?=some (qC #[O qL (rdB m l x),O qL (rdA m l x)] 155 (0,0))) (by kernel_rfl) (by kernel_rfl) (by kernel_rfl) fun hH inv0=>?_
  refine sk hH 0 Q (Zd rfl) inv0 (fun X hX=>?_) fun inv1=>?_
  ·have hx:=hX.1.cell;go_simp
  simp only [pT];refine sk hH 1 (qP (some ⟨Bc,0,none⟩)) (Zd rfl) inv1 (fun X hX=>?_) fun inv2=>?_
  ·go_simp
  simp only [pT];refine sk hH 2 (O qL (rdB m l x)) (Zd rfl) inv2 (fun X hX=>?_) fun inv3=>?_
  ·have hx:=Zl hX.2.2 (i:=0) rfl;go_simp
  simp only [pT];refine sk hH 5 V (Zd rfl) inv3 (fun X hX=>?_) fun inv4=>?_
  ·have hx:=hX.2.1.cell;go_simp
  simp only [pT];refine sk hH 6 (qP (some ⟨Bc,1,none⟩)) (Zd rfl) inv4 (fun X hX=>?_) fun inv5=>?_
  ·go_simp
  simp only [pT];refine sk hH 7 (O qL (rdA m l x)) (Zd rfl) inv5 (fun X hX=>?_) fun inv6=>?_
  ·have hx:=Zl hX.2.2 (i:=1) rfl;go_simp
  simp only [pT];clear inv0 inv1 inv2 inv3 inv4 inv5 inv6 hH;generalize hTx:rdB m l x=T at *;generalize hEx:rdA m l x=E at *;generalize W.drew=X0 at *;have d:=HT.out;clear HT;refine Zw (rs:=[3,8]) (by kernel_rfl) (by simp) (SS.out _ _ _ _ _ _ _ d) (by simp) (fun i hi'=>?_)
  simp only [List.mem_cons,List.not_mem_nil,or_false] at hi';rcases hi' with rfl | rfl
  ·refine ZC (Zd rfl) rfl (v:=qS (some ⟨X0.heap.size,0,none⟩) 1 1) (w':=X0.alloc (qC #[O qL T] 3)) (by go_simp) ?_
   simp only [pT];have b3:=Boxed.new X0 3 (O qL T);have zs3:W.heap.size<=X0.heap.size:=d.size;replace d:=d.alloc (qC #[O qL T] 3);generalize X0.alloc (qC #[O qL T] 3)=X1 at *;generalize X0.heap.size=s3 at *;refine Zw (rs:=[4,8]) (by kernel_rfl) (by simp) (SS.out _ _ _ _ _ _ _ d) (by simp) (fun i hi'=>?_)
   simp only [List.mem_cons,List.not_mem_nil,or_false] at hi';rcases hi' with rfl | rfl
   ·refine ZA (Zd rfl) rfl (.tmp 25) (.tmp 28) 29 rfl (p.heap.size+5) 3 i0 (.int .i64 0) 1 8 Tryz.underlying29 hi L M J rfl (by decide) _ _ _ rfl d.r1 ⟨s3,0,none⟩ 1 1 [.int .i64 T] rfl rfl (ZL b3) (by simp [Value.oneCell']) (by unfold maxLen;omega) (by omega) (Nat.le_trans A d.size) ?_
    intro u1 X2 hr1 hg1 ho1;simp only [pT];replace d:=d.app1 hg1 hr1 ho1;obtain⟨g1,cp1,rfl⟩:=ownsRow_succ hr1;clear hg1 hr1 ho1 b3;refine Zw (rs:=[8]) (by kernel_rfl) (by simp) (SS.out _ _ _ _ _ _ _ d) (by simp) (fun i hi'=>?_)
    simp only [List.mem_cons,List.not_mem_nil,or_false] at hi';subst hi';refine ZC (Zd rfl) rfl (v:=qS (some ⟨X2.heap.size,0,none⟩) 1 1) (w':=X2.alloc (qC #[O qL E] 3)) (by go_simp) ?_
    simp only [pT];have b8:=Boxed.new X2 3 (O qL E);have zs8:W.heap.size<=X2.heap.size:=d.size;replace d:=d.alloc (qC #[O qL E] 3);generalize X2.alloc (qC #[O qL E] 3)=X3 at *;generalize X2.heap.size=s8 at *;refine Zw (rs:=[9]) (by kernel_rfl) (by simp) (SS.out _ _ _ _ _ _ _ d) (by simp) (fun i hi'=>?_)
    simp only [List.mem_cons,List.not_mem_nil,or_false] at hi';subst hi';refine ZA (Zd rfl) rfl (.tmp 30) (.tmp 33) 29 rfl (p.heap.size+5) 3 i0 (.int .i64 0) 1 8 Tryz.underlying29 hi L M J rfl (by decide) _ _ _ rfl d.r2 ⟨s8,0,none⟩ 1 1 [.int .i64 E] rfl rfl (ZL b8) (by simp [Value.oneCell']) (by unfold maxLen;omega) (by omega) (Nat.le_trans A d.size) ?_
    intro u2 X4 hr2 z ho2;simp only [pT];replace d:=d.app2 z hr2 ho2;obtain⟨g2,cp2,rfl⟩:=ownsRow_succ hr2;clear z hr2 ho2 b8;refine Zj (by kernel_rfl) (SS.out _ _ _ _ _ _ _ d) ?_
    simp only [List.drop_succ_cons,List.drop_zero];obtain⟨r1,r2,y,u,q⟩:=HR.out;obtain⟨_,⟨P,U⟩,⟨N,R⟩,Z,q8,I⟩:=d.store (t:=29) r1 r2 y u (by omega) (by omega) (by omega)
    obtain⟨p1,p2,_⟩:=SS.out _ _ _ _ _ _ _ d;have x1:=p1.cell;have y1:=p1.frozen;have x2:=p2.cell;have y2:=p2.frozen;have HQ:=qH (qI P (qI U (qI N (qI R (qI Z (qI q8 (qI I (qI d.ne (qI r1 (qI r2 q))))))))));clear P U N R Z q8 I r1 r2 y u q p1 p2 d;gi_wp2;obtain⟨P,U,N,R,Z,q8,I,f,r1,r2,q⟩:=HQ.out;refine⟨Z.from _,⟨I.1,fun b hb=>?_⟩,⟨_,_,P,U,?_,?_,f⟩,q.trans (q8 _ (by omega) (by omega) (by omega))⟩
    ·rcases hb with⟨b1,b2,b3⟩ | b1
     ·exact I.2 b (by omega) b2 b3 (Zx r1 (by omega)) (Zx r2 (by omega))
     ·exact I.2 b (by omega) (by omega) (by omega) (Zx r1 (by omega)) (Zx r2 (by omega))
    ·rw [show (a++[x]).length=a.length+1 by simp,show (a++[x]).map (bL m l)=a.map (bL m l)++[O qL T] by rw [<- hTx];simp [bL]]
     exact N
    ·rw [show (a++[x]).length=a.length+1 by simp,show (a++[x]).map (aL m l)=a.map (aL m l)++[O qL E] by rw [<- hEx];simp [aL]]
     exact R
   ·refine ZC (Zd rfl) rfl (v:=qS (some ⟨X1.heap.size,0,none⟩) 1 1) (w':=X1.alloc (qC #[O qL E] 3)) (by go_simp) ?_
    simp only [pT];have b8:=Boxed.new X1 3 (O qL E);have zs8:W.heap.size<=X1.heap.size:=d.size;have b3:=b3.alloc (qC #[O qL E] 3);replace d:=d.alloc (qC #[O qL E] 3);generalize X1.alloc (qC #[O qL E] 3)=X2 at *;generalize X1.heap.size=s8 at *;refine Zw (rs:=[4]) (by kernel_rfl) (by simp) (SS.out _ _ _ _ _ _ _ d) (by simp) (fun i hi'=>?_)
    simp only [List.mem_cons,List.not_mem_nil,or_false] at hi';subst hi';refine ZA (Zd rfl) rfl (.tmp 25) (.tmp 28) 29 rfl (p.heap.size+5) 3 i0 (.int .i64 0) 1 8 Tryz.underlying29 hi L M J rfl (by decide) _ _ _ rfl d.r1 ⟨s3,0,none⟩ 1 1 [.int .i64 T] rfl rfl (ZL b3) (by simp [Value.oneCell']) (by unfold maxLen;omega) (by omega) (Nat.le_trans A d.size) ?_
    intro u1 X3 hr1 hg1 ho1;simp only [pT];have b8:=b8.kept hg1 (fun e'=>by have:=(HR.out.1.lt _ e'.symm).2;omega)
    replace d:=d.app1 hg1 hr1 ho1;obtain⟨g1,cp1,rfl⟩:=ownsRow_succ hr1;clear hg1 hr1 ho1 b3;refine Zw (rs:=[9]) (by kernel_rfl) (by simp) (SS.out _ _ _ _ _ _ _ d) (by simp) (fun i hi'=>?_)
    simp only [List.mem_cons,List.not_mem_nil,or_false] at hi';subst hi';refine ZA (Zd rfl) rfl (.tmp 30) (.tmp 33) 29 rfl (p.heap.size+5) 3 i0 (.int .i64 0) 1 8 Tryz.underlying29 hi L M J rfl (by decide) _ _ _ rfl d.r2 ⟨s8,0,none⟩ 1 1 [.int .i64 E] rfl rfl (ZL b8) (by simp [Value.oneCell']) (by unfold maxLen;omega) (by omega) (Nat.le_trans A d.size) ?_
    intro u2 X4 hr2 z ho2;simp only [pT];replace d:=d.app2 z hr2 ho2;obtain⟨g2,cp2,rfl⟩:=ownsRow_succ hr2;clear z hr2 ho2 b8;refine Zj (by kernel_rfl) (SS.out _ _ _ _ _ _ _ d) ?_
    simp only [List.drop_succ_cons,List.drop_zero];obtain⟨r1,r2,y,u,q⟩:=HR.out;obtain⟨_,⟨P,U⟩,⟨N,R⟩,Z,q8,I⟩:=d.store (t:=29) r1 r2 y u (by omega) (by omega) (by omega)
    obtain⟨p1,p2,_⟩:=SS.out _ _ _ _ _ _ _ d;have x1:=p1.cell;have y1:=p1.frozen;have x2:=p2.cell;have y2:=p2.frozen;have HQ:=qH (qI P (qI U (qI N (qI R (qI Z (qI q8 (qI I (qI d.ne (qI r1 (qI r2 q))))))))));clear P U N R Z q8 I r1 r2 y u q p1 p2 d;gi_wp2;obtain⟨P,U,N,R,Z,q8,I,f,r1,r2,q⟩:=HQ.out;refine⟨Z.from _,⟨I.1,fun b hb=>?_⟩,⟨_,_,P,U,?_,?_,f⟩,q.trans (q8 _ (by omega) (by omega) (by omega))⟩
    ·rcases hb with⟨b1,b2,b3⟩ | b1
     ·exact I.2 b (by omega) b2 b3 (Zx r1 (by omega)) (Zx r2 (by omega))
     ·exact I.2 b (by omega) (by omega) (by omega) (Zx r1 (by omega)) (Zx r2 (by omega))
    ·rw [show (a++[x]).length=a.length+1 by simp,show (a++[x]).map (bL m l)=a.map (bL m l)++[O qL T] by rw [<- hTx];simp [bL]]
     exact N
    ·rw [show (a++[x]).length=a.length+1 by simp,show (a++[x]).map (aL m l)=a.map (aL m l)++[O qL E] by rw [<- hEx];simp [aL]]
     exact R
  ·refine ZC (Zd rfl) rfl (v:=qS (some ⟨X0.heap.size,0,none⟩) 1 1) (w':=X0.alloc (qC #[O qL E] 3)) (by go_simp) ?_
   simp only [pT];have b8:=Boxed.new X0 3 (O qL E);have zs8:W.heap.size<=X0.heap.size:=d.size;replace d:=d.alloc (qC #[O qL E] 3);generalize X0.alloc (qC #[O qL E] 3)=X1 at *;generalize X0.heap.size=s8 at *;refine Zw (rs:=[3]) (by kernel_rfl) (by simp) (SS.out _ _ _ _ _ _ _ d) (by simp) (fun i hi'=>?_)
   simp only [List.mem_cons,List.not_mem_nil,or_false] at hi';subst hi';refine ZC (Zd rfl) rfl (v:=qS (some ⟨X1.heap.size,0,none⟩) 1 1) (w':=X1.alloc (qC #[O qL T] 3)) (by go_simp) ?_
   simp only [pT];have b3:=Boxed.new X1 3 (O qL T);have zs3:W.heap.size<=X1.heap.size:=d.size;have b8:=b8.alloc (qC #[O qL T] 3);replace d:=d.alloc (qC #[O qL T] 3);generalize X1.alloc (qC #[O qL T] 3)=X2 at *;generalize X1.heap.size=s3 at *;refine Zw (rs:=[4]) (by kernel_rfl) (by simp) (SS.out _ _ _ _ _ _ _ d) (by simp) (fun i hi'=>?_)
   simp only [List.mem_cons,List.not_mem_nil,or_false] at hi';subst hi';refine ZA (Zd rfl) rfl (.tmp 25) (.tmp 28) 29 rfl (p.heap.size+5) 3 i0 (.int .i64 0) 1 8 Tryz.underlying29 hi L M J rfl (by decide) _ _ _ rfl d.r1 ⟨s3,0,none⟩ 1 1 [.int .i64 T] rfl rfl (ZL b3) (by simp [Value.oneCell']) (by unfold maxLen;omega) (by omega) (Nat.le_trans A d.size) ?_
   intro u1 X3 hr1 hg1 ho1;simp only [pT];have b8:=b8.kept hg1 (fun e'=>by have:=(HR.out.1.lt _ e'.symm).2;omega)
   replace d:=d.app1 hg1 hr1 ho1;obtain⟨g1,cp1,rfl⟩:=ownsRow_succ hr1;clear hg1 hr1 ho1 b3;refine Zw (rs:=[9]) (by kernel_rfl) (by simp) (SS.out _ _ _ _ _ _ _ d) (by simp) (fun i hi'=>?_)
   simp only [List.mem_cons,List.not_mem_nil,or_false] at hi';subst hi';refine ZA (Zd rfl) rfl (.tmp 30) (.tmp 33) 29 rfl (p.heap.size+5) 3 i0 (.int .i64 0) 1 8 Tryz.underlying29 hi L M J rfl (by decide) _ _ _ rfl d.r2 ⟨s8,0,none⟩ 1 1 [.int .i64 E] rfl rfl (ZL b8) (by simp [Value.oneCell']) (by unfold maxLen;omega) (by omega) (Nat.le_trans A d.size) ?_
   intro u2 X4 hr2 z ho2;simp only [pT];replace d:=d.app2 z hr2 ho2;obtain⟨g2,cp2,rfl⟩:=ownsRow_succ hr2;clear z hr2 ho2 b8;refine Zj (by kernel_rfl) (SS.out _ _ _ _ _ _ _ d) ?_
   simp only [List.drop_succ_cons,List.drop_zero];obtain⟨r1,r2,y,u,q⟩:=HR.out;obtain⟨_,⟨P,U⟩,⟨N,R⟩,Z,q8,I⟩:=d.store (t:=29) r1 r2 y u (by omega) (by omega) (by omega)
   obtain⟨p1,p2,_⟩:=SS.out _ _ _ _ _ _ _ d;have x1:=p1.cell;have y1:=p1.frozen;have x2:=p2.cell;have y2:=p2.frozen;have HQ:=qH (qI P (qI U (qI N (qI R (qI Z (qI q8 (qI I (qI d.ne (qI r1 (qI r2 q))))))))));clear P U N R Z q8 I r1 r2 y u q p1 p2 d;gi_wp2;obtain⟨P,U,N,R,Z,q8,I,f,r1,r2,q⟩:=HQ.out;refine⟨Z.from _,⟨I.1,fun b hb=>?_⟩,⟨_,_,P,U,?_,?_,f⟩,q.trans (q8 _ (by omega) (by omega) (by omega))⟩
   ·rcases hb with⟨b1,b2,b3⟩ | b1
    ·exact I.2 b (by omega) b2 b3 (Zx r1 (by omega)) (Zx r2 (by omega))
    ·exact I.2 b (by omega) (by omega) (by omega) (Zx r1 (by omega)) (Zx r2 (by omega))
   ·rw [show (a++[x]).length=a.length+1 by simp,show (a++[x]).map (bL m l)=a.map (bL m l)++[O qL T] by rw [<- hTx];simp [bL]]
    exact N
   ·rw [show (a++[x]).length=a.length+1 by simp,show (a++[x]).map (aL m l)=a.map (aL m l)++[O qL E] by rw [<- hEx];simp [aL]]
    exact R
 case done =>
  rintro D ys W hD rfl ⟨⟨Q,V,y,u,r1,r2,f⟩,q⟩ hK;have e1:(upto id m.ways.length).length=m.ways.length:=Zq _ _;have e2:(upto id m.ways.length).map (bL m l)=(rdBU m l).map (O qL):=by simp [rdBU,upto,bL]
  have e3:(upto id m.ways.length).map (aL m l)=(rdAU m l).map (O qL):=by simp [rdAU,upto,aL]
  rw [e1,e2] at r1;rw [e1,e3] at r2;have g1:(rdBU m l).length<=70368744177663:=by simp [rdBU,upto];omega
  have g2:(rdAU m l).length<=70368744177663:=by simp [rdAU,upto];omega
  obtain⟨_,av1,cv1,hv1,_⟩:=Z8.own r1 g1;obtain⟨_,av2,cv2,hv2,_⟩:=Z8.own r2 g2;subst hv1;subst hv2;have l1:=Low.fact y.cell;have l2:=Low.fact u.cell;have HQ:=qH (qI y (qI u (qI r1 (qI r2 (qI f (qI q (qI hK (qI g1 g2))))))));have hDb:=hBw.size;have hzW:=q.size;clear y u r1 r2 f q hK e1 e2 e3 g1 g2;go_wp2;have hS:Hid (Boxed W (w.heap.size+1) 29 (qS av1 (rdBU m l).length ((rdBU m l).length+cv1))/\Boxed W (w.heap.size+1+1) 29 (qS av2 (rdAU m l).length ((rdAU m l).length+cv2))):=⟨HQ.out.1,HQ.out.2.1⟩;clear l1 l2;generalize hVa:Value.slice av1 (rdBU m l).length ((rdBU m l).length+cv1)=va1 at *;generalize hVb:Value.slice av2 (rdAU m l).length ((rdAU m l).length+cv2)=va2 at *;refine (wpIn_wide (n:=9)).1 ?_;refine Zi (Zk _) 3 (fun X=>Boxed X (w.heap.size+1) 29 va1/\Boxed X (w.heap.size+1+1) 29 va2) (by kernel_rfl) (by kernel_rfl) (by kernel_rfl) fun hH inv0=>?_
  refine sk hH 0 va1 (Zd rfl) inv0 (fun X hX=>?_) fun inv1=>?_
  ·have hx:=hX.1.cell;go_simp
  simp only [pT];refine sk hH 1 va2 (Zd rfl) inv1 (fun X hX=>?_) fun inv2=>?_
  ·have hx:=hX.2.cell;go_simp
  simp only [pT];clear inv0 inv1 inv2 hH;have hSw:Boxed W.drew (w.heap.size+1) 29 va1/\Boxed W.drew (w.heap.size+1+1) 29 va2:=hS.out;have z:W.grownBy W.drew none:=⟨rfl,rfl,rfl,qN _,fun _ _ _=>rfl⟩
  have hwd:Hid (Below W.heap.size W W.drew):=⟨rfl,rfl,rfl,qN _,fun _ _=>rfl⟩
  generalize W.drew=w5 at *;refine sa1 (r:=2) hSw ?_;have x1:=hSw.1.cell;have y1:=hSw.1.frozen;subst hVa;subst hVb;refine Z05 (Zd rfl) rfl (w':=w5.setCell ⟨w.heap.size+1,0,none⟩ (qS av1 (rdBU m l).length ((rdBU m l).length+cv1))) (by go_simp) ?_
  simp only [pT];refine Zj (by kernel_rfl) ⟨hSw.1.set _,hSw.2.other (by omega) _⟩ ?_
  simp only [List.drop_succ_cons,List.drop_zero];obtain⟨y,u,r1,r2,f,q,hK,g1,g2⟩:=HQ.out;have y:=y.kept z (by simp)
  have u:=u.kept z (by simp)
  have r1:=r1.kept z (by cases (Value.slice av1 (rdBU m l).length ((rdBU m l).length+cv1)).ownBlock <;> simp)
  have r2:=r2.kept z (by cases (Value.slice av2 (rdAU m l).length ((rdAU m l).length+cv2)).ownBlock <;> simp)
  have hK2:w5.heap[D]?=some (.deferred (some [])):=(hwd.out.block D (Array.getElem?_eq_some_iff.1 hK).1).trans hK;have hB2:Below w.heap.size w w5:=q.trans (hwd.out.mono q.size);obtain⟨_,⟨P,U⟩,⟨N,R⟩,Z,q8,I⟩:=(Two.refl r1 r2 f).store (t:=29) r1 r2 y u (by omega) (by omega) (by omega)
  have x2:=u.cell;have y2:=u.frozen;have HX:=qH (qI P (qI U (qI N (qI R (qI (Z.same D _ hK2 rfl) (qI (hB2.trans (q8 w.heap.size (by omega) (by omega) (by omega))) (qI g1 g2)))))))
  clear y u r1 r2 f q hK g1 g2 z hK2 hB2 P U N R Z q8 I HQ hSw hS hwd;gi_wp2;generalize qU (qU w5 _ _) _ _=F at *;go_wp2;obtain⟨P,U,N,R,hK,q,g1,g2⟩:=HX.out;have f1:=ownsRow_putObj N (.deferred none) hK rfl;have f2:=ownsRow_putObj R (.deferred none) hK rfl;have b1:=P.kept (grownBy_putObj' F D (.deferred none)) (fun e=>by cases e;omega)
  have b2:=U.kept (grownBy_putObj' F D (.deferred none)) (fun e=>by cases e;omega)
  have x1:=b1.cell;have x2:=b2.cell;have I1:=Z8.own f1 g1;have I2:=Z8.own f2 g2;have hBf:Below w.heap.size w (F.putObj D (.deferred none)):=q.grown (grownBy_putObj' F D _) q.size (fun j e=>by cases e;omega)
  refine⟨by simp,.inl ⟨_,_,rfl,run_takeDeferred hK,?_⟩⟩
  exact⟨qT #[_,_,O qL 0],by simp [results,Tryz.f40,go_sem,x1,x2],_,_,rfl,I1,I2,hBf,fun b o n c e=>by have:=(f1.lt b (by rw [e];rfl)).1;omega,fun b o n c e=>by have:=(f2.lt b (by rw [e];rfl)).1;omega⟩
 case stop=>rintro D c a W _ _ hf;exact hf.elim
theorem Z9x (m:Msn) (vw vh vr vl:Value) (l:List Int) (w:World) (hm:MsnAt w.heap.size w m vw vh vr) (hl:Z8 w.heap.size w vl l) (hV:validB m=true) (hst:stopsB m l=true) :
  Calls Tryz.prog 40 #[.agg (Zc m vw vh vr),vl] w (UsedQ (rdBU m l) (rdAU m l) 0 w) :=
 (Z26 m vw vh vr vl l w hm hl hV hst).mono fun _ _ h=>h.used
theorem Z3w (m:Msn) (vw vh vr vl:Value) (l:List Int) (w:World) (hm:MsnAt w.heap.size w m vw vh vr) (hl:Z8 w.heap.size w vl l) :
  Calls Tryz.prog 40 #[.agg (Zc m vw vh vr),vl] w (UsedQ (rdBL m l) (rdAL m l) (rdE m l) w):=by
 cases h:radOkB m l
 ·simp only [rdBL,rdAL,rdE,h,Bool.false_eq_true,if_false]
  exact Zbu m vw vh vr vl l w hm hl h
 ·simp only [rdBL,rdAL,rdE,h,if_true]
  have a:validB m=true/\stopsB m l=true:=by simpa [radOkB] using h
  exact Z9x m vw vh vr vl l w hm hl a.1 a.2
end
section
attribute [local irreducible] wpQuiet
open Go.RowKit
def tripCells (m:Msn) (vw vh vr vb va vt ve:Value):Array Value:=#[vw,vh,O qL m.start,vr,O qL m.speed,O qL m.part,O qL m.flow,O qL m.idle,O qL m.drive,O qL m.battery,O qL m.deadline,vb,va,vt,ve]
def trip0:Array Value:=#[qS none 0 0,qS none 0 0,O qL 0,qS none 0 0,O qL 0,O qL 0,O qL 0,O qL 0,O qL 0,O qL 0,O qL 0,qS none 0 0,qS none 0 0,qS none 0 0,qS none 0 0]
theorem set15 {X Z:World} {B:Nat} {cs:Array Value} {T:TypeId} {v0 v1 v2 v3 v4 v5 v6 v7 v8 v9 v10 v11 v12 v13 v14:Value} (H:Has X B cs T) (hs:cs.size=15) (hz:(((((((((((((((X.setCell ⟨B,0,none⟩ v0).setCell ⟨B,1,none⟩ v1).setCell ⟨B,2,none⟩ v2).setCell ⟨B,3,none⟩ v3).setCell ⟨B,4,none⟩ v4).setCell ⟨B,5,none⟩ v5).setCell ⟨B,6,none⟩ v6).setCell ⟨B,7,none⟩ v7).setCell ⟨B,8,none⟩ v8).setCell ⟨B,9,none⟩ v9).setCell ⟨B,10,none⟩ v10).setCell ⟨B,11,none⟩ v11).setCell ⟨B,12,none⟩ v12).setCell ⟨B,13,none⟩ v13).setCell ⟨B,14,none⟩ v14)=Z) :
  Has Z B #[v0,v1,v2,v3,v4,v5,v6,v7,v8,v9,v10,v11,v12,v13,v14] T/\(∀ n,n<=B->Below n X Z)/\Z.heap.size=X.heap.size/\∀ b,b≠B->Z.heap[b]?=X.heap[b]?:=by
 subst hz;obtain⟨l,rfl⟩:∃ l:List Value,cs=l.toArray:=⟨cs.toList,by simp⟩
 obtain⟨s,q,k,g,t,r,j,m,o,u,e,a,c,d,f,rfl⟩:∃ s q k g t r j m o u e a c d f,l=[s,q,k,g,t,r,j,m,o,u,e,a,c,d,f]:=by
  match l,hs with
  | [s,q,k,g,t,r,j,m,o,u,e,a,c,d,f],_=>exact⟨_,_,_,_,_,_,_,_,_,_,_,_,_,_,_,rfl⟩
 refine⟨?_,fun n hn=>?_,by simp,fun b hb=>?_⟩
 ·have:=(((((((((((((((H.set 0 v0).set 1 v1).set 2 v2).set 3 v3).set 4 v4).set 5 v5).set 6 v6).set 7 v7).set 8 v8).set 9 v9).set 10 v10).set 11 v11).set 12 v12).set 13 v13).set 14 v14)
  simpa only [zq4,zr4,zs4] using this
 ·exact ((((((((((((((((qK n X).setCell (p:=⟨B,0,none⟩) hn v0).setCell (p:=⟨B,1,none⟩) hn v1).setCell (p:=⟨B,2,none⟩) hn v2).setCell (p:=⟨B,3,none⟩) hn v3).setCell (p:=⟨B,4,none⟩) hn v4).setCell (p:=⟨B,5,none⟩) hn v5).setCell (p:=⟨B,6,none⟩) hn v6).setCell (p:=⟨B,7,none⟩) hn v7).setCell (p:=⟨B,8,none⟩) hn v8).setCell (p:=⟨B,9,none⟩) hn v9).setCell (p:=⟨B,10,none⟩) hn v10).setCell (p:=⟨B,11,none⟩) hn v11).setCell (p:=⟨B,12,none⟩) hn v12).setCell (p:=⟨B,13,none⟩) hn v13).setCell (p:=⟨B,14,none⟩) hn v14)
 ·iterate 15 (rw [Below.heap_setCell _ _ _ _ (by exact hb)])
theorem Z8.offB {W Z:World} {v:Value} {l:List Int} {base B:Nat} (h:Z8 W.heap.size W v l) (hn:NewI base v) (hB:B<base) (hz:Z.heap.size=W.heap.size) (hq:∀ b,b≠B->Z.heap[b]?=W.heap[b]?):Z8 Z.heap.size Z v l:=by
 obtain⟨g,a,d,e,c⟩:=h;refine⟨g,a,d,e,c.imp id ?_⟩;rintro ⟨b,o,f,m,c⟩;have k:base<=b:=hn b o _ _ (by rw [e,f])
 exact⟨b,o,f,by omega,fun j hj=>by rw [World.cell?_of_block (hq b (by omega))];exact c j hj⟩
theorem set2 {X Z:World} {B i j:Nat} {cs:Array Value} {T:TypeId} {u v:Value} (H:Has X B cs T) (hz:(X.setCell ⟨B,i,none⟩ u).setCell ⟨B,j,none⟩ v=Z) :
  Has Z B ((cs.setIfInBounds i u).setIfInBounds j v) T/\(∀ n,n<=B->Below n X Z)/\Z.heap.size=X.heap.size/\∀ b,b≠B->Z.heap[b]?=X.heap[b]?:=by
 subst hz;refine⟨(H.set i u).set j v,fun n hn=>((qK n X).setCell (p:=⟨B,i,none⟩) hn u).setCell (p:=⟨B,j,none⟩) hn v,by simp,fun b hb=>?_⟩
 rw [Below.heap_setCell _ _ _ _ (by exact hb),Below.heap_setCell _ _ _ _ (by exact hb)]
theorem Has.eq {X Z:World} {B:Nat} {cs:Array Value} {T:TypeId} (H:Has X B cs T) {C:Nat} (h:∀ b,b≠C->Z.heap[b]?=X.heap[b]?) (hne:B≠C):Has Z B cs T:=(h B hne).trans H
theorem ZcD (m:Msn) (vw vh vr vl:Value) (l:List Int) (w:World) (hm:MsnAt w.heap.size w m vw vh vr) (hl:Z8 w.heap.size w vl l) (hok:radOkB m l=false) :
  Calls Tryz.prog 38 #[.agg (Zc m vw vh vr),vl] w fun e w'=>e=.returned (qT #[.agg trip0,O qL 1])/\Below w.heap.size w w':=by
 have s:=fun r (B:Below w.heap.size w r)=>Z3w m vw vh vr vl l r ((hm.below B).mono B.size) ((hl.below B).mono B.size)
 rw [show rdBL m l=[] by simp [rdBL,hok],show rdAL m l=[] by simp [rdAL,hok],show rdE m l=1 by simp [rdE,hok]] at s
 obtain⟨⟨-,a1,cap1,rfl,-⟩,⟨-,a2,aa,rfl,-⟩,⟨-,a3,Y,rfl,-⟩⟩:=hm;obtain⟨-,al,W,rfl,-⟩:=hl;unfold Zc at *;replace s:=qH s;clear hok;have p:=qH (qK w.heap.size w);go_enter Tryz.func38,Tryz.ntmps38;go_wp2_with fail;generalize c:qV (qV (qV w _) _) _=X0;obtain⟨U,q,q2,V,hzX0⟩:=box3 c;clear c;have p:=qH V;clear V;have MB:=qH U;clear U;have RV:=qH q;clear q;have TB:=qH q2;clear q2;obtain⟨c0,c1,c2,c3,c4,c5,c6,c7,c8,c9,G⟩:=Zh (m:=m) MB.out;refine (s.out _ p.out).mono ?_;rintro e r ⟨v1,u1,rfl,p1,q,F⟩;replace p:=zAd p F;have d:=qH F;clear F;obtain⟨-,g1,k1,x,-⟩:=p1;subst x;obtain⟨-,g2,k2,S,-⟩:=q;subst S;clear c0 c1 c2 c3 c4 c5 c6 c7 c8 c9 G;have o:=(zCj TB d);have a:=(zCj RV d);have s11:=cX 11 o rfl;have s12:=cX 12 o rfl;have y11:=Ze o 11;have y12:=Ze o 12;have M:=cX 0 a rfl;have z0:=Ze a 0;have y:=cX 1 a rfl;have z1:=Ze a 1;have R:=cX 2 a rfl;have z2:=Ze a 2;have L:=cX 3 a rfl;have z3:=Ze a 3;have z:=cX 4 a rfl;have z4:=Ze a 4;have t:=cX 5 a rfl;have z5:=Ze a 5;have H:=cX 6 a rfl;have z6:=Ze a 6;have J:=cX 7 a rfl;have z7:=Ze a 7;have N:=cX 8 a rfl;have z8:=Ze a 8;have P:=cX 9 a rfl;have z9:=Ze a 9;have n:=cX 10 a rfl;have K:=Ze a 10;have k:=cX 11 a rfl;have Q:=Ze a 11;have j:=cX 12 a rfl;have D:=Ze a 12;have f:=cX 13 a rfl;have A:=Ze a 13;have g:=cX 14 a rfl;have E:=Ze a 14;have HK:=qH (qI a o);clear a o;go_wp2;generalize T:qU (qU r _ _) _ _=X at *;obtain⟨-,u,hs1,C⟩:=set2 HK.out.2 T;have a:=HK.out.1.eq C (by omega)
 have BX:=p.out.trans (u _ (by omega))
 generalize hZ:qU (qU (qU (qU (qU (qU (qU (qU (qU (qU (qU (qU (qU (qU (qU X _ _) _ _) _ _) _ _) _ _) _ _) _ _) _ _) _ _) _ _) _ _) _ _) _ _) _ _) _ _=Z at *;obtain⟨b,I,hs2,he2⟩:=set15 a rfl hZ;have BZ:=BX.trans (I _ (by omega))
 clear M z0 y z1 R z2 L z3 z z4 t z5 H z6 J z7 N z8 P z9 n K k Q j D f A g E T hZ;have M:=cX 0 b rfl;have y:=cX 1 b rfl;have R:=cX 2 b rfl;have L:=cX 3 b rfl;have z:=cX 4 b rfl;have t:=cX 5 b rfl;have H:=cX 6 b rfl;have J:=cX 7 b rfl;have N:=cX 8 b rfl;have P:=cX 9 b rfl;have n:=cX 10 b rfl;have k:=cX 11 b rfl;have j:=cX 12 b rfl;have f:=cX 13 b rfl;have g:=cX 14 b rfl;refine bodyPost_ret (v:=qT #[.agg trip0,O qL 1]) (by simp [results,trip0,Tryz.f38,go_sem,M,y,R,L,z,t,H,J,N,P,n,k,j,f,g]) rfl ⟨rfl,BZ⟩
theorem Zbi (m:Msn) (vw vh vr vl:Value) (l:List Int) (w:World) (hm:MsnAt w.heap.size w m vw vh vr) (hl:Z8 w.heap.size w vl l) (hok:radOkB m l=true) :
  Calls Tryz.prog 38 #[.agg (Zc m vw vh vr),vl] w fun e w'=>∃ vb va vt ve,e=.returned (qT #[.agg (tripCells m vw vh vr vb va vt ve),O qL 0]) /\
   (Z8 w'.heap.size w' vb (rdBU m l)/\Z8 w'.heap.size w' va (rdAU m l)/\Z8 w'.heap.size w' vt (usedT m l)/\Z8 w'.heap.size w' ve (usedE m l))/\Below w.heap.size w w':=by
 have n:validB m=true/\stopsB m l=true:=by simpa [radOkB] using hok
 have f3:=fun t (B:Below w.heap.size w t)=>Z26 m vw vh vr vl l t ((hm.below B).mono B.size) ((hl.below B).mono B.size) n.1 n.2
 have f4:=fun t (B:Below w.heap.size w t)=>Z7l m vw vh vr vl l t ((hm.below B).mono B.size) ((hl.below B).mono B.size) n.1 n.2
 obtain⟨⟨-,a1,cap1,rfl,-⟩,⟨-,a2,cap2,rfl,-⟩,⟨-,a3,cap3,rfl,-⟩⟩:=hm;obtain⟨-,al,capl,rfl,-⟩:=hl;unfold Zc at *;generalize rdAU m l=la at *;generalize rdBU m l=lb at *;generalize usedT m l=lt at *;generalize usedE m l=le at *;replace f3:=qH f3;replace f4:=qH f4;clear hok n;have H:=qH (qK w.heap.size w);go_enter Tryz.func38,Tryz.ntmps38;go_wp2_with fail;generalize s:qV (qV (qV w _) _) _=X0;obtain⟨q0,I,J,hA,hzX0⟩:=box3 s;clear s;have H:=qH hA;clear hA;have MB:=qH q0;clear q0;have RV:=qH I;clear I;have TB:=qH J;clear J;obtain⟨T,c1,c2,c3,c4,c5,U,W,c8,c9,A⟩:=Zh (m:=m) MB.out;refine (f3.out _ H.out).mono ?_;rintro e t ⟨v1,u1,rfl,p1,I,b1,m1,n1⟩;replace H:=zAd H b1;have g:=qH b1;clear b1;have Q:=qH (qI p1 m1);have P:=qH (qI I n1);obtain⟨-,g1,k1,V,-⟩:=p1;subst V;obtain⟨-,g2,k2,hv2,-⟩:=I;subst hv2;clear m1 n1 T c1 c2 c3 c4 c5 U W c8 c9 A;have b:=(zCj TB g);have a:=(zCj RV g);have H0:=(zCj MB g);have C:=cX 11 b rfl;have E:=cX 12 b rfl;have y11:=Ze b 11;have y12:=Ze b 12;obtain⟨T,c1,c2,c3,c4,c5,U,W,c8,c9,A⟩:=Zh (m:=m) H0;have r:=qH (qI H0 (qI a b));clear H0 a b;go_wp2_with fail;clear T c1 c2 c3 c4 c5 U W c8 c9 A C E y11 y12;generalize hX:qU (qU t _ _) _ _=X at *;obtain⟨b,j,d,c⟩:=set2 r.out.2.2 hX;clear hX;simp only [zq4,zr4,zs4] at b;have a:=r.out.2.1.eq c (by omega)
 have BX:=qH (H.out.trans (j _ (by omega)))
 have K:=qH (Q.out.1.offB Q.out.2 (by omega) d c)
 have L:=qH (P.out.1.offB P.out.2 (by omega) d c)
 have k:=qH (qI a b);have hzX:X.heap.size=t.heap.size:=d;have hz1:=g.out.size;clear r a b j d c;refine (f4.out _ BX.out).mono ?_;rintro e w2 ⟨v2,u2,rfl,p2,J,o,m2,n2⟩;have N:=qH (qI Q.out.2 P.out.2);clear Q P;have B2:=zAd BX o;replace K:=qH ((K.out.below o).mono o.size);replace L:=qH ((L.out.below o).mono o.size);have I3:=qH p2;have I4:=qH J;have M:=qH (qI m2 n2);obtain⟨-,g3,k3,R,-⟩:=p2;subst R;obtain⟨-,g4,k4,hv4,-⟩:=J;subst hv4;have a:=k.out.1.below o k.out.1.lt;have b:=k.out.2.below o k.out.2.lt;have hz2:=o.size;clear o k m2 n2;have G:=cX 13 b rfl;have x:=cX 14 b rfl;have y13:=Ze b 13;have y14:=Ze b 14;have r:=qH (qI a b);clear a b;go_upto_region 7 with fail
 generalize hY:qU (qU w2 _ _) _ _=Y at *;obtain⟨b,j,d,c⟩:=set2 r.out.2 hY;clear hY G x y13 y14;simp only [zq4,zr4,zs4] at b;have a:=r.out.1.eq c (by omega)
 have BY:=qH (B2.out.trans (j _ (by omega)))
 replace K:=qH (K.out.offB N.out.1 (by omega) d c)
 replace L:=qH (L.out.offB N.out.2 (by omega) d c)
 replace I3:=qH (I3.out.offB M.out.1 (by omega) d c)
 replace I4:=qH (I4.out.offB M.out.2 (by omega) d c)
 clear j d c r;have r0:=cX 0 a rfl;have z0:=Ze a 0;have r1:=cX 1 a rfl;have z1:=Ze a 1;have r2:=cX 2 a rfl;have z2:=Ze a 2;have r3:=cX 3 a rfl;have z3:=Ze a 3;have r4:=cX 4 a rfl;have z4:=Ze a 4;have S:=cX 5 a rfl;have z5:=Ze a 5;have r6:=cX 6 a rfl;have z6:=Ze a 6;have r7:=cX 7 a rfl;have z7:=Ze a 7;have r8:=cX 8 a rfl;have z8:=Ze a 8;have r9:=cX 9 a rfl;have z9:=Ze a 9;have F:=cX 10 a rfl;have z10:=Ze a 10;have D:=cX 11 a rfl;have z11:=Ze a 11;have z:=cX 12 a rfl;have z12:=Ze a 12;have u:=cX 13 a rfl;have z13:=Ze a 13;have y:=cX 14 a rfl;have z14:=Ze a 14;have s0:=cX 0 b rfl;have s1:=cX 1 b rfl;have s2:=cX 2 b rfl;have s3:=cX 3 b rfl;have s4:=cX 4 b rfl;have s5:=cX 5 b rfl;have s6:=cX 6 b rfl;have s7:=cX 7 b rfl;have s8:=cX 8 b rfl;have s9:=cX 9 b rfl;have s10:=cX 10 b rfl;have C:=cX 11 b rfl;have E:=cX 12 b rfl;have G:=cX 13 b rfl;have x:=cX 14 b rfl;have r:=qH (qI a b);clear a b;go_wp2;generalize hZ:qU (qU (qU (qU (qU (qU (qU (qU (qU (qU (qU (qU (qU (qU (qU Y _ _) _ _) _ _) _ _) _ _) _ _) _ _) _ _) _ _) _ _) _ _) _ _) _ _) _ _) _ _=Z at *;obtain⟨f,hl2,q,p⟩:=set15 r.out.1 rfl hZ;have BZ:=BY.out.trans (hl2 _ (by omega))
 clear r0 z0 r1 z1 r2 z2 r3 z3 r4 z4 S z5 r6 z6 r7 z7 r8 z8 r9 z9 F z10 D z11 z z12 u z13 y z14 hZ s0 s1 s2 s3 s4 s5 s6 s7 s8 s9 s10 C E G x;have r0:=cX 0 f rfl;have r1:=cX 1 f rfl;have r2:=cX 2 f rfl;have r3:=cX 3 f rfl;have r4:=cX 4 f rfl;have S:=cX 5 f rfl;have r6:=cX 6 f rfl;have r7:=cX 7 f rfl;have r8:=cX 8 f rfl;have r9:=cX 9 f rfl;have F:=cX 10 f rfl;have D:=cX 11 f rfl;have z:=cX 12 f rfl;have u:=cX 13 f rfl;have y:=cX 14 f rfl;refine bodyPost_ret (v:=qT #[.agg (tripCells m _ _ _ _ _ _ _),O qL 0]) (by simp [results,tripCells,Tryz.f38,go_sem,r0,r1,r2,r3,r4,S,r6,r7,r8,r9,F,D,z,u,y]) rfl ⟨_,_,_,_,rfl,⟨K.out.offB N.out.1 (by omega) q p,L.out.offB N.out.2 (by omega) q p,I3.out.offB M.out.1 (by omega) q p,I4.out.offB M.out.2 (by omega) q p⟩,BZ⟩
end
end Go.Proofs.YthipcinibldgnaaGreat
