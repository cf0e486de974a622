/- package spread: chosen, radii, Radii. -/
import Derived.Test.YtdolkgihppgpcaaGreatBin13
import Derived.Test.YtdolkgihppgpcaaGreatBin16
set_option linter.unusedSimpArgs false
set_option maxRecDepth 8000
set_option maxHeartbeats 4000000
namespace Go.Proofs.YtdolkgihppgpcaaGreat
section
attribute [local irreducible] wpQuiet
open Go.RowKit Go.Shelf Go.Maps
theorem Z3o (m : Msn) (vw vh vr vl : Value) (l : List Int) (w : World) (hfx : ∀ k, k < m.ways.length → 0 ≤ (wy m.ways k).fix) (hw : WaysAt w.heap.size w vw m.ways) (hl : Z9 w.heap.size w vl l) :
  Calls Tryz.prog 39 #[.agg (Zc m vw vh vr),vl] w (SetsQ m l w):=by
 obtain⟨hll,al,capl,rfl,hlc⟩:=hl;obtain⟨hwl,aw,capw,rfl,hwc⟩:=hw;have H0:=Has.new w (Zc m (.slice aw m.ways.length (m.ways.length+capw)) vh vr) 26;have hS0:=SetAt.made (w.alloc (.cells (Zc m (.slice aw m.ways.length (m.ways.length+capw)) vh vr) 26));rw [World.size_alloc] at hS0;have H1:=H0.below ((Below.refl (w.heap.size+1) _).alloc (by simp) (.map #[] 0)) (by omega)
 have H1':=Lib.hid H1;have S1':=Lib.hid hS0;have hlH:=Lib.hid hlc;have hwH:=Lib.hid hwc;have HFX:=Lib.hid hfx;clear hfx;have hmm:=@run_makeMap Tryz.prog;clear hlc hwc H0 H1 hS0;unfold Zc at *;go_enter Tryz.func39,Tryz.ntmps39;go_wp2;clear hmm
 go_loopw [7,13] (fun s i wr=>∃ k:Nat,k≤l.length∧i=.int .i64 k∧s=.int .i64 (prevS l k)∧(∀ j,j<k→stopOk m l j)∧SetAt wr (w.heap.size+1) (l.take k)∧Has wr w.heap.size (Zc m (.slice aw m.ways.length (m.ways.length+capw)) vh vr) 26∧Below w.heap.size w wr) (fun _ i _=>l.length-(intOf i).toNat)
 case atStart=>exact⟨0,by omega,rfl,rfl,fun j hj=>by omega,S1'.out,H1'.out,((Below.refl _ _).alloc (Nat.le_refl _) _).alloc (by first | omega | (simp;done) | (simp;omega)) _⟩
 case round =>
  obtain⟨k,hk,rfl,rfl,hall,hS,H,hB⟩:=hrel;have hzr:=hB.size;have hlt1:=H.lt;have hall':=Lib.hid hall;have HH:=Lib.hid H;have cc:wr.cell? ⟨w.heap.size,0,none⟩=some (.slice aw m.ways.length (m.ways.length+capw)):=H.cell (i:=0) rfl;have hp:=Z0J hall k (Nat.le_refl _);have HS:=Lib.hid hS;clear hall H hS;by_cases hlt:k<l.length
  ·obtain ⟨bl, ol, rfl, hbl, hcl⟩ : ∃ b1 o1, al = some ⟨b1, o1, none⟩ ∧ b1 < w.heap.size ∧ ∀ j, j < l.length → w.cell? ⟨b1, o1 + j, none⟩ = some (.int .i64 (l.getD j 0)) := by
    rcases hlH.out with h | h
    ·rw [h] at hlt;simp at hlt
    ·exact h
   have f1:=(hB.cell (p:=⟨bl,ol+k,none⟩) hbl).trans (hcl k hlt);have hsk:prevS l (k+1)=l.getD k 0:=by simp [prevS]
   have htk:l.take (k+1)=l.take k++[l.getD k 0]:=by
    rw [List.take_succ_eq_append_getElem hlt];simp [List.getD,List.getElem?_eq_getElem hlt]
   have hok:stopOk m l k↔prevS l k<l.getD k 0∧l.getD k 0<m.ways.length∧(wy m.ways (l.getD k 0).toNat).fix≠0:=Iff.rfl;clear hcl;obtain⟨s,hs⟩:∃ s,l.getD k 0=s:=⟨_,rfl⟩;obtain⟨p0,hp0⟩:∃ p0,prevS l k=p0:=⟨_,rfl⟩;rw [hs] at f1 hsk htk hok;rw [hp0] at hp hok ⊢;have HK:=Lib.hid (And.intro hsk (And.intro htk hs));have HO:=Lib.hid hok;clear hsk htk hs hp0 hok;by_cases h1:p0<s
   ·have d1 : decide (s ≤ p0) = false := by simp; omega
    by_cases h2:s<m.ways.length
    ·have d2:decide ((m.ways.length:Int)≤s)=false:=by simp;omega
     obtain⟨q,rfl⟩:∃ q:Nat,s=q:=⟨s.toNat,by omega⟩
     obtain⟨bw,ow,rfl,hbw,hcw⟩:∃ b o,aw=some ⟨b,o,none⟩∧b<w.heap.size∧∀ j,j<m.ways.length→w.cell? ⟨b,o+j*5,none⟩=some (.int .i64 (wy m.ways j).x)∧w.cell? ⟨b,o+j*5+1,none⟩=some (.int .i64 (wy m.ways j).y)∧w.cell? ⟨b,o+j*5+2,none⟩=some (.int .i64 (wy m.ways j).fix)∧w.cell? ⟨b,o+j*5+3,none⟩=some (.int .i64 (wy m.ways j).wait)∧w.cell? ⟨b,o+j*5+4,none⟩=some (.int .i64 (wy m.ways j).back):=by
      rcases hwH.out with h | h
      ·rw [h] at h2;simp at h2;omega
      ·exact h
     have f2:=(hB.cell (p:=⟨bw,ow+q*5+2,none⟩) hbw).trans (hcw q (by omega)).2.2.1
     clear hcw;have hql:q<m.ways.length:=by omega
     have HO2:=HO.out;rw [Int.toNat_natCast] at HO2;have HOO:=Lib.hid HO2;clear HO2;by_cases h3:(wy m.ways q).fix=0
     ·have hno:Hid (stopsB m l=false):=Z0q hlt (fun h=>(HOO.out.1 h).2.2 h3)
      rw [h3] at f2;clear h3;go_wp2;go_ret2;exact .inl ⟨hno.out,rfl,hB⟩
     ·have d3:decide ((wy m.ways q).fix<1)=false:=by have:=HFX.out q hql;simp;omega
      have hyes:Hid (stopOk m l k):=HOO.out.2 ⟨h1,h2,h3⟩;obtain⟨n,D,hown,hn,hmp,hat⟩:=HS.out;have HAT:=Lib.hid hat;have HMP:=Lib.hid hmp;have hn2:n≤70368744177663:=by have:=List.length_take_le k l;omega
      have HN:=Lib.hid hn;have hwf:(Lit.int .i64 (q:Int)).wf=true:=Z2B (by omega) (by omega)
      clear h3 hat hmp hn;go_wp2_with (at_mapUpdate;refine wpList_mapUpdate_own _ rfl _ _ _ 83 rfl 3 4 keyInt Tryz.underlying83 _ (w.heap.size+1) n D rfl hown (by unfold maxLen;omega) _ _ (.int .i64 (q:Int)) rfl rfl (keyOf_int_mk Tryz.underlying3 hwf) (.lit (.bool true)) [] (plainElem_bool Tryz.underlying4 true) ?_;intro w1 hown1 hgrow1)
      go_roundw
      case rel =>
       have hB1:Below w.heap.size w w1:=hB.grown hgrow1 (by omega) (fun j e=>by cases e;omega)
       have hb2:Below (w.heap.size+1) wr w1:=(Below.refl _ wr).grown hgrow1 (by omega) (fun j e=>by cases e;omega)
       refine⟨k+1,by omega,by go_num,by rw [HK.out.1],fun j hj=>?_,?_,HH.out.below hb2 (by omega),hB1⟩
       ·by_cases e:j=k
        ·rw [e];exact hyes.out
        ·exact hall'.out j (by omega)
       ·rw [HK.out.2.1]
        exact SetAt.put hwf HN.out HMP.out HAT.out hown1
      case measure=>simp [intOf];omega
    ·have d2:decide ((m.ways.length:Int)≤s)=true:=by simp;omega
     have hno:Hid (stopsB m l=false):=Z0q hlt (fun h=>h2 (HO.out.1 h).2.1)
     go_wp2;go_ret2;exact .inl ⟨hno.out,rfl,hB⟩
   ·have d1:decide (s≤p0)=true:=by simp;omega
    have hno:Hid (stopsB m l=false):=Z0q hlt (fun h=>h1 (HO.out.1 h).1)
    go_wp2;go_ret2;exact .inl ⟨hno.out,rfl,hB⟩
  ·obtain rfl:k=l.length:=by omega
   have hyes:Hid (stopsB m l=true):=by
    show stopsB m l=true
    simp only [stopsB,decide_eq_true_eq];exact hall'.out
   have hd:decide ((l.length:Int)<(l.length:Int))=false:=by simp
   go_wp2;go_ret2;refine .inr ⟨hyes.out,_,rfl,?_,by omega,hB⟩
   have:=HS.out
   rwa [List.take_length] at this
end
section
attribute [local go_sem] Oper.semAt_some
attribute [local irreducible] wpQuiet
open Go.RowKit Go.Shelf
theorem Z7f (m:Msn) (vw vh vr:Value) (bm:Nat) (w:World) :
  Calls Tryz.prog 40 #[.agg (Zc m vw vh vr),.map (some bm)] w fun e w'=>e=.returned (.func (.func 93) #[] #[.pointer (some ⟨w.heap.size,0,none⟩),.pointer (some ⟨w.heap.size+1,0,none⟩)])∧(w.alloc (.cells (Zc m vw vh vr) 26)).alloc (.cells #[.map (some bm)] 83)=w':=by
 unfold Zc;go_enter Tryz.func40,Tryz.ntmps40;go_wp2;go_ret;exact⟨rfl,rfl⟩
def encR (m:Msn) (l:List Int) (x:Nat):Array Value:=#[.agg #[.int .i64 (rdB m l x),.int .i64 (rdA m l x)]]
theorem Z7h (n : Nat) (hn : 1 ≤ n) (p : Nat → Prop) (m : Msn) (vw vh vr : Value) (l : List Int) (Bm Bs bm n0 : Nat) (W : World) (lp : Nat) (hV : validB m = true)
  (hm:MsnAt n0 W m vw vh vr) (hn0:n0≤W.heap.size) (hset:SetAt W bm l) (HM:Has W Bm (Zc m vw vh vr) 26) (HS:Boxed W Bs 83 (.map (some bm)))
  (p0:p W.heap.size) (p1:p Bm) (p2:p Bs) (p3:p bm) (p4:∀ b,b<n0→p b) (J Jx:List Nat→World→Prop)
  (hJ:∀ s A B,J s A→MoveM (fun r=>r=W.heap.size) A B→J s B)
  (hY:∀ (pre:List Nat) (x:Nat) W1,J pre W1→pre.length<m.ways.length→W.heap.size+1≤W1.heap.size→YieldAt Fence.wide (n-1) Tryz.prog lp (encR m l x) W1 fun e W' =>
   (e=.returned (.bool true)∧J (pre++[x]) W'∧KeepsP p W1 W')∨(e=.returned (.bool false)∧Jx (pre++[x]) W')) (h0:J [] W) :
  CallsIn Fence.wide n Tryz.prog 93 #[.func (.yield lp) #[] #[],.pointer (some ⟨Bm,0,none⟩),.pointer (some ⟨Bs,0,none⟩)] W fun e W'=>(∃ v,e=.returned v) ∧
   ((∃ ys,ys=upto id m.ways.length∧J ys W')∨(∃ pre,(∃ j,j≤m.ways.length∧pre=upto id j)∧Jx pre W')):=by
 have V:=(Zs m).1 hV;have n41:=V.n41;have HM0:=Lib.hid hm;obtain⟨⟨_,a1,cap1,rfl,_⟩,⟨_,a2,cap2,rfl,_⟩,⟨_,a3,cap3,rfl,_⟩⟩:=hm;obtain⟨c0,c1,c2,c3,c4,c5,c6,c7,c8,c9,c10⟩:=Zi HM;have HV:=Lib.hid (And.intro hV V);have HMB:=Lib.hid HM;have HSB:=Lib.hid HS;have HSET:=Lib.hid hset;have HJ0:=Lib.hid (hJ _ _ _ h0 (MoveM.alloc _ W (.cells #[.int .i64 m.start,.int .i64 m.start] 90)));have HSP:=Lib.hid (Has.new W #[.int .i64 m.start,.int .i64 m.start] 90);have hmlt:=HM.lt;have hslt:=HS.lt;have hblt:=hset.lt;have HWC:=Lib.hid HM0.out.1;clear hV V HM HS hset h0;refine callsIn_of_wp Tryz.func93 rfl trivial ?_ rfl;simp only [Tryz.ntmps93,List.size_toArray,List.length_cons,List.length_nil,Nat.reduceAdd,Nat.reduceSub,Array.replicate_succ,Array.replicate_zero,List.push_toArray,List.append_toArray,List.nil_append,List.cons_append];gi_wp2;have HW0:=Lib.hid (show ∀ b,p b→b≠W.heap.size→b<W.heap.size→(W.alloc (.cells #[.int .i64 m.start,.int .i64 m.start] 90)).heap[b]?=W.heap[b]? from fun b _ _ hb=>Below.heap_alloc _ _ _ hb)
 gi_loopw [19] (fun i wr=>∃ k:Nat,k≤m.ways.length∧i=.int .i64 k∧J (upto id k) wr∧Has wr W.heap.size #[.int .i64 (rdB m l (k-1)),.int .i64 (rdA m l (k-1))] 90∧(∀ b,p b→b≠W.heap.size→b<W.heap.size→wr.heap[b]?=W.heap[b]?)∧W.heap.size+1≤wr.heap.size)
  (fun i _=>m.ways.length-(intOf i).toNat)
 case atStart=>exact⟨0,Nat.zero_le _,rfl,HJ0.out,HSP.out,HW0.out,by simp⟩
 case round =>
  obtain⟨k,hk,rfl,hJs,hsp,hkp,hsz⟩:=hrel;obtain⟨hV,V⟩:=HV.out;have HKP:=Lib.hid hkp;have HMr:=HM0.out.blocks (B:=wr) (by omega) (fun b hb=>hkp b (p4 b hb) (by omega) (by omega))
  by_cases hlt:k<m.ways.length
  ·have hub := rd_le V l hlt
   have d1:decide ((k:Int)<(m.ways.length:Int))=true:=by simp;omega
   have kl:(k:Int)<m.ways.length:=by omega
   obtain⟨bw,ow,capw,hvw,hbw,hcw⟩:=HMr.1.cells (by omega)
   simp only [Value.slice.injEq,true_and] at hvw;obtain⟨ha1,hcap⟩:=hvw;obtain⟨q0,q1,q2,q3,q4⟩:=hcw k hlt;subst ha1;have HMH:=Lib.hid (HMr.mono (by omega:n0≤wr.heap.size))
   have hbw2:bw<wr.heap.size:=by omega
   clear hkp HMr hcw hcap;cases k with
   | zero =>
    have hbr:W.heap.size<wr.heap.size:=by omega
    have HP2:=Lib.hid (hsp.below ((Below.refl wr.heap.size wr).alloc (Nat.le_refl _) (.cells #[.int .i64 (wy m.ways 0).x,.int .i64 (wy m.ways 0).y,.int .i64 (wy m.ways 0).fix,.int .i64 (wy m.ways 0).wait,.int .i64 (wy m.ways 0).back] 52)) hsp.lt);have HBL:=Lib.hid (show Below wr.heap.size wr (wr.alloc (.cells #[.int .i64 (wy m.ways 0).x,.int .i64 (wy m.ways 0).y,.int .i64 (wy m.ways 0).fix,.int .i64 (wy m.ways 0).wait,.int .i64 (wy m.ways 0).back] 52)) from (Below.refl wr.heap.size wr).alloc (Nat.le_refl _) _)
    obtain⟨fn,tmps,assign,body,hy,hR⟩:=hY _ 0 _ (hJ _ _ _ hJs (MoveM.alloc _ wr (.cells #[.int .i64 (wy m.ways 0).x,.int .i64 (wy m.ways 0).y,.int .i64 (wy m.ways 0).fix,.int .i64 (wy m.ways 0).wait,.int .i64 (wy m.ways 0).back] 52))) (by rw [Zx];omega) (by simp;omega)
    unfold encR at hy;have e0:=HP2.out.cell (i:=0) rfl;have e1:=HP2.out.cell (i:=1) rfl;have hz2:=hsz;simp only [Nat.zero_mul,Nat.add_zero,Int.natCast_zero] at *;clear hsp hJs V hV;gi_wp2;refine hR.mono ?_;rintro e W3 (⟨rfl,hJ3,hk3⟩ | ⟨rfl,hJx3⟩)
    ·have hsp3:=(hk3.2 _ p0).trans HP2.out
     have hz3:W.heap.size+1≤W3.heap.size:=Nat.le_trans hz2 (Nat.le_trans HBL.out.size hk3.1);have hkp3:∀ b,p b→b≠W.heap.size→b<W.heap.size→W3.heap[b]?=W.heap[b]?:=fun b h1 h2 h3=>(hk3.2 b h1).trans ((HBL.out.block b (by omega)).trans (HKP.out b h1 h2 h3))
     have HN:=Lib.hid (And.intro hsp3 (And.intro hkp3 hJ3));clear hsp3 hkp3 hJ3 hk3 hy hR;gi_wp2;go_roundw
     case rel =>
      refine⟨0+1,by omega,by go_num,?_,HN.out.1,HN.out.2.1,hz3⟩
      rw [Zv];exact HN.out.2.2
     case measure=>simp [intOf];omega
    ·gi_wp2
     exact bodyPost_ret (v:=.tuple #[]) (by simp [results,Tryz.f93]) rfl ⟨⟨_,rfl⟩,.inr ⟨_,⟨0+1,by omega,(Zv _ _).symm⟩,hJx3⟩⟩
   | succ j =>
    rw [show j+1-1=j by omega] at hsp
    have hj:=rd_le V l (k:=j) (by omega)
    have hg:=Z01 V.leg V.ways (i:=j) (j:=j+1) (by omega) hlt
    have eB:rdB m l (j+1)=rdA m l j+gLeg m j (j+1):=rfl;have eA:=Z5N m l j;have hl:=Z7z m (.slice (some ⟨bw,ow,none⟩) m.ways.length (m.ways.length+cap1)) (.slice a2 m.home.length (m.home.length+cap2)) (.slice a3 m.rocks.length (m.rocks.length+cap3)) j (j+1);have hl:=Lib.hid (fun w1 h=>hl w1 h hV (by omega) hlt)
    have m1:IntKind.i64.wrap (rdA m l j+gLeg m j (j+1))=rdA m l j+gLeg m j (j+1):=zW2;have e1:wr.cell? ⟨W.heap.size,1,none⟩=some (.int .i64 (rdA m l j)):=hsp.cell (i:=1) rfl;have hbm:wr.heap[Bm]?=W.heap[Bm]?:=by
     rcases Nat.lt_or_ge Bm W.heap.size with h | h
     ·exact HKP.out Bm p1 (by omega) h
     ·omega
    obtain⟨c0,c1,c2,c3,c4,c5,c6,c7,c8,c9,c10⟩:=Zi (hbm.trans HMB.out);have HSPr:=Lib.hid hsp;have HJs:=Lib.hid hJs;have HBL:=Lib.hid (show Below wr.heap.size wr (wr.alloc (.cells #[.int .i64 (wy m.ways (j+1)).x,.int .i64 (wy m.ways (j+1)).y,.int .i64 (wy m.ways (j+1)).fix,.int .i64 (wy m.ways (j+1)).wait,.int .i64 (wy m.ways (j+1)).back] 52)) from (Below.refl wr.heap.size wr).alloc (Nat.le_refl _) _)
    have HWB:=Lib.hid (Has.new wr #[.int .i64 (wy m.ways (j+1)).x,.int .i64 (wy m.ways (j+1)).y,.int .i64 (wy m.ways (j+1)).fix,.int .i64 (wy m.ways (j+1)).wait,.int .i64 (wy m.ways (j+1)).back] 52);have d2:decide ((j:Int)+1>0)=true:=by rw [decide_eq_true_eq];omega
    have hbmlt:Bm<wr.heap.size:=by omega
    have HE:=Lib.hid (And.intro eB eA);clear hsp hJs V hV hub hj hg eB eA;by_cases hin:(((j+1):Nat):Int) ∈ l
    ·have dl : decide (((j + 1 : Nat) : Int) ∈ l) = true := by simpa using hin
     by_cases hmn:(wy m.ways (j+1)).fix<rdA m l j+gLeg m j (j+1)
     ·have hAv:Hid (rdA m l (j+1)=(wy m.ways (j+1)).fix):=HE.out.2.trans ((if_pos hin).trans (if_pos hmn))
      have hBv:=Lib.hid HE.out.1;have HB2:Hid ((m.ways.length:Nat)=(m.ways.length:Nat)):=rfl;clear hin HB2
      gi_wp2_with fail
      refine⟨trivial,(callsIn_wide.2 (hl.out _ ((HMH.out.below HBL.out).mono HBL.out.size))).mono ?_⟩;rintro r W2 ⟨rfl,hb2⟩;have BW:=HBL.out.trans (hb2.mono HBL.out.size);have hz2:=BW.size;have hwz:wr.heap.size<W2.heap.size:=by have:=hb2.size;simp at this;omega
      have hsp2:Has W2 W.heap.size #[.int .i64 (rdB m l j),.int .i64 (rdA m l j)] 90:=HSPr.out.below BW HSPr.out.lt;have hwb2:=HWB.out.below hb2 (by simp)
      have old2:∀ b,p b→b≠W.heap.size→b<W.heap.size→W2.heap[b]?=W.heap[b]?:=fun b h1 h2 h3=>(BW.block b (by omega)).trans (HKP.out b h1 h2 h3)
      have hO:Only W.heap.size wr W2:=Only.of_below BW;have HOLD:=Lib.hid old2;have h30:=hsp2.set 0 (.int .i64 (rdA m l j+gLeg m j (j+1)));have h3:=h30.set 1 (.int .i64 (rdA m l j+gLeg m j (j+1)));have hO3:=(hO.set 0 (.int .i64 (rdA m l j+gLeg m j (j+1)))).set 1 (.int .i64 (rdA m l j+gLeg m j (j+1)));have old3:∀ b,p b→b≠W.heap.size→b<W.heap.size→(World.setCell (World.setCell W2 ⟨W.heap.size,0,none⟩ (.int .i64 (rdA m l j+gLeg m j (j+1)))) ⟨W.heap.size,1,none⟩ (.int .i64 (rdA m l j+gLeg m j (j+1)))).heap[b]?=W.heap[b]?:=fun b h1 h2 h3=>(hO3.block b (by omega) h2).trans (HKP.out b h1 h2 h3)
      have s0:=(show Boxed (World.setCell (World.setCell W2 ⟨W.heap.size,0,none⟩ (.int .i64 (rdA m l j+gLeg m j (j+1)))) ⟨W.heap.size,1,none⟩ (.int .i64 (rdA m l j+gLeg m j (j+1)))) Bs 83 (.map (some bm)) from (old3 Bs p2 (by omega) hslt).trans HSB.out).cell
      have hst:SetAt (World.setCell (World.setCell W2 ⟨W.heap.size,0,none⟩ (.int .i64 (rdA m l j+gLeg m j (j+1)))) ⟨W.heap.size,1,none⟩ (.int .i64 (rdA m l j+gLeg m j (j+1)))) bm l:=HSET.out.block (old3 bm p3 (by omega) hblt)
      have hlook:(Instr.lookup 83 (.map (some bm)) (.int .i64 ((j:Int)+1)) false).run Tryz.prog (World.setCell (World.setCell W2 ⟨W.heap.size,0,none⟩ (.int .i64 (rdA m l j+gLeg m j (j+1)))) ⟨W.heap.size,1,none⟩ (.int .i64 (rdA m l j+gLeg m j (j+1))))=.ok (.bool (decide (((j+1:Nat):Int) ∈ l))) (World.setCell (World.setCell W2 ⟨W.heap.size,0,none⟩ (.int .i64 (rdA m l j+gLeg m j (j+1)))) ⟨W.heap.size,1,none⟩ (.int .i64 (rdA m l j+gLeg m j (j+1)))):=hst.look (k:=((j+1):Nat)) (Z2B (by omega) (by omega))
      rw [dl] at hlook;have y0:=Ze hsp2 0;have y1:=Ze h30 1;have o1:=hsp2.cell (i:=0) rfl;have o2:=hsp2.cell (i:=1) rfl;have r0:=h3.cell (i:=0) rfl;have r1:=h3.cell (i:=1) rfl;have f2:=((hwb2.other ⟨W.heap.size,0,none⟩ (.int .i64 (rdA m l j+gLeg m j (j+1))) (by show wr.heap.size≠W.heap.size;omega)).other ⟨W.heap.size,1,none⟩ (.int .i64 (rdA m l j+gLeg m j (j+1))) (by show wr.heap.size≠W.heap.size;omega)).cell (i:=2) rfl
      have y2:=Ze h3 1;have h4:=h3.set 1 (.int .i64 (wy m.ways (j+1)).fix);have hO4:=hO3.set 1 (.int .i64 (wy m.ways (j+1)).fix);have t0:=h4.cell (i:=0) rfl;have t1:=h4.cell (i:=1) rfl;obtain⟨fn,tmps,assign,body,hy,hR⟩:=hY _ (j+1) (World.setCell (World.setCell (World.setCell W2 ⟨W.heap.size,0,none⟩ (.int .i64 (rdA m l j+gLeg m j (j+1)))) ⟨W.heap.size,1,none⟩ (.int .i64 (rdA m l j+gLeg m j (j+1)))) ⟨W.heap.size,1,none⟩ (.int .i64 (wy m.ways (j+1)).fix)) (hJ _ _ _ HJs.out (hO4.move rfl ⟨_,HSPr.out,rfl⟩)) (by rw [Zx];omega) (by simp [World.setCell];omega)
      unfold encR at hy;rw [hBv.out,hAv.out] at hy;have H4:=Lib.hid (And.intro h4 hO4);clear hb2 BW hsp2 hwb2 old2 hO h30 h3 hO3 old3 hst h4 hO4 HOLD;gi_wp2;refine hR.mono ?_;rintro e W5 (⟨rfl,hJ3,hk3⟩ | ⟨rfl,hJx3⟩)
      ·have hsp3:=(hk3.2 _ p0).trans H4.out.1
       have hz3:W.heap.size+1≤W5.heap.size:=Nat.le_trans (by omega) (Nat.le_trans H4.out.2.size hk3.1)
       have hkp3:∀ b,p b→b≠W.heap.size→b<W.heap.size→W5.heap[b]?=W.heap[b]?:=fun b h1 h2 h3=>(hk3.2 b h1).trans ((H4.out.2.block b (by omega) h2).trans (HKP.out b h1 h2 h3))
       have HN:=Lib.hid (And.intro hsp3 (And.intro hkp3 hJ3));clear hsp3 hkp3 hJ3 hk3 hy hR;gi_wp2;go_roundw
       case rel =>
        refine⟨(j+1)+1,by omega,by go_num,?_,?_,HN.out.2.1,hz3⟩
        ·rw [Zv]
         exact HN.out.2.2
        ·rw [show j+1+1-1=j+1 by omega,hBv.out,hAv.out]
         exact HN.out.1
       case measure=>simp [intOf];omega
      ·gi_wp2
       exact bodyPost_ret (v:=.tuple #[]) (by simp [results,Tryz.f93]) rfl ⟨⟨_,rfl⟩,.inr ⟨_,⟨(j+1)+1,by omega,(Zv _ _).symm⟩,hJx3⟩⟩
     ·have hAv:Hid (rdA m l (j+1)=(rdA m l j+gLeg m j (j+1))):=HE.out.2.trans ((if_pos hin).trans (if_neg hmn))
      have hBv:=Lib.hid HE.out.1;have HB2:Hid ((m.ways.length:Nat)=(m.ways.length:Nat)):=rfl;clear hin HB2
      gi_wp2_with fail
      refine⟨trivial,(callsIn_wide.2 (hl.out _ ((HMH.out.below HBL.out).mono HBL.out.size))).mono ?_⟩;rintro r W2 ⟨rfl,hb2⟩;have BW:=HBL.out.trans (hb2.mono HBL.out.size);have hz2:=BW.size;have hwz:wr.heap.size<W2.heap.size:=by have:=hb2.size;simp at this;omega
      have hsp2:Has W2 W.heap.size #[.int .i64 (rdB m l j),.int .i64 (rdA m l j)] 90:=HSPr.out.below BW HSPr.out.lt;have hwb2:=HWB.out.below hb2 (by simp)
      have old2:∀ b,p b→b≠W.heap.size→b<W.heap.size→W2.heap[b]?=W.heap[b]?:=fun b h1 h2 h3=>(BW.block b (by omega)).trans (HKP.out b h1 h2 h3)
      have hO:Only W.heap.size wr W2:=Only.of_below BW;have HOLD:=Lib.hid old2;have h30:=hsp2.set 0 (.int .i64 (rdA m l j+gLeg m j (j+1)));have h3:=h30.set 1 (.int .i64 (rdA m l j+gLeg m j (j+1)));have hO3:=(hO.set 0 (.int .i64 (rdA m l j+gLeg m j (j+1)))).set 1 (.int .i64 (rdA m l j+gLeg m j (j+1)));have old3:∀ b,p b→b≠W.heap.size→b<W.heap.size→(World.setCell (World.setCell W2 ⟨W.heap.size,0,none⟩ (.int .i64 (rdA m l j+gLeg m j (j+1)))) ⟨W.heap.size,1,none⟩ (.int .i64 (rdA m l j+gLeg m j (j+1)))).heap[b]?=W.heap[b]?:=fun b h1 h2 h3=>(hO3.block b (by omega) h2).trans (HKP.out b h1 h2 h3)
      have s0:=(show Boxed (World.setCell (World.setCell W2 ⟨W.heap.size,0,none⟩ (.int .i64 (rdA m l j+gLeg m j (j+1)))) ⟨W.heap.size,1,none⟩ (.int .i64 (rdA m l j+gLeg m j (j+1)))) Bs 83 (.map (some bm)) from (old3 Bs p2 (by omega) hslt).trans HSB.out).cell
      have hst:SetAt (World.setCell (World.setCell W2 ⟨W.heap.size,0,none⟩ (.int .i64 (rdA m l j+gLeg m j (j+1)))) ⟨W.heap.size,1,none⟩ (.int .i64 (rdA m l j+gLeg m j (j+1)))) bm l:=HSET.out.block (old3 bm p3 (by omega) hblt)
      have hlook:(Instr.lookup 83 (.map (some bm)) (.int .i64 ((j:Int)+1)) false).run Tryz.prog (World.setCell (World.setCell W2 ⟨W.heap.size,0,none⟩ (.int .i64 (rdA m l j+gLeg m j (j+1)))) ⟨W.heap.size,1,none⟩ (.int .i64 (rdA m l j+gLeg m j (j+1))))=.ok (.bool (decide (((j+1:Nat):Int) ∈ l))) (World.setCell (World.setCell W2 ⟨W.heap.size,0,none⟩ (.int .i64 (rdA m l j+gLeg m j (j+1)))) ⟨W.heap.size,1,none⟩ (.int .i64 (rdA m l j+gLeg m j (j+1)))):=hst.look (k:=((j+1):Nat)) (Z2B (by omega) (by omega))
      rw [dl] at hlook;have y0:=Ze hsp2 0;have y1:=Ze h30 1;have o1:=hsp2.cell (i:=0) rfl;have o2:=hsp2.cell (i:=1) rfl;have r0:=h3.cell (i:=0) rfl;have r1:=h3.cell (i:=1) rfl;have f2:=((hwb2.other ⟨W.heap.size,0,none⟩ (.int .i64 (rdA m l j+gLeg m j (j+1))) (by show wr.heap.size≠W.heap.size;omega)).other ⟨W.heap.size,1,none⟩ (.int .i64 (rdA m l j+gLeg m j (j+1))) (by show wr.heap.size≠W.heap.size;omega)).cell (i:=2) rfl
      have y2:=Ze h3 1;have h4:=h3.set 1 (.int .i64 (rdA m l j+gLeg m j (j+1)));have hO4:=hO3.set 1 (.int .i64 (rdA m l j+gLeg m j (j+1)));have t0:=h4.cell (i:=0) rfl;have t1:=h4.cell (i:=1) rfl;obtain⟨fn,tmps,assign,body,hy,hR⟩:=hY _ (j+1) (World.setCell (World.setCell (World.setCell W2 ⟨W.heap.size,0,none⟩ (.int .i64 (rdA m l j+gLeg m j (j+1)))) ⟨W.heap.size,1,none⟩ (.int .i64 (rdA m l j+gLeg m j (j+1)))) ⟨W.heap.size,1,none⟩ (.int .i64 (rdA m l j+gLeg m j (j+1)))) (hJ _ _ _ HJs.out (hO4.move rfl ⟨_,HSPr.out,rfl⟩)) (by rw [Zx];omega) (by simp [World.setCell];omega)
      unfold encR at hy;rw [hBv.out,hAv.out] at hy;have H4:=Lib.hid (And.intro h4 hO4);clear hb2 BW hsp2 hwb2 old2 hO h30 h3 hO3 old3 hst h4 hO4 HOLD;gi_wp2;refine hR.mono ?_;rintro e W5 (⟨rfl,hJ3,hk3⟩ | ⟨rfl,hJx3⟩)
      ·have hsp3:=(hk3.2 _ p0).trans H4.out.1
       have hz3:W.heap.size+1≤W5.heap.size:=Nat.le_trans (by omega) (Nat.le_trans H4.out.2.size hk3.1)
       have hkp3:∀ b,p b→b≠W.heap.size→b<W.heap.size→W5.heap[b]?=W.heap[b]?:=fun b h1 h2 h3=>(hk3.2 b h1).trans ((H4.out.2.block b (by omega) h2).trans (HKP.out b h1 h2 h3))
       have HN:=Lib.hid (And.intro hsp3 (And.intro hkp3 hJ3));clear hsp3 hkp3 hJ3 hk3 hy hR;gi_wp2;go_roundw
       case rel =>
        refine⟨(j+1)+1,by omega,by go_num,?_,?_,HN.out.2.1,hz3⟩
        ·rw [Zv]
         exact HN.out.2.2
        ·rw [show j+1+1-1=j+1 by omega,hBv.out,hAv.out]
         exact HN.out.1
       case measure=>simp [intOf];omega
      ·gi_wp2
       exact bodyPost_ret (v:=.tuple #[]) (by simp [results,Tryz.f93]) rfl ⟨⟨_,rfl⟩,.inr ⟨_,⟨(j+1)+1,by omega,(Zv _ _).symm⟩,hJx3⟩⟩
    ·have dl:decide (((j+1:Nat):Int) ∈ l)=false:=by simpa using hin
     have hAv:Hid (rdA m l (j+1)=rdA m l j+gLeg m j (j+1)):=(HE.out.2.trans (if_neg hin)).trans HE.out.1;have hBv:=Lib.hid HE.out.1;have HB2:Hid ((m.ways.length:Nat)=(m.ways.length:Nat)):=rfl;clear hin HB2
     gi_wp2_with fail
     refine⟨trivial,(callsIn_wide.2 (hl.out _ ((HMH.out.below HBL.out).mono HBL.out.size))).mono ?_⟩;rintro r W2 ⟨rfl,hb2⟩;have BW:=HBL.out.trans (hb2.mono HBL.out.size);have hz2:=BW.size;have hwz:wr.heap.size<W2.heap.size:=by have:=hb2.size;simp at this;omega
     have hsp2:Has W2 W.heap.size #[.int .i64 (rdB m l j),.int .i64 (rdA m l j)] 90:=HSPr.out.below BW HSPr.out.lt;have hwb2:=HWB.out.below hb2 (by simp)
     have old2:∀ b,p b→b≠W.heap.size→b<W.heap.size→W2.heap[b]?=W.heap[b]?:=fun b h1 h2 h3=>(BW.block b (by omega)).trans (HKP.out b h1 h2 h3)
     have hO:Only W.heap.size wr W2:=Only.of_below BW;have HOLD:=Lib.hid old2;have h30:=hsp2.set 0 (.int .i64 (rdA m l j+gLeg m j (j+1)));have h3:=h30.set 1 (.int .i64 (rdA m l j+gLeg m j (j+1)));have hO3:=(hO.set 0 (.int .i64 (rdA m l j+gLeg m j (j+1)))).set 1 (.int .i64 (rdA m l j+gLeg m j (j+1)));have old3:∀ b,p b→b≠W.heap.size→b<W.heap.size→(World.setCell (World.setCell W2 ⟨W.heap.size,0,none⟩ (.int .i64 (rdA m l j+gLeg m j (j+1)))) ⟨W.heap.size,1,none⟩ (.int .i64 (rdA m l j+gLeg m j (j+1)))).heap[b]?=W.heap[b]?:=fun b h1 h2 h3=>(hO3.block b (by omega) h2).trans (HKP.out b h1 h2 h3)
     have s0:=(show Boxed (World.setCell (World.setCell W2 ⟨W.heap.size,0,none⟩ (.int .i64 (rdA m l j+gLeg m j (j+1)))) ⟨W.heap.size,1,none⟩ (.int .i64 (rdA m l j+gLeg m j (j+1)))) Bs 83 (.map (some bm)) from (old3 Bs p2 (by omega) hslt).trans HSB.out).cell
     have hst:SetAt (World.setCell (World.setCell W2 ⟨W.heap.size,0,none⟩ (.int .i64 (rdA m l j+gLeg m j (j+1)))) ⟨W.heap.size,1,none⟩ (.int .i64 (rdA m l j+gLeg m j (j+1)))) bm l:=HSET.out.block (old3 bm p3 (by omega) hblt)
     have hlook:(Instr.lookup 83 (.map (some bm)) (.int .i64 ((j:Int)+1)) false).run Tryz.prog (World.setCell (World.setCell W2 ⟨W.heap.size,0,none⟩ (.int .i64 (rdA m l j+gLeg m j (j+1)))) ⟨W.heap.size,1,none⟩ (.int .i64 (rdA m l j+gLeg m j (j+1))))=.ok (.bool (decide (((j+1:Nat):Int) ∈ l))) (World.setCell (World.setCell W2 ⟨W.heap.size,0,none⟩ (.int .i64 (rdA m l j+gLeg m j (j+1)))) ⟨W.heap.size,1,none⟩ (.int .i64 (rdA m l j+gLeg m j (j+1)))):=hst.look (k:=((j+1):Nat)) (Z2B (by omega) (by omega))
     rw [dl] at hlook;have y0:=Ze hsp2 0;have y1:=Ze h30 1;have o1:=hsp2.cell (i:=0) rfl;have o2:=hsp2.cell (i:=1) rfl;have r0:=h3.cell (i:=0) rfl;have r1:=h3.cell (i:=1) rfl;have h4:=h3;have hO4:=hO3;obtain⟨fn,tmps,assign,body,hy,hR⟩:=hY _ (j+1) (World.setCell (World.setCell W2 ⟨W.heap.size,0,none⟩ (.int .i64 (rdA m l j+gLeg m j (j+1)))) ⟨W.heap.size,1,none⟩ (.int .i64 (rdA m l j+gLeg m j (j+1)))) (hJ _ _ _ HJs.out (hO4.move rfl ⟨_,HSPr.out,rfl⟩)) (by rw [Zx];omega) (by simp [World.setCell];omega)
     unfold encR at hy;rw [hBv.out,hAv.out] at hy;have H4:=Lib.hid (And.intro h4 hO4);clear hb2 BW hsp2 hwb2 old2 hO h30 h3 hO3 old3 hst h4 hO4 HOLD;gi_wp2;refine hR.mono ?_;rintro e W5 (⟨rfl,hJ3,hk3⟩ | ⟨rfl,hJx3⟩)
     ·have hsp3:=(hk3.2 _ p0).trans H4.out.1
      have hz3:W.heap.size+1≤W5.heap.size:=Nat.le_trans (by omega) (Nat.le_trans H4.out.2.size hk3.1)
      have hkp3:∀ b,p b→b≠W.heap.size→b<W.heap.size→W5.heap[b]?=W.heap[b]?:=fun b h1 h2 h3=>(hk3.2 b h1).trans ((H4.out.2.block b (by omega) h2).trans (HKP.out b h1 h2 h3))
      have HN:=Lib.hid (And.intro hsp3 (And.intro hkp3 hJ3));clear hsp3 hkp3 hJ3 hk3 hy hR;gi_wp2;go_roundw
      case rel =>
       refine⟨(j+1)+1,by omega,by go_num,?_,?_,HN.out.2.1,hz3⟩
       ·rw [Zv]
        exact HN.out.2.2
       ·rw [show j+1+1-1=j+1 by omega,hBv.out,hAv.out]
        exact HN.out.1
      case measure=>simp [intOf];omega
     ·gi_wp2
      exact bodyPost_ret (v:=.tuple #[]) (by simp [results,Tryz.f93]) rfl ⟨⟨_,rfl⟩,.inr ⟨_,⟨(j+1)+1,by omega,(Zv _ _).symm⟩,hJx3⟩⟩
  ·obtain rfl:k=m.ways.length:=by omega
   have d1:decide ((m.ways.length:Int)<(m.ways.length:Int))=false:=by simp
   gi_wp2;go_end0;exact⟨⟨_,rfl⟩,.inl ⟨_,rfl,hJs⟩⟩
theorem Z7e (n:Nat) (hn:1≤n) (p:Nat→Nat→Prop) (m:Msn) (vw vh vr:Value) (l:List Int) (Bm Bs bm n0:Nat) (w:World) (hV:validB m=true)
  (hm:MsnAt n0 w m vw vh vr) (hn0:n0≤w.heap.size) (hset:SetAt w bm l) (HM:Has w Bm (Zc m vw vh vr) 26) (HS:Boxed w Bs 83 (.map (some bm)))
  (p0:∀ B,p B B) (p1:∀ B,p B Bm) (p2:∀ B,p B Bs) (p3:∀ B,p B bm) (p4:∀ B b,b<n0→p B b) :
  SeqM n Tryz.prog 93 #[.pointer (some ⟨Bm,0,none⟩),.pointer (some ⟨Bs,0,none⟩)] (encR m l) (fun B=>KeepsP (p B)) (fun B r=>r=B) 1 m.ways.length
   (fun ys=>ys=upto id m.ways.length) (fun pre=>∃ j,j≤m.ways.length∧pre=upto id j) w:=fun lp J Jx W hW hJ _ hY h0 =>
 Z7h n hn (p W.heap.size) m vw vh vr l Bm Bs bm n0 W lp hV (hm.below (hW.mono hn0)) (Nat.le_trans hn0 hW.size) (hset.block (hW.block bm hset.lt)) (HM.below hW HM.lt) ((hW.block Bs HS.lt).trans HS)
  (p0 _) (p1 _) (p2 _) (p3 _) (p4 _) J Jx hJ hY h0
def bL (m:Msn) (l:List Int) (k:Nat):Value:=.int .i64 (rdB m l k)
def aL (m:Msn) (l:List Int) (k:Nat):Value:=.int .i64 (rdA m l k)
noncomputable def rdBU (m:Msn) (l:List Int):List Int:=upto (rdB m l) m.ways.length
noncomputable def rdAU (m:Msn) (l:List Int):List Int:=upto (rdA m l) m.ways.length
theorem Z8M (m:Msn) (vw vh vr vl:Value) (l:List Int) (w:World) (hm:MsnAt w.heap.size w m vw vh vr) (hl:Z9 w.heap.size w vl l) (hE:(validB m && stopsB m l)=false) :
  Calls Tryz.prog 16 #[.agg (Zc m vw vh vr),vl] w (UsedQ [] [] 1 w):=by
 obtain⟨t1,t2,t3,tb,tz⟩:=three w (Zc m vw vh vr) 26;have hv:=Lib.hid (Z0p m vw vh vr _ ((hm.below tb).mono (by omega)))
 have HT:=Lib.hid (And.intro t1 (And.intro t2 (And.intro t3 tb)));have HM:=Lib.hid hm;have HL:=Lib.hid hl;have hse:=fun hfx w1 h1 h2=>Z3o m vw vh vr vl l w1 hfx h1 h2
 obtain⟨⟨_,a1,cap1,rfl,_⟩,⟨_,a2,cap2,rfl,_⟩,⟨_,a3,cap3,rfl,_⟩⟩:=hm;obtain⟨_,al,capl,rfl,_⟩:=hl;clear t1 t2 t3 tb;cases h:validB m
 ·rw [h] at hv
  have h':=Lib.hid h;clear h hE tz hse;unfold Zc at *;go_enter Tryz.func16,Tryz.ntmps16;go_wp2_with fail;refine hv.out.mono ?_;rintro e w1 ⟨rfl,hb1⟩;obtain⟨t1,t2,t3,tb⟩:=HT.out;have k1:=Boxed.below t2 (hb1.mono (by simp):Below (w.heap.size+3) _ w1) (by omega)
  have k2:=Boxed.below t3 (hb1.mono (by simp):Below (w.heap.size+3) _ w1) (by omega)
  have B1:=tb.trans (hb1.mono (by simp;omega))
  have x1:=k1.cell;have x2:=k2.cell;have y1:=k1.frozen;have y2:=k2.frozen;have j1:=Lib.hid ((k1.set (.slice none 0 0)).other (by omega:w.heap.size+1≠w.heap.size+1+1) (.slice none 0 0))
  have j2:=Lib.hid ((k2.other (by omega:w.heap.size+1+1≠w.heap.size+1) (.slice none 0 0)).set (.slice none 0 0))
  have BY:=Lib.hid ((B1.setCell (p:=⟨w.heap.size+1,0,none⟩) (by simp) (.slice none 0 0)).setCell (p:=⟨w.heap.size+1+1,0,none⟩) (by simp;omega) (.slice none 0 0))
  clear hb1 k1 k2 t1 t2 t3 tb B1;go_wp2;generalize World.setCell (World.setCell w1 _ _) _ _=Y at *;have x1:=j1.out.cell;have x2:=j2.out.cell;exact bodyPost_ret (v:=.tuple #[.slice none 0 0,.slice none 0 0,.int .i64 1]) (by simp [results,Tryz.f16,go_sem,x1,x2]) rfl ⟨_,_,rfl,Z9.nil _ _,Z9.nil _ _,BY.out⟩
 ·replace hse:=hse (fun k hk=>(ZR (Z0u ((Zs m).1 h).ways hk)).2.2.2.2.1)
  rw [h] at hv hE;have hst:=Lib.hid (show stopsB m l=false by simpa using hE)
  have h':=Lib.hid h;have hse:=Lib.hid hse;clear h hE tz;unfold Zc at *;go_enter Tryz.func16,Tryz.ntmps16;go_wp2_with fail;refine hv.out.mono ?_;rintro e w1 ⟨rfl,hb1⟩;obtain⟨t1,t2,t3,tb⟩:=HT.out;have H1:=t1.below (hb1.mono (by simp):Below (w.heap.size+3) _ w1) (by omega)
  have k1:=Boxed.below t2 (hb1.mono (by simp):Below (w.heap.size+3) _ w1) (by omega)
  have k2:=Boxed.below t3 (hb1.mono (by simp):Below (w.heap.size+3) _ w1) (by omega)
  have B1:=tb.trans (hb1.mono (by simp;omega))
  have z1:w.heap.size+3≤w1.heap.size:=by have:=hb1.size;simp at this;omega
  obtain⟨c0,c1,c2,c3,c4,c5,c6,c7,c8,c9,c10⟩:=Zi (m:=m) (vw:=.slice a1 m.ways.length (m.ways.length+cap1)) (vh:=.slice a2 m.home.length (m.home.length+cap2)) (vr:=.slice a3 m.rocks.length (m.rocks.length+cap3)) H1;have HK:=Lib.hid (And.intro k1 (And.intro k2 B1));clear hb1 k1 k2 t1 t2 t3 tb B1 H1;go_wp2_with fail;refine (hse.out _ ((HM.out.1.below HK.out.2.2).mono HK.out.2.2.size) ((HL.out.below HK.out.2.2).mono HK.out.2.2.size)).mono ?_;rintro e w2 (⟨_,rfl,hb2⟩ | ⟨ht,_⟩)
  ·obtain⟨k1,k2,B1⟩:=HK.out
   have k1:=Boxed.below k1 hb2 (by omega)
   have k2:=Boxed.below k2 hb2 (by omega)
   have B2:=B1.trans (hb2.mono B1.size);have x1:=k1.cell;have x2:=k2.cell;have y1:=k1.frozen;have y2:=k2.frozen;have j1:=Lib.hid ((k1.set (.slice none 0 0)).other (by omega:w.heap.size+1≠w.heap.size+1+1) (.slice none 0 0))
   have j2:=Lib.hid ((k2.other (by omega:w.heap.size+1+1≠w.heap.size+1) (.slice none 0 0)).set (.slice none 0 0))
   have BY:=Lib.hid ((B2.setCell (p:=⟨w.heap.size+1,0,none⟩) (by simp) (.slice none 0 0)).setCell (p:=⟨w.heap.size+1+1,0,none⟩) (by simp;omega) (.slice none 0 0))
   clear hb2 k1 k2 B1 B2 c0 c1 c2 c3 c4 c5 c6 c7 c8 c9 c10;go_wp2;generalize World.setCell (World.setCell w2 _ _) _ _=Y at *;have x1:=j1.out.cell;have x2:=j2.out.cell;exact bodyPost_ret (v:=.tuple #[.slice none 0 0,.slice none 0 0,.int .i64 1]) (by simp [results,Tryz.f16,go_sem,x1,x2]) rfl ⟨_,_,rfl,Z9.nil _ _,Z9.nil _ _,BY.out⟩
  ·have h2:=hst.out
   rw [ht] at h2;cases h2
theorem Z1p (m : Msn) (vw vh vr vl : Value) (l : List Int) (w : World) (hm : MsnAt w.heap.size w m vw vh vr) (hl : Z9 w.heap.size w vl l) (hV : validB m = true) (hst : stopsB m l = true) :
  Calls Tryz.prog 16 #[.agg (Zc m vw vh vr),vl] w (UsedN (rdBU m l) (rdAU m l) 0 w):=by
 obtain⟨t1,t2,t3,tb,tz⟩:=three w (Zc m vw vh vr) 26;have hv:=Z0p m vw vh vr _ ((hm.below tb).mono (by omega))
 rw [hV] at hv;have hv:=Lib.hid hv;have HT:=Lib.hid (And.intro t1 (And.intro t2 (And.intro t3 tb)));have HM:=Lib.hid hm;have HL:=Lib.hid hl;have HV:=Lib.hid (And.intro hV hst);have hse:=Lib.hid (fun w1 h1 h2=>Z3o m vw vh vr vl l w1 (fun k hk=>(ZR (Z0u ((Zs m).1 hV).ways hk)).2.2.2.2.1) h1 h2)
 have hwy:=Lib.hid (fun b w1=>Z7f m vw vh vr b w1)
 obtain⟨⟨_,a1,cap1,rfl,_⟩,⟨_,a2,cap2,rfl,_⟩,⟨_,a3,cap3,rfl,_⟩⟩:=hm;obtain⟨_,al,capl,rfl,_⟩:=hl;have n41:=((Zs m).1 hV).n41;clear t1 t2 t3 tb tz hV hst;unfold Zc at *;refine (callsIn_wide (n:=9)).1 ?_;refine callsIn_of_wp_marks Tryz.func16 rfl trivial ?_ rfl;simp only [Tryz.ntmps16,List.size_toArray,List.length_cons,List.length_nil,Nat.reduceAdd,Nat.reduceSub,Array.replicate_succ,Array.replicate_zero,List.push_toArray,List.append_toArray,List.nil_append,List.cons_append];refine wpIn_wide.2 ?_;go_wp2_with fail;refine hv.out.mono ?_;rintro e w1 ⟨rfl,hb1⟩;obtain⟨t1,t2,t3,tb⟩:=HT.out;have H1:=t1.below (hb1.mono (by simp):Below (w.heap.size+3) _ w1) (by omega)
 have k1:=Boxed.below t2 (hb1.mono (by simp):Below (w.heap.size+3) _ w1) (by omega)
 have k2:=Boxed.below t3 (hb1.mono (by simp):Below (w.heap.size+3) _ w1) (by omega)
 have B1:=tb.trans (hb1.mono (by simp;omega))
 have z1:w.heap.size+3≤w1.heap.size:=by have:=hb1.size;simp at this;omega
 obtain⟨c0,c1,c2,c3,c4,c5,c6,c7,c8,c9,c10⟩:=Zi (m:=m) (vw:=.slice a1 m.ways.length (m.ways.length+cap1)) (vh:=.slice a2 m.home.length (m.home.length+cap2)) (vr:=.slice a3 m.rocks.length (m.rocks.length+cap3)) H1;have HK:=Lib.hid (And.intro k1 (And.intro k2 (And.intro B1 H1)));clear hb1 k1 k2 t1 t2 t3 tb B1 H1;go_wp2_with fail;refine (hse.out _ ((HM.out.1.below HK.out.2.2.1).mono HK.out.2.2.1.size) ((HL.out.below HK.out.2.2.1).mono HK.out.2.2.1.size)).mono ?_;rintro e w2 (⟨h0,_⟩ | ⟨_,bm,rfl,hS,hsz,hb2⟩)
 ·exact absurd h0 (by rw [HV.out.2];simp)
 obtain⟨k1,k2,B1,H1⟩:=HK.out;have k1:=Boxed.below k1 hb2 (by omega)
 have k2:=Boxed.below k2 hb2 (by omega)
 have H2:=H1.below hb2 H1.lt;have B2:=B1.trans (hb2.mono B1.size);have z2:w.heap.size+3≤w2.heap.size:=Nat.le_trans z1 hb2.size;clear c0 c1 c2 c3 c4 c5 c6 c7 c8 c9 c10 HK;obtain⟨c0,c1,c2,c3,c4,c5,c6,c7,c8,c9,c10⟩:=Zi (m:=m) (vw:=.slice a1 m.ways.length (m.ways.length+cap1)) (vh:=.slice a2 m.home.length (m.home.length+cap2)) (vr:=.slice a3 m.rocks.length (m.rocks.length+cap3)) H2;have HK:=Lib.hid (And.intro k1 (And.intro k2 (And.intro B2 hS)));clear hb2 k1 k2 B1 B2 H1 H2 hS hsz;go_wp2_with (go_at_call 40;refine (hwy.out _ _).mono ?_;rintro e w3 ⟨rfl,rfl⟩);generalize hW0:World.alloc (World.alloc w2 _) _=W0;have hz0:W0.heap.size=w2.heap.size+2:=by rw [← hW0];simp
 have hB0:Below w2.heap.size w2 W0:=by rw [← hW0];exact ((Below.refl _ w2).alloc (Nat.le_refl _) _).alloc (by first | omega | (simp;done) | (simp;omega)) _
 obtain⟨k1,k2,B2,hS⟩:=HK.out;have bT:=Boxed.below k1 hB0 (by omega)
 have bE:=Boxed.below k2 hB0 (by omega)
 have hBw:Below w.heap.size w W0:=B2.trans (hB0.mono (by omega))
 have bM:Has W0 w2.heap.size #[.slice a1 m.ways.length (m.ways.length+cap1),.slice a2 m.home.length (m.home.length+cap2),.int .i64 m.start,.slice a3 m.rocks.length (m.rocks.length+cap3),.int .i64 m.speed,.int .i64 m.part,.int .i64 m.flow,.int .i64 m.idle,.int .i64 m.drive,.int .i64 m.battery,.int .i64 m.deadline] 26:=by
  rw [← hW0];exact (Has.new w2 _ _).below ((Below.refl (w2.heap.size+1) _).alloc (by simp) _) (by omega)
 have bS:Boxed W0 (w2.heap.size+1) 83 (.map (some bm)):=by
  rw [← hW0];have:=Boxed.new (w2.alloc (.cells #[.slice a1 m.ways.length (m.ways.length+cap1),.slice a2 m.home.length (m.home.length+cap2),.int .i64 m.start,.slice a3 m.rocks.length (m.rocks.length+cap3),.int .i64 m.speed,.int .i64 m.part,.int .i64 m.flow,.int .i64 m.idle,.int .i64 m.drive,.int .i64 m.battery,.int .i64 m.deadline] 26)) 83 (.map (some bm))
  rwa [World.size_alloc] at this
 have hset:SetAt W0 bm l:=hS.block (hB0.block bm hS.lt);have hlt:=hset.lt;have hmW:MsnAt w.heap.size W0 m _ _ _:=HM.out.below hBw;have hbm:bm<w2.heap.size:=hS.lt;have hsb:bm≠w.heap.size+1∧bm≠w.heap.size+1+1:=by
  obtain⟨_,_,⟨es,clock,h0,_⟩,_⟩:=hS;exact⟨fun e=>(by rw [e,show w2.heap[w.heap.size+1]?=_ from k1] at h0;cases h0),fun e=>(by rw [e,show w2.heap[w.heap.size+1+1]?=_ from k2] at h0;cases h0)⟩
 clear hW0 c0 c1 c2 c3 c4 c5 c6 c7 c8 c9 c10 k1 k2 B2 hS HK;refine (wpIn_wide (n:=9)).1 ?_;refine Z1H (by omega) (gf:=93) (lb:=#[.pointer (some ⟨w2.heap.size,0,none⟩),.pointer (some ⟨w2.heap.size+1,0,none⟩)]) rfl (enters_of Tryz.func93 (by kernel_rfl) rfl)
  (Z7e 8 (by omega) (fun B b=>(b<w2.heap.size+2∧b≠w.heap.size+1∧b≠w.heap.size+1+1)∨b=B) m _ _ _ l w2.heap.size (w2.heap.size+1) bm w.heap.size W0 HV.out.1 hmW hBw.size hset bM bS (fun _=>.inr rfl) (fun _=>.inl ⟨by omega,by omega,by omega⟩) (fun _=>.inl ⟨by omega,by omega,by omega⟩) (fun _=>.inl ⟨by omega,hsb.1,hsb.2⟩) (fun _ b hb=>.inl ⟨by omega,by omega,by omega⟩))
  (fun h k=>KeepsP.trans h k) ?hKb (Below.refl _ _) (fun _=>rfl)
  (fun pre W=>(∃ v1 v2,Boxed W (w.heap.size+1) 27 v1∧Boxed W (w.heap.size+1+1) 27 v2∧W.ownsRow (w2.heap.size+5) 3 1 v1 pre.length (pre.map (bL m l))∧W.ownsRow (w2.heap.size+5) 3 1 v2 pre.length (pre.map (aL m l))∧(v1.ownBlock=none∨v1.ownBlock≠v2.ownBlock))∧Below w.heap.size w W)
  (fun _ _ _=>False) ?hI (fun _=>OwnM.pure (fun _=>False)) ⟨⟨_,_,bT,bE,World.ownsRow_nil _ _ _ _,World.ownsRow_nil _ _ _ _,.inl rfl⟩,hBw⟩
  (fun x a' W=>∃ Bc,a'={ tmps:=#[.agg #[.slice a1 m.ways.length (m.ways.length+cap1),.slice a2 m.home.length (m.home.length+cap2),.int .i64 m.start,.slice a3 m.rocks.length (m.rocks.length+cap3),.int .i64 m.speed,.int .i64 m.part,.int .i64 m.flow,.int .i64 m.idle,.int .i64 m.drive,.int .i64 m.battery,.int .i64 m.deadline],.slice al l.length (l.length+capl),.pointer (some ⟨w.heap.size,0,none⟩),undef,.pointer (some ⟨w.heap.size+1,0,none⟩),.pointer (some ⟨w.heap.size+1+1,0,none⟩),.int .i64 0,.map (some bm),.bool true,.pointer (some ⟨Bc,0,none⟩),.agg #[.slice a1 m.ways.length (m.ways.length+cap1),.slice a2 m.home.length (m.home.length+cap2),.int .i64 m.start,.slice a3 m.rocks.length (m.rocks.length+cap3),.int .i64 m.speed,.int .i64 m.part,.int .i64 m.flow,.int .i64 m.idle,.int .i64 m.drive,.int .i64 m.battery,.int .i64 m.deadline],.bool true,.bool false,.tuple #[.map (some bm),.bool true],.agg #[.slice a1 m.ways.length (m.ways.length+cap1),.slice a2 m.home.length (m.home.length+cap2),.int .i64 m.start,.slice a3 m.rocks.length (m.rocks.length+cap3),.int .i64 m.speed,.int .i64 m.part,.int .i64 m.flow,.int .i64 m.idle,.int .i64 m.drive,.int .i64 m.battery,.int .i64 m.deadline],.slice al l.length (l.length+capl),.tuple #[.map (some bm),.bool true],.map (some bm),.bool true,.bool true,.bool false,.agg #[.slice a1 m.ways.length (m.ways.length+cap1),.slice a2 m.home.length (m.home.length+cap2),.int .i64 m.start,.slice a3 m.rocks.length (m.rocks.length+cap3),.int .i64 m.speed,.int .i64 m.part,.int .i64 m.flow,.int .i64 m.idle,.int .i64 m.drive,.int .i64 m.battery,.int .i64 m.deadline],.map (some bm),.func (.func 93) #[] #[.pointer (some ⟨w2.heap.size,0,none⟩),.pointer (some ⟨w2.heap.size+1,0,none⟩)],.agg #[.int .i64 (rdB m l x),.int .i64 (rdA m l x)],undef,undef,undef,undef,undef,undef,undef,undef,undef,undef,undef,undef],defers:=[] }∧W.heap[Bc]?=some (.cells #[bL m l x,aL m l x] 90 (0,0))∧w2.heap.size+5≤Bc)
  ?hAx ?assign ?body ?done ?stop
 case hKb=>exact fun W o o' _ _=>⟨by simp,fun b hb=>World.putObj_heap_other (by rcases hb with⟨h,_⟩ | h <;> omega)⟩
 case hI =>
  refine OwnM.and ?_ (OwnM.below w (Nat.le_refl _) (by omega) (fun r hr=>by omega))
  rintro s X Y row ⟨v1,v2,h1,h2,r1,r2,hne⟩ hg hrow;have off:∀ {b:Nat} {t:TypeId} {v:Value},Boxed X b t v→b<W0.heap.size→some b≠row:=fun {b t v} hb hlt e'=>by
   obtain⟨o,ho,hc⟩:=hrow _ e'.symm;rcases hc with⟨_,hc⟩ | ⟨hc,_⟩
   ·omega
   ·rw [show X.heap[b]?=_ from hb] at ho;cases ho;cases hc
  have offr:∀ {v:Value} {n:Nat} {xs:List Value},X.ownsRow (w2.heap.size+5) 3 1 v n xs→v.ownBlock=none∨v.ownBlock≠row:=fun {v n xs} hr=>by
   rcases hr.2 with⟨rfl,_⟩ | ⟨g,cap,cur,rfl,hbg,hgb,_⟩
   ·exact .inl rfl
   ·refine .inr fun e'=>?_
    obtain⟨o,ho,hc⟩:=hrow g (by simpa [Value.ownBlock] using e'.symm)
    rcases hc with⟨_,hc⟩ | ⟨hc,_⟩
    ·omega
    ·rw [hgb] at ho;cases ho;cases hc
  exact⟨v1,v2,h1.kept hg (off h1 (by omega)),h2.kept hg (off h2 (by omega)),r1.kept hg (offr r1),r2.kept hg (offr r2),hne⟩
 case hAx =>
  rintro x a' s X Y row ⟨Bc,rfl,hc,hBc⟩ hg hrow;refine⟨Bc,rfl,(hg.block Bc (Array.getElem?_eq_some_iff.1 hc).1 fun e'=>?_).trans hc,hBc⟩
  obtain⟨o,ho,h⟩:=hrow _ e'.symm;rcases h with⟨_,h⟩ | ⟨h,_⟩
  ·omega
  ·rw [hc] at ho;cases ho;cases h
 case assign =>
  rintro ll pre x W K hi hsz hK;have hc0:=Has.new W #[bL m l x,aL m l x] 90;obtain⟨⟨v1,v2,h1,h2,r1,r2,hne⟩,hB⟩:=hi;have hI:=Lib.hid (And.intro (⟨v1,v2,h1.alloc (.cells #[bL m l x,aL m l x] 90),h2.alloc _,r1.alloc _,r2.alloc _,hne⟩:∃ v1 v2,Boxed (W.alloc (.cells #[bL m l x,aL m l x] 90)) (w.heap.size+1) 27 v1∧Boxed (W.alloc (.cells #[bL m l x,aL m l x] 90)) (w.heap.size+1+1) 27 v2∧(W.alloc (.cells #[bL m l x,aL m l x] 90)).ownsRow (w2.heap.size+5) 3 1 v1 pre.length (pre.map (bL m l))∧(W.alloc (.cells #[bL m l x,aL m l x] 90)).ownsRow (w2.heap.size+5) 3 1 v2 pre.length (pre.map (aL m l))∧(v1.ownBlock=none∨v1.ownBlock≠v2.ownBlock)) (hB.trans (((Below.refl w.heap.size W).alloc hB.size (.cells #[bL m l x,aL m l x] 90)))));have HC:=Lib.hid hc0;clear h1 h2 r1 r2 hne hB hc0;unfold encR;gi_wp2;exact hK _ _ ((KeepsOthers.alloc W _).from _) ⟨by simp,fun b hb=>Below.heap_alloc _ _ _ (by rcases hb with⟨h,_⟩ | h <;> omega)⟩ hI.out ⟨_,rfl,HC.out,by omega⟩
 case body =>
  rintro ll pre x a' W hll ⟨r,hr⟩ ⟨⟨v1,v2,h1,h2,r1,r2,hne⟩,hB⟩ ⟨Bc,rfl,hc,hBc⟩ hlt hsz;have hn:pre.length≤100:=by omega
  have hTW:=(Two.refl r1 r2 hne).grow (X':=W.drew) ⟨rfl,rfl,rfl,Nat.le_refl _,fun _ _ _=>rfl⟩
  have hclt:=(Array.getElem?_eq_some_iff.1 hc).1;have hcr:∀ {v:Value} {n:Nat} {xs:List Value},W.ownsRow (w2.heap.size+5) 3 1 v n xs→some Bc≠v.ownBlock:=fun {v n xs} hr e'=>by
   rcases hr.2 with⟨rfl,_⟩ | ⟨g,cap,cur,rfl,_,hg,_⟩
   ·simp [Value.ownBlock] at e'
   ·obtain rfl:Bc=g:=by simpa [Value.ownBlock] using e'
    rw [hc] at hg;cases hg
  have hc1:=hcr r1;have hc2:=hcr r2;simp only [bL,aL] at hc;have SS:Hid (∀ (X:World) (u1 u2:Value) (n1 n2:Nat) (l1 l2:List Value),Two (w2.heap.size+5) 3 W X v1 v2 u1 u2 n1 n2 l1 l2→Boxed X (w.heap.size+1) 27 v1∧Boxed X (w.heap.size+1+1) 27 v2∧X.heap[Bc]?=some (.cells #[.int .i64 (rdB m l x),.int .i64 (rdA m l x)] 90 (0,0))):=fun X u1 u2 n1 n2 l1 l2 h =>
   ⟨(h.keep _ (by omega) (Zq r1 (by omega)) (Zq r2 (by omega))).trans h1,(h.keep _ (by omega) (Zq r1 (by omega)) (Zq r2 (by omega))).trans h2,(h.keep _ hclt hc1 hc2).trans hc⟩
  have HR:=Lib.hid (And.intro r1 (And.intro r2 (And.intro h1 (And.intro h2 hB))));have hbase:w2.heap.size+5≤W.heap.size:=by omega
  have HT:=Lib.hid hTW;obtain⟨i0,hi,hz0',hz1',hz2'⟩:=info_parts intInfo;clear r1 r2 h1 h2 hB hne hTW hc hcr hc1 hc2 hr;gi_wp2;refine Zg (ZI _ _) 10 (fun X=>Boxed X (w.heap.size+1) 27 v1∧Boxed X (w.heap.size+1+1) 27 v2∧X.heap[Bc]?=some (.cells #[.int .i64 (rdB m l x),.int .i64 (rdA m l x)] 90 (0,0))) (by kernel_rfl) (by kernel_rfl) (by kernel_rfl) fun hH inv0=>?_
  refine sk hH (i:=0) (v:=v1) (Zd rfl) inv0 (fun X hX=>?_) fun inv1=>?_
  ·have hx:=hX.1.cell;go_simp
  simp only [Act.put,zq4,zr4,zs4];refine sk hH (i:=1) (v:=.pointer (some ⟨Bc,0,none⟩)) (Zd rfl) inv1 (fun X hX=>?_) fun inv2=>?_
  ·go_simp
  simp only [Act.put,zq4,zr4,zs4];refine sk hH (i:=2) (v:=.int .i64 (rdB m l x)) (Zd rfl) inv2 (fun X hX=>?_) fun inv3=>?_
  ·have hx:=Zk hX.2.2 (i:=0) rfl;go_simp
  simp only [Act.put,zq4,zr4,zs4];refine sk hH (i:=5) (v:=v2) (Zd rfl) inv3 (fun X hX=>?_) fun inv4=>?_
  ·have hx:=hX.2.1.cell;go_simp
  simp only [Act.put,zq4,zr4,zs4];refine sk hH (i:=6) (v:=.pointer (some ⟨Bc,1,none⟩)) (Zd rfl) inv4 (fun X hX=>?_) fun inv5=>?_
  ·go_simp
  simp only [Act.put,zq4,zr4,zs4];refine sk hH (i:=7) (v:=.int .i64 (rdA m l x)) (Zd rfl) inv5 (fun X hX=>?_) fun inv6=>?_
  ·have hx:=Zk hX.2.2 (i:=1) rfl;go_simp
  simp only [Act.put,zq4,zr4,zs4];clear inv0 inv1 inv2 inv3 inv4 inv5 inv6 hH;generalize hTx:rdB m l x=T at *;generalize hEx:rdA m l x=E at *;generalize W.drew=X0 at *;have hT:=HT.out;clear HT;refine Zw (rs:=[3,8]) (by kernel_rfl) (by simp) (SS.out _ _ _ _ _ _ _ hT) (by simp) (fun i hi'=>?_)
  simp only [List.mem_cons,List.not_mem_nil,or_false] at hi';rcases hi' with rfl | rfl
  ·refine ZU (Zd rfl) rfl (v:=.slice (some ⟨X0.heap.size,0,none⟩) 1 1) (w':=X0.alloc (.cells #[.int .i64 T] 3)) (by go_simp) ?_
   simp only [Act.put,zq4,zr4,zs4];have b3:=Boxed.new X0 3 (.int .i64 T);have zs3:W.heap.size≤X0.heap.size:=hT.size;replace hT:=hT.alloc (.cells #[.int .i64 T] 3);generalize X0.alloc (.cells #[.int .i64 T] 3)=X1 at *;generalize X0.heap.size=s3 at *;refine Zw (rs:=[4,8]) (by kernel_rfl) (by simp) (SS.out _ _ _ _ _ _ _ hT) (by simp) (fun i hi'=>?_)
   simp only [List.mem_cons,List.not_mem_nil,or_false] at hi';rcases hi' with rfl | rfl
   ·refine ZC (Zd rfl) rfl (.tmp 25) (.tmp 28) 27 rfl (w2.heap.size+5) 3 i0 (.int .i64 0) 1 8 Tryz.underlying27 hi hz0' hz1' hz2' rfl (by decide) _ _ _ rfl hT.r1 ⟨s3,0,none⟩ 1 1 [.int .i64 T] rfl rfl (ZE b3) (by simp [Value.oneCell']) (by unfold maxLen;omega) (by omega) (Nat.le_trans hbase hT.size) ?_
    intro u1 X2 hr1 hg1 ho1;simp only [Act.put,zq4,zr4,zs4];replace hT:=hT.app1 hg1 hr1 ho1;obtain⟨g1,cp1,rfl⟩:=ownsRow_succ hr1;clear hg1 hr1 ho1 b3;refine Zw (rs:=[8]) (by kernel_rfl) (by simp) (SS.out _ _ _ _ _ _ _ hT) (by simp) (fun i hi'=>?_)
    simp only [List.mem_cons,List.not_mem_nil,or_false] at hi';subst hi';refine ZU (Zd rfl) rfl (v:=.slice (some ⟨X2.heap.size,0,none⟩) 1 1) (w':=X2.alloc (.cells #[.int .i64 E] 3)) (by go_simp) ?_
    simp only [Act.put,zq4,zr4,zs4];have b8:=Boxed.new X2 3 (.int .i64 E);have zs8:W.heap.size≤X2.heap.size:=hT.size;replace hT:=hT.alloc (.cells #[.int .i64 E] 3);generalize X2.alloc (.cells #[.int .i64 E] 3)=X3 at *;generalize X2.heap.size=s8 at *;refine Zw (rs:=[9]) (by kernel_rfl) (by simp) (SS.out _ _ _ _ _ _ _ hT) (by simp) (fun i hi'=>?_)
    simp only [List.mem_cons,List.not_mem_nil,or_false] at hi';subst hi';refine ZC (Zd rfl) rfl (.tmp 30) (.tmp 33) 27 rfl (w2.heap.size+5) 3 i0 (.int .i64 0) 1 8 Tryz.underlying27 hi hz0' hz1' hz2' rfl (by decide) _ _ _ rfl hT.r2 ⟨s8,0,none⟩ 1 1 [.int .i64 E] rfl rfl (ZE b8) (by simp [Value.oneCell']) (by unfold maxLen;omega) (by omega) (Nat.le_trans hbase hT.size) ?_
    intro u2 X4 hr2 hg2 ho2;simp only [Act.put,zq4,zr4,zs4];replace hT:=hT.app2 hg2 hr2 ho2;obtain⟨g2,cp2,rfl⟩:=ownsRow_succ hr2;clear hg2 hr2 ho2 b8;refine Zm (by kernel_rfl) (SS.out _ _ _ _ _ _ _ hT) ?_
    simp only [List.drop_succ_cons,List.drop_zero];obtain⟨r1,r2,h1,h2,hB⟩:=HR.out;obtain⟨_,⟨q3,q4⟩,⟨q5,q6⟩,q7,q8,q9⟩:=hT.store (t:=27) r1 r2 h1 h2 (by omega) (by omega) (by omega)
    obtain⟨p1,p2,_⟩:=SS.out _ _ _ _ _ _ _ hT;have x1:=p1.cell;have y1:=p1.frozen;have x2:=p2.cell;have y2:=p2.frozen;have HQ:=Lib.hid (And.intro q3 (And.intro q4 (And.intro q5 (And.intro q6 (And.intro q7 (And.intro q8 (And.intro q9 (And.intro hT.ne (And.intro r1 (And.intro r2 hB))))))))));clear q3 q4 q5 q6 q7 q8 q9 r1 r2 h1 h2 hB p1 p2 hT;gi_wp2;obtain⟨q3,q4,q5,q6,q7,q8,q9,hne,r1,r2,hB⟩:=HQ.out;refine⟨q7.from _,⟨q9.1,fun b hb=>?_⟩,⟨_,_,q3,q4,?_,?_,hne⟩,hB.trans (q8 _ (by omega) (by omega) (by omega))⟩
    ·rcases hb with⟨b1,b2,b3⟩ | b1
     ·exact q9.2 b (by omega) b2 b3 (Zq r1 (by omega)) (Zq r2 (by omega))
     ·exact q9.2 b (by omega) (by omega) (by omega) (Zq r1 (by omega)) (Zq r2 (by omega))
    ·rw [show (pre++[x]).length=pre.length+1 by simp,show (pre++[x]).map (bL m l)=pre.map (bL m l)++[.int .i64 T] by rw [← hTx];simp [bL]]
     exact q5
    ·rw [show (pre++[x]).length=pre.length+1 by simp,show (pre++[x]).map (aL m l)=pre.map (aL m l)++[.int .i64 E] by rw [← hEx];simp [aL]]
     exact q6
   ·refine ZU (Zd rfl) rfl (v:=.slice (some ⟨X1.heap.size,0,none⟩) 1 1) (w':=X1.alloc (.cells #[.int .i64 E] 3)) (by go_simp) ?_
    simp only [Act.put,zq4,zr4,zs4];have b8:=Boxed.new X1 3 (.int .i64 E);have zs8:W.heap.size≤X1.heap.size:=hT.size;have b3:=b3.alloc (.cells #[.int .i64 E] 3);replace hT:=hT.alloc (.cells #[.int .i64 E] 3);generalize X1.alloc (.cells #[.int .i64 E] 3)=X2 at *;generalize X1.heap.size=s8 at *;refine Zw (rs:=[4]) (by kernel_rfl) (by simp) (SS.out _ _ _ _ _ _ _ hT) (by simp) (fun i hi'=>?_)
    simp only [List.mem_cons,List.not_mem_nil,or_false] at hi';subst hi';refine ZC (Zd rfl) rfl (.tmp 25) (.tmp 28) 27 rfl (w2.heap.size+5) 3 i0 (.int .i64 0) 1 8 Tryz.underlying27 hi hz0' hz1' hz2' rfl (by decide) _ _ _ rfl hT.r1 ⟨s3,0,none⟩ 1 1 [.int .i64 T] rfl rfl (ZE b3) (by simp [Value.oneCell']) (by unfold maxLen;omega) (by omega) (Nat.le_trans hbase hT.size) ?_
    intro u1 X3 hr1 hg1 ho1;simp only [Act.put,zq4,zr4,zs4];have b8:=b8.kept hg1 (fun e'=>by have:=(HR.out.1.lt _ e'.symm).2;omega)
    replace hT:=hT.app1 hg1 hr1 ho1;obtain⟨g1,cp1,rfl⟩:=ownsRow_succ hr1;clear hg1 hr1 ho1 b3;refine Zw (rs:=[9]) (by kernel_rfl) (by simp) (SS.out _ _ _ _ _ _ _ hT) (by simp) (fun i hi'=>?_)
    simp only [List.mem_cons,List.not_mem_nil,or_false] at hi';subst hi';refine ZC (Zd rfl) rfl (.tmp 30) (.tmp 33) 27 rfl (w2.heap.size+5) 3 i0 (.int .i64 0) 1 8 Tryz.underlying27 hi hz0' hz1' hz2' rfl (by decide) _ _ _ rfl hT.r2 ⟨s8,0,none⟩ 1 1 [.int .i64 E] rfl rfl (ZE b8) (by simp [Value.oneCell']) (by unfold maxLen;omega) (by omega) (Nat.le_trans hbase hT.size) ?_
    intro u2 X4 hr2 hg2 ho2;simp only [Act.put,zq4,zr4,zs4];replace hT:=hT.app2 hg2 hr2 ho2;obtain⟨g2,cp2,rfl⟩:=ownsRow_succ hr2;clear hg2 hr2 ho2 b8;refine Zm (by kernel_rfl) (SS.out _ _ _ _ _ _ _ hT) ?_
    simp only [List.drop_succ_cons,List.drop_zero];obtain⟨r1,r2,h1,h2,hB⟩:=HR.out;obtain⟨_,⟨q3,q4⟩,⟨q5,q6⟩,q7,q8,q9⟩:=hT.store (t:=27) r1 r2 h1 h2 (by omega) (by omega) (by omega)
    obtain⟨p1,p2,_⟩:=SS.out _ _ _ _ _ _ _ hT;have x1:=p1.cell;have y1:=p1.frozen;have x2:=p2.cell;have y2:=p2.frozen;have HQ:=Lib.hid (And.intro q3 (And.intro q4 (And.intro q5 (And.intro q6 (And.intro q7 (And.intro q8 (And.intro q9 (And.intro hT.ne (And.intro r1 (And.intro r2 hB))))))))));clear q3 q4 q5 q6 q7 q8 q9 r1 r2 h1 h2 hB p1 p2 hT;gi_wp2;obtain⟨q3,q4,q5,q6,q7,q8,q9,hne,r1,r2,hB⟩:=HQ.out;refine⟨q7.from _,⟨q9.1,fun b hb=>?_⟩,⟨_,_,q3,q4,?_,?_,hne⟩,hB.trans (q8 _ (by omega) (by omega) (by omega))⟩
    ·rcases hb with⟨b1,b2,b3⟩ | b1
     ·exact q9.2 b (by omega) b2 b3 (Zq r1 (by omega)) (Zq r2 (by omega))
     ·exact q9.2 b (by omega) (by omega) (by omega) (Zq r1 (by omega)) (Zq r2 (by omega))
    ·rw [show (pre++[x]).length=pre.length+1 by simp,show (pre++[x]).map (bL m l)=pre.map (bL m l)++[.int .i64 T] by rw [← hTx];simp [bL]]
     exact q5
    ·rw [show (pre++[x]).length=pre.length+1 by simp,show (pre++[x]).map (aL m l)=pre.map (aL m l)++[.int .i64 E] by rw [← hEx];simp [aL]]
     exact q6
  ·refine ZU (Zd rfl) rfl (v:=.slice (some ⟨X0.heap.size,0,none⟩) 1 1) (w':=X0.alloc (.cells #[.int .i64 E] 3)) (by go_simp) ?_
   simp only [Act.put,zq4,zr4,zs4];have b8:=Boxed.new X0 3 (.int .i64 E);have zs8:W.heap.size≤X0.heap.size:=hT.size;replace hT:=hT.alloc (.cells #[.int .i64 E] 3);generalize X0.alloc (.cells #[.int .i64 E] 3)=X1 at *;generalize X0.heap.size=s8 at *;refine Zw (rs:=[3]) (by kernel_rfl) (by simp) (SS.out _ _ _ _ _ _ _ hT) (by simp) (fun i hi'=>?_)
   simp only [List.mem_cons,List.not_mem_nil,or_false] at hi';subst hi';refine ZU (Zd rfl) rfl (v:=.slice (some ⟨X1.heap.size,0,none⟩) 1 1) (w':=X1.alloc (.cells #[.int .i64 T] 3)) (by go_simp) ?_
   simp only [Act.put,zq4,zr4,zs4];have b3:=Boxed.new X1 3 (.int .i64 T);have zs3:W.heap.size≤X1.heap.size:=hT.size;have b8:=b8.alloc (.cells #[.int .i64 T] 3);replace hT:=hT.alloc (.cells #[.int .i64 T] 3);generalize X1.alloc (.cells #[.int .i64 T] 3)=X2 at *;generalize X1.heap.size=s3 at *;refine Zw (rs:=[4]) (by kernel_rfl) (by simp) (SS.out _ _ _ _ _ _ _ hT) (by simp) (fun i hi'=>?_)
   simp only [List.mem_cons,List.not_mem_nil,or_false] at hi';subst hi';refine ZC (Zd rfl) rfl (.tmp 25) (.tmp 28) 27 rfl (w2.heap.size+5) 3 i0 (.int .i64 0) 1 8 Tryz.underlying27 hi hz0' hz1' hz2' rfl (by decide) _ _ _ rfl hT.r1 ⟨s3,0,none⟩ 1 1 [.int .i64 T] rfl rfl (ZE b3) (by simp [Value.oneCell']) (by unfold maxLen;omega) (by omega) (Nat.le_trans hbase hT.size) ?_
   intro u1 X3 hr1 hg1 ho1;simp only [Act.put,zq4,zr4,zs4];have b8:=b8.kept hg1 (fun e'=>by have:=(HR.out.1.lt _ e'.symm).2;omega)
   replace hT:=hT.app1 hg1 hr1 ho1;obtain⟨g1,cp1,rfl⟩:=ownsRow_succ hr1;clear hg1 hr1 ho1 b3;refine Zw (rs:=[9]) (by kernel_rfl) (by simp) (SS.out _ _ _ _ _ _ _ hT) (by simp) (fun i hi'=>?_)
   simp only [List.mem_cons,List.not_mem_nil,or_false] at hi';subst hi';refine ZC (Zd rfl) rfl (.tmp 30) (.tmp 33) 27 rfl (w2.heap.size+5) 3 i0 (.int .i64 0) 1 8 Tryz.underlying27 hi hz0' hz1' hz2' rfl (by decide) _ _ _ rfl hT.r2 ⟨s8,0,none⟩ 1 1 [.int .i64 E] rfl rfl (ZE b8) (by simp [Value.oneCell']) (by unfold maxLen;omega) (by omega) (Nat.le_trans hbase hT.size) ?_
   intro u2 X4 hr2 hg2 ho2;simp only [Act.put,zq4,zr4,zs4];replace hT:=hT.app2 hg2 hr2 ho2;obtain⟨g2,cp2,rfl⟩:=ownsRow_succ hr2;clear hg2 hr2 ho2 b8;refine Zm (by kernel_rfl) (SS.out _ _ _ _ _ _ _ hT) ?_
   simp only [List.drop_succ_cons,List.drop_zero];obtain⟨r1,r2,h1,h2,hB⟩:=HR.out;obtain⟨_,⟨q3,q4⟩,⟨q5,q6⟩,q7,q8,q9⟩:=hT.store (t:=27) r1 r2 h1 h2 (by omega) (by omega) (by omega)
   obtain⟨p1,p2,_⟩:=SS.out _ _ _ _ _ _ _ hT;have x1:=p1.cell;have y1:=p1.frozen;have x2:=p2.cell;have y2:=p2.frozen;have HQ:=Lib.hid (And.intro q3 (And.intro q4 (And.intro q5 (And.intro q6 (And.intro q7 (And.intro q8 (And.intro q9 (And.intro hT.ne (And.intro r1 (And.intro r2 hB))))))))));clear q3 q4 q5 q6 q7 q8 q9 r1 r2 h1 h2 hB p1 p2 hT;gi_wp2;obtain⟨q3,q4,q5,q6,q7,q8,q9,hne,r1,r2,hB⟩:=HQ.out;refine⟨q7.from _,⟨q9.1,fun b hb=>?_⟩,⟨_,_,q3,q4,?_,?_,hne⟩,hB.trans (q8 _ (by omega) (by omega) (by omega))⟩
   ·rcases hb with⟨b1,b2,b3⟩ | b1
    ·exact q9.2 b (by omega) b2 b3 (Zq r1 (by omega)) (Zq r2 (by omega))
    ·exact q9.2 b (by omega) (by omega) (by omega) (Zq r1 (by omega)) (Zq r2 (by omega))
   ·rw [show (pre++[x]).length=pre.length+1 by simp,show (pre++[x]).map (bL m l)=pre.map (bL m l)++[.int .i64 T] by rw [← hTx];simp [bL]]
    exact q5
   ·rw [show (pre++[x]).length=pre.length+1 by simp,show (pre++[x]).map (aL m l)=pre.map (aL m l)++[.int .i64 E] by rw [← hEx];simp [aL]]
    exact q6
 case done =>
  rintro D ys W hD rfl ⟨⟨v1,v2,h1,h2,r1,r2,hne⟩,hB⟩ hK;have e1:(upto id m.ways.length).length=m.ways.length:=Zx _ _;have e2:(upto id m.ways.length).map (bL m l)=(rdBU m l).map (Value.int .i64):=by simp [rdBU,upto,bL]
  have e3:(upto id m.ways.length).map (aL m l)=(rdAU m l).map (Value.int .i64):=by simp [rdAU,upto,aL]
  rw [e1,e2] at r1;rw [e1,e3] at r2;have g1:(rdBU m l).length≤70368744177663:=by simp [rdBU,upto];omega
  have g2:(rdAU m l).length≤70368744177663:=by simp [rdAU,upto];omega
  obtain⟨_,av1,cv1,hv1,_⟩:=Z9.own r1 g1;obtain⟨_,av2,cv2,hv2,_⟩:=Z9.own r2 g2;subst hv1;subst hv2;have l1:=Low.fact h1.cell;have l2:=Low.fact h2.cell;have HQ:=Lib.hid (And.intro h1 (And.intro h2 (And.intro r1 (And.intro r2 (And.intro hne (And.intro hB (And.intro hK (And.intro g1 g2))))))));have hDb:=hBw.size;have hzW:=hB.size;clear h1 h2 r1 r2 hne hB hK e1 e2 e3 g1 g2;go_wp2;have hS:Hid (Boxed W (w.heap.size+1) 27 (.slice av1 (rdBU m l).length ((rdBU m l).length+cv1))∧Boxed W (w.heap.size+1+1) 27 (.slice av2 (rdAU m l).length ((rdAU m l).length+cv2))):=⟨HQ.out.1,HQ.out.2.1⟩;clear l1 l2;generalize hVa:Value.slice av1 (rdBU m l).length ((rdBU m l).length+cv1)=va1 at *;generalize hVb:Value.slice av2 (rdAU m l).length ((rdAU m l).length+cv2)=va2 at *;refine (wpIn_wide (n:=9)).1 ?_;refine Zg (Zj _) 3 (fun X=>Boxed X (w.heap.size+1) 27 va1∧Boxed X (w.heap.size+1+1) 27 va2) (by kernel_rfl) (by kernel_rfl) (by kernel_rfl) fun hH inv0=>?_
  refine sk hH (i:=0) (v:=va1) (Zd rfl) inv0 (fun X hX=>?_) fun inv1=>?_
  ·have hx:=hX.1.cell;go_simp
  simp only [Act.put,zq4,zr4,zs4];refine sk hH (i:=1) (v:=va2) (Zd rfl) inv1 (fun X hX=>?_) fun inv2=>?_
  ·have hx:=hX.2.cell;go_simp
  simp only [Act.put,zq4,zr4,zs4];clear inv0 inv1 inv2 hH;have hSw:Boxed W.drew (w.heap.size+1) 27 va1∧Boxed W.drew (w.heap.size+1+1) 27 va2:=hS.out;have hg2:W.grownBy W.drew none:=⟨rfl,rfl,rfl,Nat.le_refl _,fun _ _ _=>rfl⟩
  have hwd:Hid (Below W.heap.size W W.drew):=⟨rfl,rfl,rfl,Nat.le_refl _,fun _ _=>rfl⟩
  generalize W.drew=w5 at *;refine sa1 (r:=2) hSw ?_;have x1:=hSw.1.cell;have y1:=hSw.1.frozen;subst hVa;subst hVb;refine ZW (Zd rfl) rfl (w':=w5.setCell ⟨w.heap.size+1,0,none⟩ (.slice av1 (rdBU m l).length ((rdBU m l).length+cv1))) (by go_simp) ?_
  simp only [Act.put,zq4,zr4,zs4];refine Zm (by kernel_rfl) ⟨hSw.1.set _,hSw.2.other (by omega) _⟩ ?_
  simp only [List.drop_succ_cons,List.drop_zero];obtain⟨h1,h2,r1,r2,hne,hB,hK,g1,g2⟩:=HQ.out;have h1:=h1.kept hg2 (by simp)
  have h2:=h2.kept hg2 (by simp)
  have r1:=r1.kept hg2 (by cases (Value.slice av1 (rdBU m l).length ((rdBU m l).length+cv1)).ownBlock <;> simp)
  have r2:=r2.kept hg2 (by cases (Value.slice av2 (rdAU m l).length ((rdAU m l).length+cv2)).ownBlock <;> simp)
  have hK2:w5.heap[D]?=some (.deferred (some [])):=(hwd.out.block D (Array.getElem?_eq_some_iff.1 hK).1).trans hK;have hB2:Below w.heap.size w w5:=hB.trans (hwd.out.mono hB.size);obtain⟨_,⟨q3,q4⟩,⟨q5,q6⟩,q7,q8,q9⟩:=(Two.refl r1 r2 hne).store (t:=27) r1 r2 h1 h2 (by omega) (by omega) (by omega)
  have x2:=h2.cell;have y2:=h2.frozen;have HX:=Lib.hid (And.intro q3 (And.intro q4 (And.intro q5 (And.intro q6 (And.intro (q7.same D _ hK2 rfl) (And.intro (hB2.trans (q8 w.heap.size (by omega) (by omega) (by omega))) (And.intro g1 g2)))))))
  clear h1 h2 r1 r2 hne hB hK g1 g2 hg2 hK2 hB2 q3 q4 q5 q6 q7 q8 q9 HQ hSw hS hwd;gi_wp2;generalize World.setCell (World.setCell w5 _ _) _ _=F at *;go_wp2;obtain⟨q3,q4,q5,q6,hK,hB,g1,g2⟩:=HX.out;have f1:=ownsRow_putObj q5 (.deferred none) hK rfl;have f2:=ownsRow_putObj q6 (.deferred none) hK rfl;have b1:=q3.kept (grownBy_putObj' F D (.deferred none)) (fun e=>by cases e;omega)
  have b2:=q4.kept (grownBy_putObj' F D (.deferred none)) (fun e=>by cases e;omega)
  have x1:=b1.cell;have x2:=b2.cell;have I1:=Z9.own f1 g1;have I2:=Z9.own f2 g2;have hBf:Below w.heap.size w (F.putObj D (.deferred none)):=hB.grown (grownBy_putObj' F D _) hB.size (fun j e=>by cases e;omega)
  refine⟨by simp,.inl ⟨_,_,rfl,run_takeDeferred hK,?_⟩⟩
  exact⟨.tuple #[_,_,.int .i64 0],by simp [results,Tryz.f16,go_sem,x1,x2],_,_,rfl,I1,I2,hBf,fun b o n c e=>by have:=(f1.lt b (by rw [e];rfl)).1;omega,fun b o n c e=>by have:=(f2.lt b (by rw [e];rfl)).1;omega⟩
 case stop=>rintro D c pre W _ _ hf;exact hf.elim
theorem Z7d (m:Msn) (vw vh vr vl:Value) (l:List Int) (w:World) (hm:MsnAt w.heap.size w m vw vh vr) (hl:Z9 w.heap.size w vl l) (hV:validB m=true) (hst:stopsB m l=true) :
  Calls Tryz.prog 16 #[.agg (Zc m vw vh vr),vl] w (UsedQ (rdBU m l) (rdAU m l) 0 w) :=
 (Z1p m vw vh vr vl l w hm hl hV hst).mono fun _ _ h=>h.used
theorem Z7g (m:Msn) (vw vh vr vl:Value) (l:List Int) (w:World) (hm:MsnAt w.heap.size w m vw vh vr) (hl:Z9 w.heap.size w vl l) :
  Calls Tryz.prog 16 #[.agg (Zc m vw vh vr),vl] w (UsedQ (rdBL m l) (rdAL m l) (rdE m l) w):=by
 cases h:radOkB m l
 ·simp only [rdBL,rdAL,rdE,h,Bool.false_eq_true,if_false]
  exact Z8M m vw vh vr vl l w hm hl h
 ·simp only [rdBL,rdAL,rdE,h,if_true]
  have h2:validB m=true∧stopsB m l=true:=by simpa [radOkB] using h
  exact Z7d m vw vh vr vl l w hm hl h2.1 h2.2
end
end Go.Proofs.YtdolkgihppgpcaaGreat
