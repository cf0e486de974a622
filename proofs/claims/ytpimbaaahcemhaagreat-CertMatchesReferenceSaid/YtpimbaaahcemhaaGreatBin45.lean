/- Certificates opened. | Closed facts of the row of the law: All functions of package cert return what the reference returns. | Closed facts of the r .. -/
import Derived.Test.YtpimbaaahcemhaaGreatBin43
import Derived.Test.YtpimbaaahcemhaaGreatBin32
namespace Go.Proofs.YtpimbaaahcemhaaGreat
open Go.RowKit Go.ChangeShapes Go.WideShapes Go.Deep
set_option maxRecDepth 8000
theorem cellsPsg:Tryz.prog.cellsOf 48=5:=by kernel_rfl
theorem bytesPsg:Tryz.prog.bytesOf 48=56:=by kernel_rfl
theorem cellsCrt:Tryz.prog.cellsOf 30=3:=by kernel_rfl
section
variable {H:Type} {enc:TypeId × Value→H} {w:World} {base:Nat} {spare:Nat→Bool} {held:Bool}
theorem Zap {fuel:Nat} {cs:List Value} {x:DataW H × List MemPlace} (h:DataW.trod enc Tryz.prog w base spare held fuel 48 cs=some x) (hz:∀ n ∈ x.1.weights Tryz.prog 48,n≤reachBytes) :
  ∃ (a:Psg) (u:Value),cs=[u,.int .i64 a.fr,.int .i64 a.tw,.int .i64 a.tm,.int .i64 a.en]∧Z8 w.heap.size w u a.cor:=by
 obtain⟨xs,n,_,hx,hlen,hxl,hf⟩:=DataW.trod_struct Tryz.underlying48 h;rw [cellsPsg] at hlen;rw [hx] at hz;simp only [DataW.weights,Tryz.underlying48] at hz
 match cs,hlen,xs,hxl with
 | [c0, c1, c2, c3, c4], _, [x0, x1, x2, x3, x4], _ =>
  obtain⟨l,hl⟩:=Z4L (hf 0 _ rfl) (fun k hk=>hz k (DataW.weights_mem_each (j:=0) rfl rfl k hk))
  obtain⟨k1,h1,_⟩:=DataW.trod_int Tryz.underlying3 (hf 1 _ rfl);obtain⟨k2,h2,_⟩:=DataW.trod_int Tryz.underlying3 (hf 2 _ rfl);obtain⟨k3,h3,_⟩:=DataW.trod_int Tryz.underlying3 (hf 3 _ rfl);obtain⟨k4,h4,_⟩:=DataW.trod_int Tryz.underlying3 (hf 4 _ rfl);simp [cellsInt] at h1 h2 h3 h4;exact⟨⟨l,k1,k2,k3,k4⟩,c0,by rw [h1,h2,h3,h4],hl⟩
theorem Z94 {fuel:Nat} {v:Value} {x:DataW H × List MemPlace} (h:DataW.trod enc Tryz.prog w base spare held fuel 28 [v]=some x) (hz:∀ n ∈ x.1.weights Tryz.prog 28,n≤reachBytes) :
  ∃ l:List Psg,PsgsAt w.heap.size w v l:=by
 obtain⟨a,len,cap,C,D,rfl,hlen,hr⟩:=Z22 Tryz.underlying28 (by rw [cellsPsg];decide) h hz
 rw [bytesPsg,Z1X] at hlen;rcases hr with rfl | ⟨b,o,rfl,hb,hi⟩
 ·exact⟨[],by simp,a,cap,rfl,.inl rfl⟩
 ·obtain⟨p,hp⟩:=choose_lt (α:=Option Psg) (p:=fun i q=>∃ (a:Psg) (u:Value),q=some a∧C i=[u,.int .i64 a.fr,.int .i64 a.tw,.int .i64 a.tm,.int .i64 a.en]∧Z8 w.heap.size w u a.cor) (fun i hil=>by obtain⟨_,⟨n,ht⟩,hw',_⟩:=hi i hil;obtain⟨a,u,ha⟩:=Zap ht hw';exact⟨some a,a,u,rfl,ha⟩)
  refine⟨(List.range len).map (fun i=>(p i).getD ⟨[],0,0,0,0⟩),by simp;omega,some ⟨b,o,none⟩,cap,by simp,.inr ⟨b,o,rfl,hb,fun j hj=>?_⟩⟩
  have hj':j<len:=by simpa using hj
  obtain⟨a,u,ha,hc,hu⟩:=hp j hj';have e:pgd ((List.range len).map (fun i=>(p i).getD ⟨[],0,0,0,0⟩)) j=a:=by simp [pgd,List.getD,hj',ha]
  rw [e];obtain⟨_,_,_,hcell⟩:=hi j hj';rw [cellsPsg,hc] at hcell;exact⟨u,hcell 0 (by decide),hu,hcell 1 (by decide),hcell 2 (by decide),hcell 3 (by decide),hcell 4 (by decide)⟩
theorem Zar {b0:Nat} {v:Value} {d:DataW H} {p:List MemPlace} (hv:Value.okWide Tryz.prog w .any b0 30 v) (h:DataW.Trod enc Tryz.prog w base spare held 30 v d p) (hz:∀ n ∈ d.weights Tryz.prog 30,n≤reachBytes) :
  ∃ (c:Crt) (vs vp ve:Value),v=.agg #[vs,vp,ve]∧CrtAt w.heap.size w c vs vp ve:=by
 obtain⟨cs,rfl,hsz⟩:=okWide_struct Tryz.underlying30 hv;obtain⟨l⟩:=cs;rw [cellsCrt] at hsz;obtain⟨fuel,hf⟩:=h;obtain⟨xs,n,_,hx,_,hxl,hg⟩:=DataW.trod_struct Tryz.underlying30 hf;simp only [Prod.mk.injEq] at hx;obtain⟨rfl,rfl⟩:=hx;simp only [DataW.weights,Tryz.underlying30] at hz
 match l,hsz with
 | [c0, c1, c2], _ =>
  match xs,hxl with
  | [x0, x1, x2], _ =>
   have g0:=hg 0 _ rfl;have g1:=hg 1 _ rfl;have g2:=hg 2 _ rfl;obtain⟨s,hs⟩:=Z3h g0 (fun k hk=>hz k (DataW.weights_mem_each (j:=0) rfl rfl k hk))
   obtain⟨q,hq⟩:=Z94 g1 (fun k hk=>hz k (DataW.weights_mem_each (j:=1) rfl rfl k hk))
   obtain⟨r,hr⟩:=Z3h g2 (fun k hk=>hz k (DataW.weights_mem_each (j:=2) rfl rfl k hk))
   exact⟨⟨s,q,r⟩,c0,c1,c2,rfl,hs,hq,hr⟩
end
end Go.Proofs.YtpimbaaahcemhaaGreat
namespace Go.Proofs.YtpimbaaahcemhaaGreat.certMatches
section
open Go.ChangeShapes Go.WideShapes Go.ChangeAt Go.RowKit
set_option maxRecDepth 100000 in
theorem Z82:(Rows.certMatchesReferenceRow.inPlace == Tryz.pinned.checked.prog.inPlace 3)=true:=by kernel_rfl
set_option maxRecDepth 100000 in
theorem Z4V:(Rows.certMatchesReferenceRow.unfollowed == Tryz.pinned.checked.prog.unfollowed 3)=true:=by kernel_rfl
set_option maxRecDepth 100000 in
theorem Z6z:(Rows.certMatchesReferenceRow.recurses == Tryz.pinned.checked.prog.recurses 3)=true:=by kernel_rfl
set_option maxRecDepth 100000 in
theorem ZaA:(Rows.certMatchesReferenceRow.named == Tryz.pinned.checked.prog.varsNamed 3)=true:=by kernel_rfl
set_option maxRecDepth 100000 in
set_option maxHeartbeats 4000000 in
theorem jf:joinedFacts Tryz.pinned.checked.prog 3 Tryz.f3 Rows.certMatchesReferenceSpec Rows.certMatchesReferenceRow=true:=by
 unfold joinedFacts;rw [Z82,Z4V,Z6z,ZaA];simp only [Bool.and_eq_true]
 repeat' apply And.intro
 all_goals (first | exact True.intro | (as_aux_lemma=>kernel_rfl))
end
end Go.Proofs.YtpimbaaahcemhaaGreat.certMatches
