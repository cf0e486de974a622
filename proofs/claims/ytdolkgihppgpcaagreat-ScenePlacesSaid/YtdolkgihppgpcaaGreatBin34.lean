/- package scene: what the kinds of a leg say; the shows. | package scene: Worst. -/
import Derived.Test.YtdolkgihppgpcaaGreatBin32
import Derived.Maps.OwnSet
import Derived.Test.YtdolkgihppgpcaaGreatBin33
set_option linter.unusedSimpArgs false
set_option linter.unusedVariables false
namespace Go.Proofs.YtdolkgihppgpcaaGreat
section
attribute [local irreducible] wpQuiet
open Go.RowKit
theorem Z9F {m:Msn} {a:Nat} {r:Int}:∀ n,bkC m a r n=false→∃ j,j<n∧clrB m (itB m a j) (bkR m a r j) (itB m a (j+1)) (bkR m a r (j+1))=false
 | 0,h=>by simp [bkC] at h
 | n + 1, h => by
  simp only [bkC,Bool.and_eq_false_iff] at h;rcases h with h | h
  ·obtain⟨j,h1,h2⟩:=Z9F n h
   exact⟨j,by omega,h2⟩
  ·exact⟨n,by omega,h⟩
theorem Z4m {m:Msn} {l:List Int} {k:Nat} (h:kindV m l k=1):firB (ownC m l k) m.rocks=true:=by
 by_cases h1:clrB m k (rdA m l k) (k+1) (rdB m l (k+1))=false
 ·simpa [clrB,ownC] using h1
 ·unfold kindV at h
  rw [if_neg h1] at h
  repeat' (split at h)
  all_goals omega
theorem Z7D {m:Msn} {l:List Int} {k:Nat} (h:kindV m l k=5):∃ j,j<dep m (k+1)∧firB (bkP m l k j) m.rocks=true:=by
 unfold kindV at h
 split at h
 ·omega
 split at h
 ·rename_i h2
  obtain⟨j,h3,h4⟩:=Z9F _ h2;exact⟨j,h3,by simpa [clrB,bkP] using h4⟩
 ·repeat' (split at h)
  all_goals omega
theorem Z4C {l m:List Pt}:∀ k,(∀ j,j<k→hasB m (nth l j)=true)→(cornersTo l m k).length=k
 | 0,_=>rfl
 | k + 1, h => by
  have ih:=Z4C k (fun j hj=>h j (by omega))
  simp only [cornersTo,if_pos (h k (by omega)),List.length_append,List.length_singleton,ih]
theorem hm_eq {m:Msn} (V:VMsn m) {r:Int} (h:0≤r∧r≤100000):shL (dskL r) (atW m 0)=mvL (atW m 0) (Z5 r.toNat)∧Zb (mvL (atW m 0) (Z5 r.toNat))=true:=by
 have hr:radOk r=true:=by simp [radOk,h]
 have hd:dskL r=Z5 r.toNat:=by simp [dskL,hr]
 have c:=Z8h V (a:=0) (b:=0) (by have:=V.n2;omega) (by have:=V.n2;omega) h h
 obtain⟨⟨hp,-⟩,ha,-⟩:=Z2K c;have G:=Z1N (n:=r.toNat) (by omega)
 have hv:Zb (Z5 r.toNat)=true:=by simpa [Zb] using G
 have e2:shE (dskL r) (atW m 0)=0:=by rw [hd];simp [shE,hv,hp,ha]
 exact⟨by simp only [shL,e2,if_true];rw [hd],by rw [Z1M _ G];exact ha⟩
theorem Z9D {m:Msn} (V:VMsn m) {l:List Int} {k:Nat} (hk:k+1<m.ways.length):hmP m l k=mvL (atW m 0) (Z5 (hmR m l k).toNat):=(hm_eq V (bk_bd V l hk (Nat.le_refl _))).1
theorem Z7C {m:Msn} (V:VMsn m) {l:List Int} {k:Nat} (hk:k+1<m.ways.length) (h:kindV m l k=2):¬ ∀ x ∈ hmP m l k,hasB m.home x=true:=by
 intro ha;unfold kindV at h
 split at h
 ·omega
 split at h
 ·omega
 split at h
 ·rename_i h2
  rw [Z9D V hk] at ha;unfold lieB at h2;rw [decide_eq_false_iff_not] at h2;refine h2 (Z4C _ fun j hj=>ha _ ?_)
  rw [Z55 hj];exact List.getElem_mem _
 ·repeat' (split at h)
  all_goals omega
def ShowQ (m:Msn) (l:List Int) (k:Nat) (K:Int) (v:Value) (cs:Array Value) (er:Int):Prop :=
 (K=1∧cs=outC m v k 1 (ownC m l k)∧er=outE m (ownC m l k)∧firB (ownC m l k) m.rocks=true) ∨
 (K=5∧∃ j,j<dep m (k+1)∧firB (bkP m l k j) m.rocks=true∧cs=outC m v k 5 (bkP m l k j)∧er=outE m (bkP m l k j)) ∨
 (K=2∧er=0∧∃ x ∈ hmP m l k,hasB m.home x=false∧cs=#[v,.int .i64 (k:Int),.int .i64 2,.int .i64 0,.int .i64 x.x,.int .i64 x.y]) ∨
 ((K=3∨K=4)∧er=0∧cs=#[v,.int .i64 (k:Int),.int .i64 K,.int .i64 0,.int .i64 0,.int .i64 0])
theorem ShowQ.shape {m:Msn} {l:List Int} {k:Nat} {K:Int} {v:Value} {cs:Array Value} {er:Int} (h:ShowQ m l k K v cs er):∃ a b c,cs=#[v,.int .i64 (k:Int),.int .i64 K,.int .i64 a,.int .i64 b,.int .i64 c]:=by
 rcases h with⟨rfl,rfl,-,-⟩ | ⟨rfl,j,-,-,rfl,-⟩ | ⟨rfl,-,x,-,-,rfl⟩ | ⟨-,-,rfl⟩
 ·exact⟨_,_,_,rfl⟩
 ·exact⟨_,_,_,rfl⟩
 ·exact⟨_,_,_,rfl⟩
 ·exact⟨_,_,_,rfl⟩
def ShowR (m:Msn) (l:List Int) (k:Nat) (K:Int) (v:Value) (Bo:Nat) (w:World) (e:Ending) (w':World):Prop :=
 ∃ cs er,e=.returned (.int .i64 er)∧ShowQ m l k K v cs er∧Has w' Bo cs 33∧w.grownBy w' (some Bo)
theorem Z42 (m:Msn) (l:List Int) (vw vh vr vb va:Value) (w:World) (T:StgAt w.heap.size w m l vw vh vr vb va) (V:VMsn m) (k:Nat) (hk:k+1<m.ways.length) (Bo:Nat) (v:Value) (HO:Has w Bo #[v,.int .i64 (k:Int),.int .i64 1,.int .i64 0,.int .i64 0,.int .i64 0] 33) (hK:kindV m l k=1):Calls Tryz.prog 26 #[.agg (stgC m vw vh vr vb va k),.pointer (some ⟨Bo,0,none⟩)] w (ShowR m l k 1 v Bo w) :=
 (Z3v m l vw vh vr vb va w T V k hk Bo v k 1 0 0 0 HO (Z4m hK)).mono fun _ _ ⟨h1,h2,h3⟩=>⟨_,_,h1,.inl ⟨rfl,rfl,rfl,Z4m hK⟩,h2,h3⟩
theorem Z44 (m:Msn) (l:List Int) (vw vh vr vb va:Value) (w:World) (T:StgAt w.heap.size w m l vw vh vr vb va) (V:VMsn m) (k:Nat) (hk:k+1<m.ways.length) (Bo:Nat) (v:Value) (HO:Has w Bo #[v,.int .i64 (k:Int),.int .i64 5,.int .i64 0,.int .i64 0,.int .i64 0] 33) (hK:kindV m l k=5):Calls Tryz.prog 27 #[.agg (stgC m vw vh vr vb va k),.pointer (some ⟨Bo,0,none⟩)] w (ShowR m l k 5 v Bo w) :=
 (Z3x m l vw vh vr vb va w T V k hk Bo v k 5 0 0 0 HO).mono fun e w' h=>by
  rcases h with⟨h,-,-⟩ | ⟨j,h1,-,h3,h4,h5,h6⟩
  ·obtain⟨j,h1,h2⟩:=Z7D hK
   rw [h j h1] at h2;cases h2
  ·exact⟨_,_,h4,.inr (.inl ⟨rfl,j,h1,h3,rfl,rfl⟩),h5,h6⟩
theorem Z43 (m:Msn) (l:List Int) (vw vh vr vb va:Value) (w:World) (T:StgAt w.heap.size w m l vw vh vr vb va) (V:VMsn m) (k:Nat) (hk:k+1<m.ways.length) (Bo:Nat) (v:Value) (HO:Has w Bo #[v,.int .i64 (k:Int),.int .i64 2,.int .i64 0,.int .i64 0,.int .i64 0] 33) (hK:kindV m l k=2):Calls Tryz.prog 28 #[.agg (stgC m vw vh vr vb va k),.pointer (some ⟨Bo,0,none⟩)] w (ShowR m l k 2 v Bo w) :=
 (Z3w m l vw vh vr vb va w T V k hk Bo v k 2 0 0 0 HO).mono fun e w' h=>by
  obtain⟨h0,⟨h,-⟩ | ⟨x,h1,h2,h3,h4⟩⟩:=h
  ·exact (Z7C V hk hK h).elim
  ·exact⟨_,_,h0,.inr (.inr (.inl ⟨rfl,rfl,x,h1,h2,rfl⟩)),h3,h4⟩
def fnR (v:Value):Option (DataW Value × List MemPlace):=some (.held v,[])
theorem Z2O {n:Nat} {A B:World} (h:Below n A B):∃ C,C=B∧Below n A C:=⟨B,rfl,h⟩
theorem ZM {v f:Value} {d:DataW Value} {ps:List MemPlace} (h:fnR v=some (d,ps)) (hd:d=.held f):v=f:=by
 subst hd;simp only [fnR,Option.some.injEq,Prod.mk.injEq,DataW.held.injEq] at h;exact h.1
end
section
attribute [local irreducible] wpQuiet
open Go.RowKit Go.Maps
def scZ:Array Value:=#[.slice none 0 0,.int .i64 0,.int .i64 0,.int .i64 0,.int .i64 0,.int .i64 0]
theorem zeroF1 (w:World):(zeroValue 64).run Tryz.prog w=.ok .nilFunc w:=by kernel_rfl
def showD:DataW Value:=(((DataW.map []).put (.int .i64 1) (.held (.func (.func 26) #[] #[]))).put (.int .i64 5) (.held (.func (.func 27) #[] #[]))).put (.int .i64 2) (.held (.func (.func 28) #[] #[]))
theorem Z8I:showD.atKey (.int .i64 1) (.held .nilFunc)=.held (.func (.func 26) #[] #[])∧showD.atKey (.int .i64 5) (.held .nilFunc)=.held (.func (.func 27) #[] #[])∧showD.atKey (.int .i64 2) (.held .nilFunc)=.held (.func (.func 28) #[] #[])∧showD.atKey (.int .i64 3) (.held .nilFunc)=.held .nilFunc∧showD.atKey (.int .i64 4) (.held .nilFunc)=.held .nilFunc:=⟨rfl,rfl,rfl,rfl,rfl⟩
theorem Z7b:Maps.has showD (.int .i64 1)=true∧Maps.has showD (.int .i64 5)=true∧Maps.has showD (.int .i64 2)=true∧Maps.has showD (.int .i64 3)=false∧Maps.has showD (.int .i64 4)=false:=⟨rfl,rfl,rfl,rfl,rfl⟩
theorem set6 {X Z:World} {B:Nat} {cs:Array Value} {T:TypeId} {v0 v1 v2 v3 v4 v5:Value} (H:Has X B cs T) (hs:cs.size=6) (hz:((((((X.setCell ⟨B,0,none⟩ v0).setCell ⟨B,1,none⟩ v1).setCell ⟨B,2,none⟩ v2).setCell ⟨B,3,none⟩ v3).setCell ⟨B,4,none⟩ v4).setCell ⟨B,5,none⟩ v5)=Z) :
  Has Z B #[v0,v1,v2,v3,v4,v5] T∧(∀ n,n≤B→Below n X Z)∧Z.heap.size=X.heap.size∧∀ b,b≠B→Z.heap[b]?=X.heap[b]?:=by
 subst hz;obtain⟨l,rfl⟩:∃ l:List Value,cs=l.toArray:=⟨cs.toList,by simp⟩
 obtain⟨u0,u1,u2,u3,u4,u5,rfl⟩:∃ u0 u1 u2 u3 u4 u5,l=[u0,u1,u2,u3,u4,u5]:=by
  match l,hs with
  | [u0,u1,u2,u3,u4,u5],_=>exact⟨_,_,_,_,_,_,rfl⟩
 refine⟨?_,fun n hn=>?_,by simp,fun b hb=>?_⟩
 ·have:=((((((H.set 0 v0).set 1 v1).set 2 v2).set 3 v3).set 4 v4).set 5 v5)
  simpa only [zq4,zr4,zs4] using this
 ·exact (((((((Below.refl n X).setCell (p:=⟨B,0,none⟩) hn v0).setCell (p:=⟨B,1,none⟩) hn v1).setCell (p:=⟨B,2,none⟩) hn v2).setCell (p:=⟨B,3,none⟩) hn v3).setCell (p:=⟨B,4,none⟩) hn v4).setCell (p:=⟨B,5,none⟩) hn v5)
 ·iterate 6 (rw [Below.heap_setCell _ _ _ _ (by exact hb)])
set_option maxRecDepth 8000 in
set_option maxHeartbeats 3200000 in
theorem Z5D (m:Msn) (vw vh vr:Value) (w:World) (hm:MsnAt w.heap.size w m vw vh vr) (h13:m.ways.length≤13) (hr:rfB m=false) :
  Calls Tryz.prog 10 #[.agg (Zc m vw vh vr)] w fun e w'=>e=.returned (.tuple #[.agg scZ,.bool false,.int .i64 (plE m)])∧Below w.heap.size w w':=by
 have f1:=fun w1 (B:Below w.heap.size w w1)=>Z1X m vw vh vr w1 ((hm.below B).mono B.size) h13
 rw [hr] at f1;obtain⟨⟨-,a1,c1,rfl,-⟩,⟨-,a2,c2,rfl,-⟩,⟨-,a3,c3,rfl,-⟩⟩:=hm;unfold Zc at *;generalize rfG m=rg at *;generalize rfL m=rl at *;obtain⟨pe,hpe⟩:∃ x,plE m=x:=⟨_,rfl⟩;have hp01:pe=0∨pe=1:=by rw [← hpe];unfold plE;split <;> simp
 simp only [hpe] at f1 ⊢;clear hpe;replace f1:=Lib.hid f1;have BW:=Lib.hid (Below.refl w.heap.size w);go_enter Tryz.func10,Tryz.ntmps10;go_upto_region 1 with fail
 generalize hXX0:World.alloc (World.alloc w _) _=X0;obtain⟨q0,q1,hA,hzX0⟩:=box2 hXX0;clear hXX0;have BW:=Lib.hid hA;clear hA;have MB:=Lib.hid q0;clear q0;have RB:=Lib.hid q1;clear q1 hzX0;obtain⟨c0,c1,c2,c3,c4,c5,c6,c7,c8,c9,c10⟩:=Zi (m:=m) MB.out;go_wp2_with fail;refine (f1.out _ BW.out).mono ?_;rintro e w1 ⟨v1,rfl,p1,b1,-⟩;replace BW:=zAg BW b1;have B_X0:=Lib.hid b1;clear b1;obtain⟨-,g1,d1,hv1,-⟩:=p1;subst hv1;clear c0 c1 c2 c3 c4 c5 c6 c7 c8 c9 c10;have hR:=(zCn RB B_X0);have HR:=Lib.hid hR;have u0:=hR.cell (i:=0) rfl;have y0:=Ze hR 0;have u1:=hR.cell (i:=1) rfl;have y1:=Ze hR 1;have u2:=hR.cell (i:=2) rfl;have y2:=Ze hR 2;have u3:=hR.cell (i:=3) rfl;have y3:=Ze hR 3;have u4:=hR.cell (i:=4) rfl;have y4:=Ze hR 4;have u5:=hR.cell (i:=5) rfl;have y5:=Ze hR 5;clear hR;rcases hp01 with rfl | rfl
 ·go_wp2
  clear u0 y0 u1 y1 u2 y2 u3 y3 u4 y4 u5 y5;generalize hZ:World.setCell (World.setCell (World.setCell (World.setCell (World.setCell (World.setCell w1 _ _) _ _) _ _) _ _) _ _) _ _=Z;obtain⟨HZ,hl2,hs2,he2⟩:=set6 HR.out rfl hZ;clear hZ;have hg9:w1.grownBy Z (some (w.heap.size+1)):=⟨(hl2 0 (Nat.zero_le _)).os,(hl2 0 (Nat.zero_le _)).tape,(hl2 0 (Nat.zero_le _)).output,by omega,fun i _ hne=>he2 i (fun e=>hne (by rw [e]))⟩
  have u0:=HZ.cell (i:=0) rfl;have u1:=HZ.cell (i:=1) rfl;have u2:=HZ.cell (i:=2) rfl;have u3:=HZ.cell (i:=3) rfl;have u4:=HZ.cell (i:=4) rfl;have u5:=HZ.cell (i:=5) rfl;exact bodyPost_ret (v:=.tuple #[.agg scZ,.bool false,.int .i64 0]) (by simp [results,scZ,Tryz.f10,go_sem,u0,u1,u2,u3,u4,u5]) rfl ⟨rfl,BW.out.trans (hl2 _ (by omega))⟩
 ·go_wp2
  clear u0 y0 u1 y1 u2 y2 u3 y3 u4 y4 u5 y5;generalize hZ:World.setCell (World.setCell (World.setCell (World.setCell (World.setCell (World.setCell w1 _ _) _ _) _ _) _ _) _ _) _ _=Z;obtain⟨HZ,hl2,hs2,he2⟩:=set6 HR.out rfl hZ;clear hZ;have hg9:w1.grownBy Z (some (w.heap.size+1)):=⟨(hl2 0 (Nat.zero_le _)).os,(hl2 0 (Nat.zero_le _)).tape,(hl2 0 (Nat.zero_le _)).output,by omega,fun i _ hne=>he2 i (fun e=>hne (by rw [e]))⟩
  have u0:=HZ.cell (i:=0) rfl;have u1:=HZ.cell (i:=1) rfl;have u2:=HZ.cell (i:=2) rfl;have u3:=HZ.cell (i:=3) rfl;have u4:=HZ.cell (i:=4) rfl;have u5:=HZ.cell (i:=5) rfl;exact bodyPost_ret (v:=.tuple #[.agg scZ,.bool false,.int .i64 1]) (by simp [results,scZ,Tryz.f10,go_sem,u0,u1,u2,u3,u4,u5]) rfl ⟨rfl,BW.out.trans (hl2 _ (by omega))⟩
theorem Z3B {m:Msn} (hr:rfB m=true):validB m=true∧radOkB m (rfL m)=true∧leadN m (rfL m)+1<m.ways.length∧rfG m=(leadN m (rfL m):Int)∧kpL m (rfL m)=(leadN m (rfL m):Int)∧kpK m (rfL m)=kindV m (rfL m) (leadN m (rfL m))∧kpE m (rfL m)=0∧plE m=0∧kindV m (rfL m) (leadN m (rfL m))≠0∧rfL m=(bestP m).2:=by
 have hl:rfL m=(bestP m).2:=by simp [rfL,hr]
 have hg:rfG m=(bestP m).1:=by simp [rfG,hr]
 have h:=hr;simp only [rfB,Bool.and_eq_true,Bool.not_eq_true',decide_eq_false_iff_not] at h;have hok:=sub_ok h.1 (Z6g m);rw [← hl] at hok;obtain⟨k1,k2,k3⟩:=kp_of hok;have hb:=Z4K m;rw [← hl] at hb;have hls:=Z1r m (rfL m);have hk:leadN m (rfL m)<m.ways.length-1:=by
  rcases Nat.lt_or_ge (leadN m (rfL m)) (m.ways.length-1) with g | g
  ·exact g
  ·exfalso
   apply h.2
   rw [← hb,k1];unfold leadV;omega
 refine⟨h.1,hok,by omega,by rw [hg,← hb,k1];rfl,k1,?_,k3,by simp [plE,h.1],hls.2.2 hk,hl⟩
 rw [k2];unfold leadK;rw [if_pos hk]
set_option maxRecDepth 8000 in
set_option maxHeartbeats 6400000 in
theorem Z3W (m:Msn) (vw vh vr:Value) (w:World) (hm:MsnAt w.heap.size w m vw vh vr) (h13:m.ways.length≤13) (hr:rfB m=true) :
  Calls Tryz.prog 10 #[.agg (Zc m vw vh vr)] w fun e w'=>∃ v cs er,ShowQ m (rfL m) (leadN m (rfL m)) (kindV m (rfL m) (leadN m (rfL m))) v cs er∧Z9 w'.heap.size w' v (rfL m)∧Below w.heap.size w w' ∧
   e=.returned (.tuple (if er=0 then #[.agg cs,.bool true,.int .i64 0] else #[.agg scZ,.bool false,.int .i64 er])):=by
 obtain⟨hV,hok,hk,e1,e2,e3,e4,e5,hK0,-⟩:=Z3B hr;have V:=(Zs m).1 hV;have n41:=V.n41;have f1:=fun w1 (B:Below w.heap.size w w1)=>Z1X m vw vh vr w1 ((hm.below B).mono B.size) h13
 have f2:=fun v w1 (B:Below w.heap.size w w1) hl=>Z0Y m vw vh vr v (rfL m) w1 ((hm.below B).mono B.size) hl
 rw [hr,e1,e5] at f1;rw [e2,e3,e4] at f2;have hKb:=Z3G m (rfL m) (leadN m (rfL m));generalize rfL m=l at *;generalize leadN m l=k at *;have f3:=fun v w1 (B:Below w.heap.size w w1) hl=>Z3Y m l vw vh vr v k w1 ((hm.below B).mono B.size) hl hok
 have g1:=fun vb va W T Bo v HO hK=>Z42 m l vw vh vr vb va W T V k hk Bo v HO hK
 have g5:=fun vb va W T Bo v HO hK=>Z44 m l vw vh vr vb va W T V k hk Bo v HO hK
 have g2:=fun vb va W T Bo v HO hK=>Z43 m l vw vh vr vb va W T V k hk Bo v HO hK
 clear V hV hok e1 e2 e3 e4 e5 hr;obtain⟨⟨-,a1,c1,rfl,-⟩,⟨-,a2,c2,rfl,-⟩,⟨-,a3,c3,rfl,-⟩⟩:=hm;unfold Zc at *;obtain⟨K,hK⟩:∃ K,kindV m l k=K:=⟨_,rfl⟩;simp only [hK] at *;have hK5:K=1∨K=5∨K=2∨K=3∨K=4:=by omega
 clear hKb hK0 hK;have HQ:∀ (v:Value) (hK:K=3∨K=4),ShowQ m l k K v #[v,.int .i64 (k:Int),.int .i64 K,.int .i64 0,.int .i64 0,.int .i64 0] 0:=fun v hK=>.inr (.inr (.inr ⟨hK,rfl,rfl⟩))
 replace f1:=Lib.hid f1;replace f2:=Lib.hid f2;replace f3:=Lib.hid f3;replace g1:=Lib.hid g1;replace g2:=Lib.hid g2;replace g5:=Lib.hid g5;replace HQ:=Lib.hid HQ;have HA:=Z8I;have HH:=Z7b;unfold showD at HA HH;replace HA:=Lib.hid HA;replace HH:=Lib.hid HH;have hmm:=@run_makeMap Tryz.prog;have hk41:k<41:=by omega
 unfold ShowR at *;have BW:=Lib.hid (Below.refl w.heap.size w);go_enter Tryz.func10,Tryz.ntmps10;go_upto_region 1 with fail
 generalize hXX0:World.alloc (World.alloc w _) _=X0;obtain⟨q0,q1,hA,hzX0⟩:=box2 hXX0;clear hXX0;have BW:=Lib.hid hA;clear hA;have MB:=Lib.hid q0;clear q0;have RB:=Lib.hid q1;clear q1;have HZ0:=Lib.hid hzX0;clear hzX0;obtain⟨c0,c1,c2,c3,c4,c5,c6,c7,c8,c9,c10⟩:=Zi (m:=m) MB.out;go_wp2_with fail;refine (f1.out _ BW.out).mono ?_;rintro e w1 ⟨v1,rfl,p1,b1,n1⟩;replace BW:=zAg BW b1;have B_X0:=Lib.hid b1;clear b1;have P1:=Lib.hid p1;clear p1;have N1:=Lib.hid n1;obtain⟨-,h1,d1,hv1,-⟩:=P1.out;subst hv1;clear n1 c0 c1 c2 c3 c4 c5 c6 c7 c8 c9 c10;obtain⟨c0,c1,c2,c3,c4,c5,c6,c7,c8,c9,c10⟩:=Zi (m:=m) (zCn MB B_X0);go_wp2_with fail;refine (f2.out _ _ BW.out P1.out).mono ?_;rintro e w2 ⟨rfl,b2⟩;replace BW:=zAg BW b2;replace B_X0:=zAg B_X0 b2;have B_w1:=Lib.hid b2;clear b2 c0 c1 c2 c3 c4 c5 c6 c7 c8 c9 c10;have zB:X0.heap.size≤w2.heap.size:=B_X0.out.size;have zw:w.heap.size+2≤X0.heap.size:=by have:=HZ0.out;omega
 have zw1:w1.heap.size≤w2.heap.size:=B_w1.out.size;go_upto_region 6 with fail
 generalize hXX1:World.alloc w2 _=X1;obtain⟨q0,hA,hzX1⟩:=box1 hXX1;clear hXX1;replace BW:=zAg BW hA;replace B_X0:=zAg B_X0 hA;replace B_w1:=zAg B_w1 hA;clear hA;have OB:=Lib.hid q0;clear q0;have HZ1:=Lib.hid hzX1;clear hzX1;have M0:=Lib.hid (World.ownsMap_made X1 Tryz.prog 3 fnR);have BM:=Lib.hid ((Below.refl X1.heap.size X1).alloc (Nat.le_refl _) (.map #[] 0));go_upto_region 7 with (first | (refine Zz (H:=Value) _ rfl _ _ _ 68 rfl 3 64 keyInt Tryz.underlying68 fnR X1.heap.size _ _ rfl M0.out (by unfold maxLen;omega) (.int .i64 1) (.func (.func 26) #[] #[]) (.int .i64 1) rfl rfl (keyOf_int_mk Tryz.underlying3 rfl) (.held (.func (.func 26) #[] #[])) [] rfl ?_;intro w9 h9 g9;have M0':=Lib.hid h9;replace BM:=Lib.hid (BM.out.grown g9 BM.out.size (fun j hj=>by cases hj;exact Nat.le_refl _));clear M0 h9 g9;have M0:=M0';clear M0') | (refine Zz (H:=Value) _ rfl _ _ _ 68 rfl 3 64 keyInt Tryz.underlying68 fnR X1.heap.size _ _ rfl M0.out (by unfold maxLen;omega) (.int .i64 5) (.func (.func 27) #[] #[]) (.int .i64 5) rfl rfl (keyOf_int_mk Tryz.underlying3 rfl) (.held (.func (.func 27) #[] #[])) [] rfl ?_;intro w9 h9 g9;have M0':=Lib.hid h9;replace BM:=Lib.hid (BM.out.grown g9 BM.out.size (fun j hj=>by cases hj;exact Nat.le_refl _));clear M0 h9 g9;have M0:=M0';clear M0') | (refine Zz (H:=Value) _ rfl _ _ _ 68 rfl 3 64 keyInt Tryz.underlying68 fnR X1.heap.size _ _ rfl M0.out (by unfold maxLen;omega) (.int .i64 2) (.func (.func 28) #[] #[]) (.int .i64 2) rfl rfl (keyOf_int_mk Tryz.underlying3 rfl) (.held (.func (.func 28) #[] #[])) [] rfl ?_;intro w9 h9 g9;have M0':=Lib.hid h9;replace BM:=Lib.hid (BM.out.grown g9 BM.out.size (fun j hj=>by cases hj;exact Nat.le_refl _));clear M0 h9 g9;have M0:=M0';clear M0') | go_in)
 obtain⟨X5,hX5,-⟩:=Z2O BM.out;subst hX5;have b5:=BM.out;clear BM;replace BW:=zAg BW b5;replace B_X0:=zAg B_X0 b5;replace B_w1:=zAg B_w1 b5;have B_X1:=Lib.hid b5;clear b5;obtain⟨c0,c1,c2,c3,c4,c5,c6,c7,c8,c9,c10⟩:=Zi (m:=m) (zCn MB B_X0);have HC0:=Lib.hid HZ0.out;clear HZ0;rcases hK5 with rfl | rfl | rfl | rfl | rfl
 ·skip
  have hat9:=HA.out.1;have has9:=HH.out.1;have hwf:(Lit.int .i64 1).wf=true:=rfl;go_wp2_with (at_lookup;refine wpList_lookup_own_ok (H:=Value) _ rfl _ _ 68 rfl 3 64 keyInt Tryz.underlying68 fnR (zeroF1 _) (.held .nilFunc) [] rfl X1.heap.size _ _ rfl M0.out _ _ rfl (keyOf_int_mk Tryz.underlying3 hwf) ?_;intro v9 ps9 h9;replace h9:=ZM h9 hat9;subst h9;rw [has9]);refine (f3.out _ X5 BW.out ((P1.out.below B_w1.out).mono B_w1.out.size)).mono ?_;rintro e w3 ⟨vb,va,rfl,t6,b3,-,-⟩;replace BW:=zAg BW b3;replace B_X0:=zAg B_X0 b3;replace B_w1:=zAg B_w1 b3;replace B_X1:=zAg B_X1 b3;clear b3;have T6:=Lib.hid t6;clear t6 hat9 has9 c0 c1 c2 c3 c4 c5 c6 c7 c8 c9 c10;obtain⟨-,ab,cb,hvb,-⟩:=T6.out.bef;subst hvb;obtain⟨-,aa,ca,hva,-⟩:=T6.out.aft;subst hva;have gs:=g1.out _ _ w3 T6.out _ _ (zCn OB B_X1) (by first | rfl | trivial)
  unfold stgC at gs ⊢;go_wp2_with fail;refine gs.mono ?_;clear gs;rintro e w7 ⟨cs,er,rfl,hq,hO7,g7⟩;obtain⟨ra,rx,ry,hcs⟩:=hq.shape;subst hcs;have hRB:=(zCn RB B_X0);have lR:=hRB.lt;have hR:Has w7 (w.heap.size+1) _ 33:=(g7.block _ lR (fun e=>by simp only [Option.some.injEq] at e;omega)).trans hRB
  clear hRB;have HI:=Lib.hid (show Z9 w7.heap.size w7 _ l from (P1.out.below (grown_low' B_w1.out g7 (by omega) (Nat.le_refl _))).mono (Nat.le_trans B_w1.out.size g7.size))
  have HB:=Lib.hid (grown_low' BW.out g7 (by omega) (Nat.le_refl _))
  have HR:=Lib.hid hR;have HQ7:=Lib.hid hq;have z7:=g7.size;clear hq g7;have u0:=hR.cell (i:=0) rfl;have y0:=Ze hR 0;have u1:=hR.cell (i:=1) rfl;have y1:=Ze hR 1;have u2:=hR.cell (i:=2) rfl;have y2:=Ze hR 2;have u3:=hR.cell (i:=3) rfl;have y3:=Ze hR 3;have u4:=hR.cell (i:=4) rfl;have y4:=Ze hR 4;have u5:=hR.cell (i:=5) rfl;have y5:=Ze hR 5;clear hR;have o0:=hO7.cell (i:=0) rfl;have o1:=hO7.cell (i:=1) rfl;have o2:=hO7.cell (i:=2) rfl;have o3:=hO7.cell (i:=3) rfl;have o4:=hO7.cell (i:=4) rfl;have o5:=hO7.cell (i:=5) rfl;clear hO7;by_cases er0:er=0
  ·subst er0
   go_wp2;clear o0 o1 o2 o3 o4 o5 u0 y0 u1 y1 u2 y2 u3 y3 u4 y4 u5 y5;generalize hZ:World.setCell (World.setCell (World.setCell (World.setCell (World.setCell (World.setCell w7 _ _) _ _) _ _) _ _) _ _) _ _=Z;obtain⟨HZ,hl2,hs2,he2⟩:=set6 HR.out rfl hZ;clear hZ;have hg9:w7.grownBy Z (some (w.heap.size+1)):=⟨(hl2 0 (Nat.zero_le _)).os,(hl2 0 (Nat.zero_le _)).tape,(hl2 0 (Nat.zero_le _)).output,by omega,fun i _ hne=>he2 i (fun e=>hne (by rw [e]))⟩
   have u0:=HZ.cell (i:=0) rfl;have u1:=HZ.cell (i:=1) rfl;have u2:=HZ.cell (i:=2) rfl;have u3:=HZ.cell (i:=3) rfl;have u4:=HZ.cell (i:=4) rfl;have u5:=HZ.cell (i:=5) rfl;have hI9:Z9 Z.heap.size Z _ l:=HI.out.offG hg9 (fun r e=>.inr fun e2=>by cases e;have:=N1.out _ e2;omega)
   exact bodyPost_ret (v:=.tuple #[.agg #[.slice h1 l.length (l.length+d1),.int .i64 (k:Int),.int .i64 1,.int .i64 ra,.int .i64 rx,.int .i64 ry],.bool true,.int .i64 0]) (by simp [results,scZ,Tryz.f10,go_sem,u0,u1,u2,u3,u4,u5]) rfl ⟨_,_,0,HQ7.out,hI9,HB.out.trans (hl2 _ (by omega)),by rw [if_pos rfl]⟩
  ·have e1:(er != 0)=true:=by simpa using er0
   clear o0 o1 o2 o3 o4 o5;go_wp2;clear u0 y0 u1 y1 u2 y2 u3 y3 u4 y4 u5 y5;generalize hZ:World.setCell (World.setCell (World.setCell (World.setCell (World.setCell (World.setCell w7 _ _) _ _) _ _) _ _) _ _) _ _=Z;obtain⟨HZ,hl2,hs2,he2⟩:=set6 HR.out rfl hZ;clear hZ;have hg9:w7.grownBy Z (some (w.heap.size+1)):=⟨(hl2 0 (Nat.zero_le _)).os,(hl2 0 (Nat.zero_le _)).tape,(hl2 0 (Nat.zero_le _)).output,by omega,fun i _ hne=>he2 i (fun e=>hne (by rw [e]))⟩
   have u0:=HZ.cell (i:=0) rfl;have u1:=HZ.cell (i:=1) rfl;have u2:=HZ.cell (i:=2) rfl;have u3:=HZ.cell (i:=3) rfl;have u4:=HZ.cell (i:=4) rfl;have u5:=HZ.cell (i:=5) rfl;have hI9:Z9 Z.heap.size Z _ l:=HI.out.offG hg9 (fun r e=>.inr fun e2=>by cases e;have:=N1.out _ e2;omega)
   exact bodyPost_ret (v:=.tuple #[.agg scZ,.bool false,.int .i64 er]) (by simp [results,scZ,Tryz.f10,go_sem,u0,u1,u2,u3,u4,u5]) rfl ⟨_,_,er,HQ7.out,hI9,HB.out.trans (hl2 _ (by omega)),by rw [if_neg er0]⟩
 ·skip
  have hat9:=HA.out.2.1;have has9:=HH.out.2.1;have hwf:(Lit.int .i64 5).wf=true:=rfl;go_wp2_with (at_lookup;refine wpList_lookup_own_ok (H:=Value) _ rfl _ _ 68 rfl 3 64 keyInt Tryz.underlying68 fnR (zeroF1 _) (.held .nilFunc) [] rfl X1.heap.size _ _ rfl M0.out _ _ rfl (keyOf_int_mk Tryz.underlying3 hwf) ?_;intro v9 ps9 h9;replace h9:=ZM h9 hat9;subst h9;rw [has9]);refine (f3.out _ X5 BW.out ((P1.out.below B_w1.out).mono B_w1.out.size)).mono ?_;rintro e w3 ⟨vb,va,rfl,t6,b3,-,-⟩;replace BW:=zAg BW b3;replace B_X0:=zAg B_X0 b3;replace B_w1:=zAg B_w1 b3;replace B_X1:=zAg B_X1 b3;clear b3;have T6:=Lib.hid t6;clear t6 hat9 has9 c0 c1 c2 c3 c4 c5 c6 c7 c8 c9 c10;obtain⟨-,ab,cb,hvb,-⟩:=T6.out.bef;subst hvb;obtain⟨-,aa,ca,hva,-⟩:=T6.out.aft;subst hva;have gs:=g5.out _ _ w3 T6.out _ _ (zCn OB B_X1) (by first | rfl | trivial)
  unfold stgC at gs ⊢;go_wp2_with fail;refine gs.mono ?_;clear gs;rintro e w7 ⟨cs,er,rfl,hq,hO7,g7⟩;obtain⟨ra,rx,ry,hcs⟩:=hq.shape;subst hcs;have hRB:=(zCn RB B_X0);have lR:=hRB.lt;have hR:Has w7 (w.heap.size+1) _ 33:=(g7.block _ lR (fun e=>by simp only [Option.some.injEq] at e;omega)).trans hRB
  clear hRB;have HI:=Lib.hid (show Z9 w7.heap.size w7 _ l from (P1.out.below (grown_low' B_w1.out g7 (by omega) (Nat.le_refl _))).mono (Nat.le_trans B_w1.out.size g7.size))
  have HB:=Lib.hid (grown_low' BW.out g7 (by omega) (Nat.le_refl _))
  have HR:=Lib.hid hR;have HQ7:=Lib.hid hq;have z7:=g7.size;clear hq g7;have u0:=hR.cell (i:=0) rfl;have y0:=Ze hR 0;have u1:=hR.cell (i:=1) rfl;have y1:=Ze hR 1;have u2:=hR.cell (i:=2) rfl;have y2:=Ze hR 2;have u3:=hR.cell (i:=3) rfl;have y3:=Ze hR 3;have u4:=hR.cell (i:=4) rfl;have y4:=Ze hR 4;have u5:=hR.cell (i:=5) rfl;have y5:=Ze hR 5;clear hR;have o0:=hO7.cell (i:=0) rfl;have o1:=hO7.cell (i:=1) rfl;have o2:=hO7.cell (i:=2) rfl;have o3:=hO7.cell (i:=3) rfl;have o4:=hO7.cell (i:=4) rfl;have o5:=hO7.cell (i:=5) rfl;clear hO7;by_cases er0:er=0
  ·subst er0
   go_wp2;clear o0 o1 o2 o3 o4 o5 u0 y0 u1 y1 u2 y2 u3 y3 u4 y4 u5 y5;generalize hZ:World.setCell (World.setCell (World.setCell (World.setCell (World.setCell (World.setCell w7 _ _) _ _) _ _) _ _) _ _) _ _=Z;obtain⟨HZ,hl2,hs2,he2⟩:=set6 HR.out rfl hZ;clear hZ;have hg9:w7.grownBy Z (some (w.heap.size+1)):=⟨(hl2 0 (Nat.zero_le _)).os,(hl2 0 (Nat.zero_le _)).tape,(hl2 0 (Nat.zero_le _)).output,by omega,fun i _ hne=>he2 i (fun e=>hne (by rw [e]))⟩
   have u0:=HZ.cell (i:=0) rfl;have u1:=HZ.cell (i:=1) rfl;have u2:=HZ.cell (i:=2) rfl;have u3:=HZ.cell (i:=3) rfl;have u4:=HZ.cell (i:=4) rfl;have u5:=HZ.cell (i:=5) rfl;have hI9:Z9 Z.heap.size Z _ l:=HI.out.offG hg9 (fun r e=>.inr fun e2=>by cases e;have:=N1.out _ e2;omega)
   exact bodyPost_ret (v:=.tuple #[.agg #[.slice h1 l.length (l.length+d1),.int .i64 (k:Int),.int .i64 5,.int .i64 ra,.int .i64 rx,.int .i64 ry],.bool true,.int .i64 0]) (by simp [results,scZ,Tryz.f10,go_sem,u0,u1,u2,u3,u4,u5]) rfl ⟨_,_,0,HQ7.out,hI9,HB.out.trans (hl2 _ (by omega)),by rw [if_pos rfl]⟩
  ·have e1:(er != 0)=true:=by simpa using er0
   clear o0 o1 o2 o3 o4 o5;go_wp2;clear u0 y0 u1 y1 u2 y2 u3 y3 u4 y4 u5 y5;generalize hZ:World.setCell (World.setCell (World.setCell (World.setCell (World.setCell (World.setCell w7 _ _) _ _) _ _) _ _) _ _) _ _=Z;obtain⟨HZ,hl2,hs2,he2⟩:=set6 HR.out rfl hZ;clear hZ;have hg9:w7.grownBy Z (some (w.heap.size+1)):=⟨(hl2 0 (Nat.zero_le _)).os,(hl2 0 (Nat.zero_le _)).tape,(hl2 0 (Nat.zero_le _)).output,by omega,fun i _ hne=>he2 i (fun e=>hne (by rw [e]))⟩
   have u0:=HZ.cell (i:=0) rfl;have u1:=HZ.cell (i:=1) rfl;have u2:=HZ.cell (i:=2) rfl;have u3:=HZ.cell (i:=3) rfl;have u4:=HZ.cell (i:=4) rfl;have u5:=HZ.cell (i:=5) rfl;have hI9:Z9 Z.heap.size Z _ l:=HI.out.offG hg9 (fun r e=>.inr fun e2=>by cases e;have:=N1.out _ e2;omega)
   exact bodyPost_ret (v:=.tuple #[.agg scZ,.bool false,.int .i64 er]) (by simp [results,scZ,Tryz.f10,go_sem,u0,u1,u2,u3,u4,u5]) rfl ⟨_,_,er,HQ7.out,hI9,HB.out.trans (hl2 _ (by omega)),by rw [if_neg er0]⟩
 ·skip
  have hat9:=HA.out.2.2.1;have has9:=HH.out.2.2.1;have hwf:(Lit.int .i64 2).wf=true:=rfl;go_wp2_with (at_lookup;refine wpList_lookup_own_ok (H:=Value) _ rfl _ _ 68 rfl 3 64 keyInt Tryz.underlying68 fnR (zeroF1 _) (.held .nilFunc) [] rfl X1.heap.size _ _ rfl M0.out _ _ rfl (keyOf_int_mk Tryz.underlying3 hwf) ?_;intro v9 ps9 h9;replace h9:=ZM h9 hat9;subst h9;rw [has9]);refine (f3.out _ X5 BW.out ((P1.out.below B_w1.out).mono B_w1.out.size)).mono ?_;rintro e w3 ⟨vb,va,rfl,t6,b3,-,-⟩;replace BW:=zAg BW b3;replace B_X0:=zAg B_X0 b3;replace B_w1:=zAg B_w1 b3;replace B_X1:=zAg B_X1 b3;clear b3;have T6:=Lib.hid t6;clear t6 hat9 has9 c0 c1 c2 c3 c4 c5 c6 c7 c8 c9 c10;obtain⟨-,ab,cb,hvb,-⟩:=T6.out.bef;subst hvb;obtain⟨-,aa,ca,hva,-⟩:=T6.out.aft;subst hva;have gs:=g2.out _ _ w3 T6.out _ _ (zCn OB B_X1) (by first | rfl | trivial)
  unfold stgC at gs ⊢;go_wp2_with fail;refine gs.mono ?_;clear gs;rintro e w7 ⟨cs,er,rfl,hq,hO7,g7⟩;obtain⟨ra,rx,ry,hcs⟩:=hq.shape;subst hcs;have hRB:=(zCn RB B_X0);have lR:=hRB.lt;have hR:Has w7 (w.heap.size+1) _ 33:=(g7.block _ lR (fun e=>by simp only [Option.some.injEq] at e;omega)).trans hRB
  clear hRB;have HI:=Lib.hid (show Z9 w7.heap.size w7 _ l from (P1.out.below (grown_low' B_w1.out g7 (by omega) (Nat.le_refl _))).mono (Nat.le_trans B_w1.out.size g7.size))
  have HB:=Lib.hid (grown_low' BW.out g7 (by omega) (Nat.le_refl _))
  have HR:=Lib.hid hR;have HQ7:=Lib.hid hq;have z7:=g7.size;clear hq g7;have u0:=hR.cell (i:=0) rfl;have y0:=Ze hR 0;have u1:=hR.cell (i:=1) rfl;have y1:=Ze hR 1;have u2:=hR.cell (i:=2) rfl;have y2:=Ze hR 2;have u3:=hR.cell (i:=3) rfl;have y3:=Ze hR 3;have u4:=hR.cell (i:=4) rfl;have y4:=Ze hR 4;have u5:=hR.cell (i:=5) rfl;have y5:=Ze hR 5;clear hR;have o0:=hO7.cell (i:=0) rfl;have o1:=hO7.cell (i:=1) rfl;have o2:=hO7.cell (i:=2) rfl;have o3:=hO7.cell (i:=3) rfl;have o4:=hO7.cell (i:=4) rfl;have o5:=hO7.cell (i:=5) rfl;clear hO7;by_cases er0:er=0
  ·subst er0
   go_wp2;clear o0 o1 o2 o3 o4 o5 u0 y0 u1 y1 u2 y2 u3 y3 u4 y4 u5 y5;generalize hZ:World.setCell (World.setCell (World.setCell (World.setCell (World.setCell (World.setCell w7 _ _) _ _) _ _) _ _) _ _) _ _=Z;obtain⟨HZ,hl2,hs2,he2⟩:=set6 HR.out rfl hZ;clear hZ;have hg9:w7.grownBy Z (some (w.heap.size+1)):=⟨(hl2 0 (Nat.zero_le _)).os,(hl2 0 (Nat.zero_le _)).tape,(hl2 0 (Nat.zero_le _)).output,by omega,fun i _ hne=>he2 i (fun e=>hne (by rw [e]))⟩
   have u0:=HZ.cell (i:=0) rfl;have u1:=HZ.cell (i:=1) rfl;have u2:=HZ.cell (i:=2) rfl;have u3:=HZ.cell (i:=3) rfl;have u4:=HZ.cell (i:=4) rfl;have u5:=HZ.cell (i:=5) rfl;have hI9:Z9 Z.heap.size Z _ l:=HI.out.offG hg9 (fun r e=>.inr fun e2=>by cases e;have:=N1.out _ e2;omega)
   exact bodyPost_ret (v:=.tuple #[.agg #[.slice h1 l.length (l.length+d1),.int .i64 (k:Int),.int .i64 2,.int .i64 ra,.int .i64 rx,.int .i64 ry],.bool true,.int .i64 0]) (by simp [results,scZ,Tryz.f10,go_sem,u0,u1,u2,u3,u4,u5]) rfl ⟨_,_,0,HQ7.out,hI9,HB.out.trans (hl2 _ (by omega)),by rw [if_pos rfl]⟩
  ·have e1:(er != 0)=true:=by simpa using er0
   clear o0 o1 o2 o3 o4 o5;go_wp2;clear u0 y0 u1 y1 u2 y2 u3 y3 u4 y4 u5 y5;generalize hZ:World.setCell (World.setCell (World.setCell (World.setCell (World.setCell (World.setCell w7 _ _) _ _) _ _) _ _) _ _) _ _=Z;obtain⟨HZ,hl2,hs2,he2⟩:=set6 HR.out rfl hZ;clear hZ;have hg9:w7.grownBy Z (some (w.heap.size+1)):=⟨(hl2 0 (Nat.zero_le _)).os,(hl2 0 (Nat.zero_le _)).tape,(hl2 0 (Nat.zero_le _)).output,by omega,fun i _ hne=>he2 i (fun e=>hne (by rw [e]))⟩
   have u0:=HZ.cell (i:=0) rfl;have u1:=HZ.cell (i:=1) rfl;have u2:=HZ.cell (i:=2) rfl;have u3:=HZ.cell (i:=3) rfl;have u4:=HZ.cell (i:=4) rfl;have u5:=HZ.cell (i:=5) rfl;have hI9:Z9 Z.heap.size Z _ l:=HI.out.offG hg9 (fun r e=>.inr fun e2=>by cases e;have:=N1.out _ e2;omega)
   exact bodyPost_ret (v:=.tuple #[.agg scZ,.bool false,.int .i64 er]) (by simp [results,scZ,Tryz.f10,go_sem,u0,u1,u2,u3,u4,u5]) rfl ⟨_,_,er,HQ7.out,hI9,HB.out.trans (hl2 _ (by omega)),by rw [if_neg er0]⟩
 ·skip
  have hat9:=HA.out.2.2.2.1;have has9:=HH.out.2.2.2.1;have hwf:(Lit.int .i64 3).wf=true:=rfl;have hR:=(zCn RB B_X0);have HR:=Lib.hid hR;have hO7:=(zCn OB B_X1);have HI:=Lib.hid ((P1.out.below B_w1.out).mono B_w1.out.size);have HB:=BW;have HQ7:=Lib.hid (HQ.out (.slice h1 l.length (l.length+d1)) (by omega))
  have u0:=hR.cell (i:=0) rfl;have y0:=Ze hR 0;have u1:=hR.cell (i:=1) rfl;have y1:=Ze hR 1;have u2:=hR.cell (i:=2) rfl;have y2:=Ze hR 2;have u3:=hR.cell (i:=3) rfl;have y3:=Ze hR 3;have u4:=hR.cell (i:=4) rfl;have y4:=Ze hR 4;have u5:=hR.cell (i:=5) rfl;have y5:=Ze hR 5;clear hR;have o0:=hO7.cell (i:=0) rfl;have o1:=hO7.cell (i:=1) rfl;have o2:=hO7.cell (i:=2) rfl;have o3:=hO7.cell (i:=3) rfl;have o4:=hO7.cell (i:=4) rfl;have o5:=hO7.cell (i:=5) rfl;clear hO7;go_wp2_with (at_lookup;refine wpList_lookup_own_ok (H:=Value) _ rfl _ _ 68 rfl 3 64 keyInt Tryz.underlying68 fnR (zeroF1 _) (.held .nilFunc) [] rfl X1.heap.size _ _ rfl M0.out _ _ rfl (keyOf_int_mk Tryz.underlying3 hwf) ?_;intro v9 ps9 h9;replace h9:=ZM h9 hat9;subst h9;rw [has9]);clear o0 o1 o2 o3 o4 o5 u0 y0 u1 y1 u2 y2 u3 y3 u4 y4 u5 y5;generalize hZ:World.setCell (World.setCell (World.setCell (World.setCell (World.setCell (World.setCell X5 _ _) _ _) _ _) _ _) _ _) _ _=Z;obtain⟨HZ,hl2,hs2,he2⟩:=set6 HR.out rfl hZ;clear hZ;have hg9:X5.grownBy Z (some (w.heap.size+1)):=⟨(hl2 0 (Nat.zero_le _)).os,(hl2 0 (Nat.zero_le _)).tape,(hl2 0 (Nat.zero_le _)).output,by omega,fun i _ hne=>he2 i (fun e=>hne (by rw [e]))⟩
  have u0:=HZ.cell (i:=0) rfl;have u1:=HZ.cell (i:=1) rfl;have u2:=HZ.cell (i:=2) rfl;have u3:=HZ.cell (i:=3) rfl;have u4:=HZ.cell (i:=4) rfl;have u5:=HZ.cell (i:=5) rfl;have hI9:Z9 Z.heap.size Z _ l:=HI.out.offG hg9 (fun r e=>.inr fun e2=>by cases e;have:=N1.out _ e2;omega)
  exact bodyPost_ret (v:=.tuple #[.agg #[.slice h1 l.length (l.length+d1),.int .i64 (k:Int),.int .i64 3,.int .i64 0,.int .i64 0,.int .i64 0],.bool true,.int .i64 0]) (by simp [results,scZ,Tryz.f10,go_sem,u0,u1,u2,u3,u4,u5]) rfl ⟨_,_,0,HQ7.out,hI9,HB.out.trans (hl2 _ (by omega)),by rw [if_pos rfl]⟩
 ·skip
  have hat9:=HA.out.2.2.2.2;have has9:=HH.out.2.2.2.2;have hwf:(Lit.int .i64 4).wf=true:=rfl;have hR:=(zCn RB B_X0);have HR:=Lib.hid hR;have hO7:=(zCn OB B_X1);have HI:=Lib.hid ((P1.out.below B_w1.out).mono B_w1.out.size);have HB:=BW;have HQ7:=Lib.hid (HQ.out (.slice h1 l.length (l.length+d1)) (by omega))
  have u0:=hR.cell (i:=0) rfl;have y0:=Ze hR 0;have u1:=hR.cell (i:=1) rfl;have y1:=Ze hR 1;have u2:=hR.cell (i:=2) rfl;have y2:=Ze hR 2;have u3:=hR.cell (i:=3) rfl;have y3:=Ze hR 3;have u4:=hR.cell (i:=4) rfl;have y4:=Ze hR 4;have u5:=hR.cell (i:=5) rfl;have y5:=Ze hR 5;clear hR;have o0:=hO7.cell (i:=0) rfl;have o1:=hO7.cell (i:=1) rfl;have o2:=hO7.cell (i:=2) rfl;have o3:=hO7.cell (i:=3) rfl;have o4:=hO7.cell (i:=4) rfl;have o5:=hO7.cell (i:=5) rfl;clear hO7;go_wp2_with (at_lookup;refine wpList_lookup_own_ok (H:=Value) _ rfl _ _ 68 rfl 3 64 keyInt Tryz.underlying68 fnR (zeroF1 _) (.held .nilFunc) [] rfl X1.heap.size _ _ rfl M0.out _ _ rfl (keyOf_int_mk Tryz.underlying3 hwf) ?_;intro v9 ps9 h9;replace h9:=ZM h9 hat9;subst h9;rw [has9]);clear o0 o1 o2 o3 o4 o5 u0 y0 u1 y1 u2 y2 u3 y3 u4 y4 u5 y5;generalize hZ:World.setCell (World.setCell (World.setCell (World.setCell (World.setCell (World.setCell X5 _ _) _ _) _ _) _ _) _ _) _ _=Z;obtain⟨HZ,hl2,hs2,he2⟩:=set6 HR.out rfl hZ;clear hZ;have hg9:X5.grownBy Z (some (w.heap.size+1)):=⟨(hl2 0 (Nat.zero_le _)).os,(hl2 0 (Nat.zero_le _)).tape,(hl2 0 (Nat.zero_le _)).output,by omega,fun i _ hne=>he2 i (fun e=>hne (by rw [e]))⟩
  have u0:=HZ.cell (i:=0) rfl;have u1:=HZ.cell (i:=1) rfl;have u2:=HZ.cell (i:=2) rfl;have u3:=HZ.cell (i:=3) rfl;have u4:=HZ.cell (i:=4) rfl;have u5:=HZ.cell (i:=5) rfl;have hI9:Z9 Z.heap.size Z _ l:=HI.out.offG hg9 (fun r e=>.inr fun e2=>by cases e;have:=N1.out _ e2;omega)
  exact bodyPost_ret (v:=.tuple #[.agg #[.slice h1 l.length (l.length+d1),.int .i64 (k:Int),.int .i64 4,.int .i64 0,.int .i64 0,.int .i64 0],.bool true,.int .i64 0]) (by simp [results,scZ,Tryz.f10,go_sem,u0,u1,u2,u3,u4,u5]) rfl ⟨_,_,0,HQ7.out,hI9,HB.out.trans (hl2 _ (by omega)),by rw [if_pos rfl]⟩
end
end Go.Proofs.YtdolkgihppgpcaaGreat
