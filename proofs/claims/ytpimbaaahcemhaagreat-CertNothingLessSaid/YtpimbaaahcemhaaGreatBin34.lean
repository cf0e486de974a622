/- Passages and integers appended to an empty row of the call's own; one number of a certificate less. | the example of layer 36, reckoned. No program .. -/
import Derived.Test.YtpimbaaahcemhaaGreatBin33
import Derived.Test.YtpimbaaahcemhaaGreatBin30
import Derived.Test.YtpimbaaahcemhaaGreatBin13
import Derived.Test.YtpimbaaahcemhaaGreatBin31
import Derived.Test.YtpimbaaahcemhaaGreatBin22
import Derived.Test.YtpimbaaahcemhaaGreatBin12
namespace Go.Proofs.YtpimbaaahcemhaaGreat
open Go.RowKit
theorem Has.off {W:World} {g:Nat} {cs:Array Value} {t:TypeId} (h:Has W g cs t) {p:Addr} (hne:g≠p.block) (v:Value):Has (W.setCell p v) g cs t:=(Below.heap_setCell W p v g hne).trans h
theorem addr_off (b o j:Nat):(⟨b,o,none⟩:Addr).add j=⟨b,o+j,none⟩:=by unfold Addr.add;split <;> simp_all
theorem Has.at {W:World} {g:Nat} {cs:Array Value} {t:TypeId} (h:Has W g cs t) (i:Nat):W.cell? ⟨g,i,none⟩=cs[i]?:=by simp [World.cell?,show W.heap[g]?=_ from h]
theorem arr_set {cur:Array Value} {k r:Nat} {v u:Value} (h:cur[r]?=some u):(cur.setIfInBounds k v)[r]?=some (if k=r then v else u):=by
 have hr:r<cur.size:=(Array.getElem?_eq_some_iff.1 h).1
 by_cases e:k=r
 ·subst e;simp [hr]
 ·rw [if_neg e,Array.getElem?_setIfInBounds_ne e];exact h
def PsV (n0:Nat) (W:World) (cur:Array Value) (l:List Psg):Prop :=
 ∀ j,j<l.length→∃ u,cur[j*5]?=some u∧PtsAt n0 W u (pgd l j).cor∧cur[j*5+1]?=some (.int .i64 (pgd l j).fr)∧cur[j*5+2]?=some (.int .i64 (pgd l j).tw)∧cur[j*5+3]?=some (.int .i64 (pgd l j).tm)∧cur[j*5+4]?=some (.int .i64 (pgd l j).en)
def numP:Nat→Psg→Int
 | 0,p=>p.fr
 | 1,p=>p.tw
 | 2,p=>p.tm
 | _,p=>p.en
def updP:Nat→Int→Psg→Psg
 | 0,z,p=>{ p with fr:=z }
 | 1,z,p=>{ p with tw:=z }
 | 2,z,p=>{ p with tm:=z }
 | _,z,p=>{ p with en:=z }
theorem pgd_set {l:List Psg} {i:Nat} (hi:i<l.length) (x:Psg) (j:Nat):pgd (l.set i x) j=if j=i then x else pgd l j:=by
 unfold pgd
 simp only [List.getD_eq_getElem?_getD,List.getElem?_set]
 by_cases e:i=j
 ·subst e;simp [hi]
 ·rw [if_neg e,if_neg (fun h=>e h.symm)]
section
variable {n0:Nat} {A B W:World} {cur:Array Value} {l:List Psg}
theorem PsV.below (h:PsV n0 A cur l) (hb:Below n0 A B):PsV n0 B cur l:=fun j hj=>by obtain⟨u,a,b,c⟩:=h j hj;exact⟨u,a,b.below hb,c⟩
theorem PsV.num (h:PsV n0 W cur l) {i q:Nat} (hi:i<l.length) (hq:q<4):cur[i*5+(q+1)]?=some (.int .i64 (numP q (pgd l i))):=by
 obtain⟨u,a,b,c1,c2,c3,c4⟩:=h i hi
 match q,hq with
 | 0,_=>exact c1
 | 1,_=>exact c2
 | 2,_=>exact c3
 | 3,_=>exact c4
theorem PsV.set (h:PsV n0 W cur l) {i q:Nat} (hi:i<l.length) (hq:q<4) (z:Int):PsV n0 W (cur.setIfInBounds (i*5+(q+1)) (.int .i64 z)) (l.set i (updP q z (pgd l i))):=by
 intro j hj
 rw [List.length_set] at hj
 obtain⟨u,a,b,c1,c2,c3,c4⟩:=h j hj
 rw [pgd_set hi]
 refine⟨u,?_,?_,?_⟩
 ·rw [arr_set a,if_neg (by omega)]
 ·by_cases e:j=i
  ·subst e
   rw [if_pos rfl]
   match q,hq with
   | 0,_=>exact b
   | 1,_=>exact b
   | 2,_=>exact b
   | 3,_=>exact b
  ·rw [if_neg e];exact b
 ·by_cases e:j=i
  ·subst e
   rw [if_pos rfl,arr_set c1,arr_set c2,arr_set c3,arr_set c4]
   match q,hq with
   | 0,_=>rw [if_pos rfl,if_neg (by omega),if_neg (by omega),if_neg (by omega)];exact⟨rfl,rfl,rfl,rfl⟩
   | 1,_=>rw [if_neg (by omega),if_pos rfl,if_neg (by omega),if_neg (by omega)];exact⟨rfl,rfl,rfl,rfl⟩
   | 2,_=>rw [if_neg (by omega),if_neg (by omega),if_pos rfl,if_neg (by omega)];exact⟨rfl,rfl,rfl,rfl⟩
   | 3,_=>rw [if_neg (by omega),if_neg (by omega),if_neg (by omega),if_pos rfl];exact⟨rfl,rfl,rfl,rfl⟩
  ·rw [if_neg e,arr_set c1,arr_set c2,arr_set c3,arr_set c4,if_neg (by omega),if_neg (by omega),if_neg (by omega),if_neg (by omega)]
   exact⟨rfl,rfl,rfl,rfl⟩
theorem PsV.psgs (h:PsV n0 W cur l) {g cap:Nat} {t:TypeId} (H:Has W g cur t) (hn:n0≤W.heap.size) (hl:l.length≤1000) (hc:l.length≤cap):PsgsAt W.heap.size W (.slice (some ⟨g,0,none⟩) l.length cap) l:=by
 refine⟨by omega,some ⟨g,0,none⟩,cap - l.length,by rw [show l.length+(cap - l.length)=cap by omega],.inr ⟨g,0,rfl,H.lt,fun j hj=>?_⟩⟩
 obtain⟨u,a,b,c1,c2,c3,c4⟩:=h j hj
 rw [Nat.zero_add]
 exact⟨u,(H.at _).trans a,b.mono hn,(H.at _).trans c1,(H.at _).trans c2,(H.at _).trans c3,(H.at _).trans c4⟩
theorem ints_has {ls:List Int} {g cap:Nat} {t:TypeId} (H:Has W g cur t) (h:∀ j,j<ls.length→cur[j]?=some (.int .i64 (ls.getD j 0))) (hl:ls.length≤1000) (hc:ls.length≤cap):IntsAt W.heap.size W (.slice (some ⟨g,0,none⟩) ls.length cap) ls:=by
 refine⟨by omega,some ⟨g,0,none⟩,cap - ls.length,by rw [show ls.length+(cap - ls.length)=cap by omega],.inr ⟨g,0,rfl,H.lt,fun j hj=>?_⟩⟩
 rw [Nat.zero_add]
 exact (H.at _).trans (h j hj)
theorem ints_set {ls:List Int} {i:Nat} (hi:i<ls.length) (z:Int) (h:∀ j,j<ls.length→cur[j]?=some (.int .i64 (ls.getD j 0))):∀ j,j<(ls.set i z).length→(cur.setIfInBounds i (.int .i64 z))[j]?=some (.int .i64 ((ls.set i z).getD j 0)):=by
 intro j hj
 rw [List.length_set] at hj
 rw [arr_set (h j hj),List.getD_eq_getElem?_getD,List.getD_eq_getElem?_getD,List.getElem?_set]
 by_cases e:i=j
 ·subst e;simp [hi]
 ·rw [if_neg e,if_neg e]
end
theorem own_grown {w w':World} {base size n:Nat} {e:TypeId} {v v':Value} {news:List Value} (hv:w.ownsRow base e size v 0 []) (hbase:base≤w.heap.size) (h1:w'.ownsRow base e size v' (0+n) ([]++news)) (h2:w.grownBy w' v.ownBlock) (hn:0<n) :
  ∃ g cap cur,v'=.slice (some ⟨g,0,none⟩) n cap∧base≤g∧Has w' g cur e∧n≤cap∧(∀ (j:Nat) (u:Value),news[j]?=some u→cur[j]?=some u)∧Below base w w':=by
 rw [Nat.zero_add,List.nil_append] at h1
 have B:=(Below.refl base w).grown h2 hbase fun j ej=>(hv.lt j ej).1
 rcases id h1.2 with⟨-,h0⟩ | ⟨g,cap,cur,rfl,hb,hg,hc,-⟩
 ·omega
 ·refine⟨g,cap,cur,rfl,hb,hg,hc,fun j u hu=>?_,B⟩
  have hj:j<n*size:=by rw [← h1.1];exact (List.getElem?_eq_some_iff.1 hu).1
  exact (Has.at hg j).symm.trans ((h1.cellAt j hj).trans hu)
theorem wpList_append_psgs {w:World} {ops:Array Oper} {rest:List Oper} {o:Oper} {a:Act} {Q:Exit→Act→World→Prop} (hgd:o.guard=none) (s x:Operand)
  (ho:o.op=.call { callee:=.builtin .append,args:=#[s,x],argTypes:=#[28,28] })
  (base:Nat) (v:Value) (hs:a.eval s=v) (hown:w.ownsRow base 48 5 v 0 [])
  (vx:Value) (l:List Psg) (hx:a.eval x=vx) (n0:Nat) (hp:PsgsAt n0 w vx l) (h0:0<l.length) (hl:l.length≤1000) (hn:n0≤base) (hbase:base≤w.heap.size)
  (h:∀ g cap cur w',base≤g→Has w' g cur 48→l.length≤cap→PsV n0 w' cur l→Below base w w'→wpList Tryz.prog ops Q rest (a.put o.dst (.slice (some ⟨g,0,none⟩) l.length cap)) w') :
  wpList Tryz.prog ops Q (o::rest) a w:=by
 obtain⟨i5,hi5,hy0',hy1',hy2'⟩:=info_parts psgInfo
 obtain⟨_,au,cu,rfl,hc⟩:=hp
 obtain⟨b,oo,rfl,hb,hc⟩:=hc.resolve_left (by intro h;rw [h] at h0;simp at h0)
 have hf:∀ k,∃ u,k<l.length*5→w.cell? ⟨b,oo+k,none⟩=some u∧u.oneCell'=true:=fun k=>by
  by_cases hk:k<l.length*5
  ·obtain⟨q,r,hr,rfl⟩:∃ q r,r<5∧k=q*5+r:=⟨k / 5,k % 5,Nat.mod_lt _ (by omega),by omega⟩
   obtain⟨u,c0,hu,c1,c2,c3,c4⟩:=hc q (by omega)
   rw [show oo+(q*5+r)=oo+q*5+r by omega]
   match r,hr with
   | 0,_=>exact⟨u,fun _=>⟨c0,by obtain⟨-,a1,c1,e1,-⟩:=hu;rw [e1];rfl⟩⟩
   | 1,_=>exact⟨_,fun _=>⟨c1,rfl⟩⟩
   | 2,_=>exact⟨_,fun _=>⟨c2,rfl⟩⟩
   | 3,_=>exact⟨_,fun _=>⟨c3,rfl⟩⟩
   | 4,_=>exact⟨_,fun _=>⟨c4,rfl⟩⟩
  ·exact⟨.slice none 0 0,fun h=>absurd h hk⟩
 obtain⟨f,hg⟩:∃ f:Nat→Value,∀ k,k<l.length*5→w.cell? ⟨b,oo+k,none⟩=some (f k)∧(f k).oneCell'=true:=⟨fun k=>(hf k).choose,fun k=>(hf k).choose_spec⟩
 clear hf
 refine wpList_append_own_at w hgd s x 28 ho base 48 i5 (.agg #[.slice none 0 0,.int .i64 0,.int .i64 0,.int .i64 0,.int .i64 0]) 5 56 Tryz.underlying28 hi5 hy0' hy1' hy2' rfl (by decide) v 0 [] hs hown ⟨b,oo,none⟩ l.length (l.length+cu) ((List.range (l.length*5)).map f) hx (by simp) (fun j u hu=>?_) (fun u hu=>?_) (by unfold maxLen;omega) (by omega) hbase ?_
 ·have hj:j<l.length*5:=by have:=(List.getElem?_eq_some_iff.1 hu).1;simpa using this
  simp [hj] at hu
  rw [← hu,addr_off]
  exact (hg j hj).1
 ·obtain⟨j,hj,rfl⟩:=List.mem_map.1 hu
  exact (hg j (List.mem_range.1 hj)).2
 intro v' w' r1 g1 _ _
 obtain⟨g,cap,cur,rfl,e1,e2,e3,e4,e5⟩:=own_grown hown hbase r1 g1 h0
 have ef:∀ j k,j<l.length→k<5→∀ u,w.cell? ⟨b,oo+j*5+k,none⟩=some u→cur[j*5+k]?=some u:=fun j k hj hk u hu=>by
  refine e4 _ u ?_
  have hlt:j*5+k<l.length*5:=by omega
  rw [List.getElem?_map,List.getElem?_range hlt]
  refine congrArg some ?_
  rw [show oo+j*5+k=oo+(j*5+k) by omega] at hu
  exact Option.some.inj ((hg _ hlt).1.symm.trans hu)
 refine h g cap cur w' e1 e2 e3 (fun j hj=>?_) e5
 obtain⟨u,c0,hu,c1,c2,c3,c4⟩:=hc j hj
 exact⟨u,ef j 0 hj (by omega) u c0,hu.below (e5.mono hn),ef j 1 hj (by omega) _ c1,ef j 2 hj (by omega) _ c2,ef j 3 hj (by omega) _ c3,ef j 4 hj (by omega) _ c4⟩
theorem wpList_append_ints {w:World} {ops:Array Oper} {rest:List Oper} {o:Oper} {a:Act} {Q:Exit→Act→World→Prop} (hgd:o.guard=none) (s x:Operand)
  (ho:o.op=.call { callee:=.builtin .append,args:=#[s,x],argTypes:=#[27,27] })
  (base:Nat) (v:Value) (hs:a.eval s=v) (hown:w.ownsRow base 3 1 v 0 [])
  (vx:Value) (l:List Int) (hx:a.eval x=vx) (n0:Nat) (hp:IntsAt n0 w vx l) (h0:0<l.length) (hl:l.length≤1000) (hbase:base≤w.heap.size)
  (h:∀ g cap cur w',base≤g→Has w' g cur 3→l.length≤cap→(∀ j,j<l.length→cur[j]?=some (.int .i64 (l.getD j 0)))→Below base w w'→wpList Tryz.prog ops Q rest (a.put o.dst (.slice (some ⟨g,0,none⟩) l.length cap)) w') :
  wpList Tryz.prog ops Q (o::rest) a w:=by
 obtain⟨i0,hi,hz0',hz1',hz2'⟩:=info_parts intInfo
 obtain⟨_,au,cu,rfl,hc⟩:=hp
 obtain⟨b,oo,rfl,hb,hc⟩:=hc.resolve_left (by intro h;rw [h] at h0;simp at h0)
 have hm:∀ j,j<l.length→(l.map (Value.int .i64))[j]?=some (.int .i64 (l.getD j 0)):=fun j hj=>by simp [List.getD,hj]
 refine wpList_append_own_at w hgd s x 27 ho base 3 i0 (.int .i64 0) 1 8 Tryz.underlying27 hi hz0' hz1' hz2' rfl (by decide) v 0 [] hs hown ⟨b,oo,none⟩ l.length (l.length+cu) (l.map (Value.int .i64)) hx (by simp) (fun j u hu=>?_) (fun u hu=>?_) (by unfold maxLen;omega) (by omega) hbase ?_
 ·have hj:j<l.length:=by have:=(List.getElem?_eq_some_iff.1 hu).1;simpa using this
  rw [hm j hj] at hu
  rw [← Option.some.inj hu,addr_off]
  exact hc j hj
 ·obtain⟨j,-,rfl⟩:=List.mem_map.1 hu
  rfl
 intro v' w' r1 g1 _ _
 obtain⟨g,cap,cur,rfl,e1,e2,e3,e4,e5⟩:=own_grown hown hbase r1 g1 h0
 exact h g cap cur w' e1 e2 e3 (fun j hj=>e4 j _ (hm j hj)) e5
def lessC (c:Crt) (i q:Nat):Crt:=if q<4 then { c with psg:=c.psg.set i (updP q (numP q (pgd c.psg i) - 1) (pgd c.psg i)) } else { c with ret:=c.ret.set i (c.ret.getD i 0 - 1) }
end Go.Proofs.YtpimbaaahcemhaaGreat
namespace Go.Proofs.YtpimbaaahcemhaaGreat
def hm5:List Pt:=[⟨-50,-50⟩,⟨50,-50⟩,⟨50,50⟩,⟨-50,50⟩]
def exC (b:Int):Msn:=⟨[⟨0,0,0,0,0⟩,⟨1000,0,0,0,0⟩],hm5,10,[],10000,0,0,1,0,b,100⟩
theorem exC_legs (b:Int):(gLeg (exC b) 0 1=0∧gLeg (exC b) 1 0=0)∧(tLeg (exC b) 0 1=10∧tLeg (exC b) 1 0=10)∧(eLeg (exC b) 0 1=10∧eLeg (exC b) 1 0=10):=by
 have d1:dLeg (exC b) 0 1=1000:=show distV 0 0 1000 0=1000 from rdist_of (by decide) (by decide) (by decide)
 have d2:dLeg (exC b) 1 0=1000:=show distV 1000 0 0 0=1000 from rdist_of (by decide) (by decide) (by decide)
 have t1:tLeg (exC b) 0 1=10:=by unfold tLeg;rw [d1];exact (show lastsV 10000 1000=10 by decide)
 have t2:tLeg (exC b) 1 0=10:=by unfold tLeg;rw [d2];exact (show lastsV 10000 1000=10 by decide)
 refine⟨⟨?_,?_⟩,⟨t1,t2⟩,?_,?_⟩
 ·unfold gLeg;rw [d1];exact (show growthV 10000 0 0 1000=0 by decide)
 ·unfold gLeg;rw [d2];exact (show growthV 10000 0 0 1000=0 by decide)
 ·unfold eLeg;rw [t1,d1];rfl
 ·unfold eLeg;rw [t2,d2];rfl
theorem hm5_valid:goValid hm5=true:=by rw [goValid_eq];decide +kernel
theorem exC_grown (b:Int):grownV (exC b)=10:=by
 obtain⟨⟨g1,g2⟩,-⟩:=exC_legs b
 show (10:Int)+(gLeg (exC b) 0 1+gLeg (exC b) 1 0)=10
 rw [g1,g2]
 rfl
theorem exC_valid {b:Int} (hb:0≤b∧b≤1000000000):validB (exC b)=true:=by
 rw [validB_iff]
 refine⟨by show 2≤2;decide,by show 2≤41;decide,by show 0≤100;decide,by show waysB [⟨0,0,0,0,0⟩,⟨1000,0,0,0,0⟩]=true;decide,hm5_valid,?_,by show (0:Int)≤10∧(10:Int)≤100000;decide,by show (1:Int)≤10000∧(10000:Int)≤20000∧(0:Int)≤0∧(0:Int)≤500∧(0:Int)≤0∧(0:Int)≤5000;decide,by show (0:Int)≤1∧(1:Int)≤1000;decide,by show (0:Int)≤0∧(0:Int)≤1000;decide,hb,by show (0:Int)≤100∧(100:Int)≤1000000000;decide,by rw [exC_grown];decide⟩
 exact decide_eq_true fun j hj=>absurd hj (by simp [exC])
theorem firB_nil (c:List Pt):firB c []=false:=by
 unfold firB
 split <;> rfl
theorem exC_cc {b:Int} (hb:0≤b∧b≤1000000000) {i j:Nat} (hi:i<2) (hj:j<2) {u v:Int} (hu:0≤u∧u≤100000) (hv:0≤v∧v≤100000):ccB (exC b) i u j v=true:=by
 rw [ccB_of ((validB_iff _).1 (exC_valid hb)) hi hj hu hv]
 unfold clrB
 rw [show (exC b).rocks=[] from rfl,firB_nil]
 rfl
theorem exC_lie (b:Int):lieB (exC b) 10=true:=by
 unfold lieB
 rw [show (10:Int).toNat=10 from rfl,disk_10,show atW (exC b) 0=⟨0,0⟩ from rfl]
 unfold cornersP
 rw [show (exC b).home=hm5 from rfl,cornersC_eq hm5_valid]
 decide +kernel
theorem exC_dep (b:Int):dep (exC b) 1=1:=rfl
theorem exC_home (b:Int):homeE (exC b) 1 1=10∧homeT (exC b) 1 1=10:=by
 obtain⟨-,⟨-,t2⟩,-,e2⟩:=exC_legs b
 simp only [homeE,homeT]
 exact⟨by show 0+eLeg (exC b) 1 0=10;rw [e2];rfl,by show 0+tLeg (exC b) 1 0=10;rw [t2];rfl⟩
theorem exC_hw {b:Int} (hb:0≤b∧b≤1000000000):hwE (exC b) 1 10=0:=by
 obtain⟨⟨-,g2⟩,-⟩:=exC_legs b
 have r1:bkR (exC b) 1 10 1=10:=by show 10+gLeg (exC b) 1 0=10;rw [g2];rfl
 have c1:ccC (exC b) 1 10 1=true:=by
  show (true && ccB (exC b) 1 10 0 (bkR (exC b) 1 10 1))=true
  rw [r1,exC_cc hb (by decide) (by decide) (by decide) (by decide)]
  rfl
 unfold hwE
 rw [exC_dep,c1,r1,exC_lie]
 rfl
theorem exC_kps {b:Int} (hb:0≤b∧b≤1000000000):kpsE (exC b) 0 10 10 10 10=if 20>b then 51 else 0:=by
 obtain⟨h1,h2⟩:=exC_home b
 unfold kpsE
 rw [show 0+1=1 from rfl,exC_cc hb (by decide) (by decide) (by decide) (by decide),exC_hw hb,exC_dep,h1,h2,if_neg (by decide),if_neg (by decide),if_neg (by decide)]
 show (if (20:Int)>b then 51 else if (20:Int)>100 then 6 else 0)=_
 rw [if_neg (by decide:¬ (20:Int)>100)]
theorem exC_rad (b:Int):rdA (exC b) [] 0=10∧rdB (exC b) [] 1=10:=by
 obtain⟨⟨g1,-⟩,-⟩:=exC_legs b
 exact⟨rfl,by rw [rdB_succ,show rdA (exC b) [] 0=10 from rfl,g1];rfl⟩
theorem exC_us (b:Int):usT (exC b) [] 1=10∧usE (exC b) [] 1=10:=by
 obtain⟨-,⟨t1,-⟩,e1,-⟩:=exC_legs b
 have w0:waitT (exC b) [] 0=0:=rfl
 exact⟨by show 0+waitT (exC b) [] 0+tLeg (exC b) 0 1=10;rw [w0,t1];rfl,by show 0+1*waitT (exC b) [] 0+eLeg (exC b) 0 1=10;rw [w0,e1];rfl⟩
theorem exC_ok {b:Int} (hb:0≤b∧b≤1000000000):radOkB (exC b) []=true:=by
 unfold radOkB
 rw [exC_valid hb,Bool.true_and]
 unfold stopsB
 exact decide_eq_true fun k hk=>absurd hk (by simp)
theorem exC_no {b:Int}:radOkB (exC b) [1]=false:=by
 have h:stopsB (exC b) [1]=false:=by show stopsB (exC 0) [1]=false;decide
 unfold radOkB
 rw [h,Bool.and_false]
def c36L:List Pt:=[⟨-10,-5⟩,⟨-5,-10⟩,⟨1005,-10⟩,⟨1010,-5⟩,⟨1010,5⟩,⟨1005,10⟩,⟨-5,10⟩,⟨-10,5⟩]
theorem c36_valid:goValid c36L=true:=by rw [goValid_eq];decide +kernel
theorem c36_cor:corE ⟨0,0⟩ 10 ⟨1000,0⟩ 10=0∧corL ⟨0,0⟩ 10 ⟨1000,0⟩ 10=c36L:=by
 have e:corE ⟨0,0⟩ 10 ⟨1000,0⟩ 10=0:=by
  unfold corE
  rw [show (10:Int).toNat=10 from rfl,disk_10]
  decide +kernel
 refine⟨e,?_⟩
 unfold corL
 rw [if_pos e]
 unfold corH
 rw [show (10:Int).toNat=10 from rfl,disk_10]
 exact hullB_of (by decide +kernel)
theorem exC_mkE {b:Int} (hb:0≤b∧b≤1000000000):mkE (exC b) []=if 20>b then 51 else 0:=by
 obtain⟨r1,r2⟩:=exC_rad b
 obtain⟨u1,u2⟩:=exC_us b
 unfold mkE
 rw [exC_ok hb,if_pos rfl]
 have q:mkQ (exC b) [] 0=if 20>b then 51 else 0:=by unfold mkQ;rw [show 0+1=1 from rfl,r1,r2,u1,u2,exC_kps hb]
 show (if mkQ (exC b) [] 0=0 then 0 else mkQ (exC b) [] 0)=_
 rw [q]
 split <;> simp_all
def ce36:Crt:=⟨[],[⟨c36L,10,10,10,10⟩],[10]⟩
theorem exC_mkC {b:Int} (hb:20≤b∧b≤1000000000):mkC (exC b) []=ce36:=by
 obtain⟨r1,r2⟩:=exC_rad b
 obtain⟨u1,u2⟩:=exC_us b
 obtain⟨h1,h2⟩:=exC_home b
 have e:mkE (exC b) []=0:=(exC_mkE ⟨by omega,hb.2⟩).trans (if_neg (by omega))
 unfold mkC
 rw [e,if_pos rfl]
 show (⟨[],[mkP (exC b) [] 0],[mkR (exC b) 0]⟩:Crt)=ce36
 unfold mkP mkR
 rw [show 0+1=1 from rfl,r1,r2,u1,u2,exC_dep,h1,show atW (exC b) 0=⟨0,0⟩ from rfl,show atW (exC b) 1=⟨1000,0⟩ from rfl,c36_cor.2]
 rfl
theorem exC_form {b:Int} (hb:0≤b∧b≤1000000000):frmB (exC b) ce36=true:=by
 unfold frmB
 rw [show ce36.stops=[] from rfl,exC_ok hb]
 have h:∀ j,j<ce36.psg.length→okP ce36 j=true:=fun j hj=>by
  obtain rfl:j=0:=by simp [ce36] at hj;omega
  unfold okP
  rw [show (pgd ce36.psg 0).cor=c36L from rfl,c36_valid]
  decide
 rw [decide_eq_true h]
 rfl
theorem within_self {p:List Pt} (h:goValid p=true):withinB p p=true:=by
 have k:∀ k,k≤p.length→(cornersTo p p k).length=k:=fun k=>by
  induction k with
  | zero=>intro _;rfl
  | succ k ih =>
   intro hk
   simp only [cornersTo,hasB_corner h (show k<p.length by omega),if_true]
   rw [List.length_append,ih (by omega)]
   rfl
 unfold withinB cornersP
 rw [h,k _ (Nat.le_refl _)]
 simp
theorem exC_check {b:Int} (hb:0≤b∧b≤1000000000):chkB (exC b) ce36=decide (20≤b)∧chkE (exC b) ce36=0:=by
 obtain⟨⟨g1,-⟩,⟨t1,-⟩,e1,-⟩:=exC_legs b
 obtain⟨h1,h2⟩:=exC_home b
 refine⟨?_,by unfold chkE;rw [exC_form hb];rfl⟩
 have q:lgB (exC b) ce36 0=decide (20≤b):=by
  have l1:lg1 (exC b) ce36 0=true:=by
   unfold lg1
   rw [show 0+1=1 from rfl,g1]
   rfl
  have l2:lg2 (exC b) ce36 0=true:=by
   unfold lg2
   rw [show 0+1=1 from rfl,t1,e1,exC_dep,h1]
   rfl
  have l3:lg3 (exC b) ce36 0=decide (20≤b):=by
   unfold lg3
   rw [show (pgd ce36.psg 0).fr=10 from rfl,show (pgd ce36.psg 0).tw=10 from rfl,show (pgd ce36.psg 0).tm=10 from rfl,show (pgd ce36.psg 0).en=10 from rfl,exC_kps hb]
   show (decide ((20:Int)≤b) && decide ((if (20:Int)>b then (51:Int) else 0)=0))=_
   by_cases h:(20:Int)≤b
   ·rw [if_neg (by omega)];simp
   ·rw [decide_eq_false h];rfl
  have l4:lg4 (exC b) ce36 0=true:=by
   unfold lg4
   rw [show (pgd ce36.psg 0).fr=10 from rfl,show (pgd ce36.psg 0).tw=10 from rfl,show (pgd ce36.psg 0).cor=c36L from rfl,show atW (exC b) 0=⟨0,0⟩ from rfl,show atW (exC b) (0+1)=⟨1000,0⟩ from rfl,c36_cor.1,c36_cor.2,within_self c36_valid,show (exC b).rocks=[] from rfl,firB_nil]
   rfl
  unfold lgB
  rw [l1,l2,l3,l4]
  simp
 unfold chkB
 rw [exC_form hb,Bool.true_and]
 rw [← q]
 rw [Bool.eq_iff_iff,decide_eq_true_eq]
 exact⟨fun h=>h 0 (by decide),fun h i hi=>by obtain rfl:i=0:=(by simp [ce36] at hi;omega);exact h⟩
theorem c36_in (p:Pt) (hv:goValid [p]=true) (b:Bool) (h:decide ((cornersC [p] c36L 1).length=1)=b):withinB [p] c36L=b:=by
 unfold withinB cornersP
 rw [hv,c36_valid,cornersC_eq c36_valid,Bool.true_and,Bool.true_and]
 exact h
theorem v36_a:goValid [⟨500,10⟩]=true:=by rw [goValid_eq];decide +kernel
theorem v36_b:goValid [⟨0,0⟩]=true:=by rw [goValid_eq];decide +kernel
theorem v36_c:goValid [⟨500,11⟩]=true:=by rw [goValid_eq];decide +kernel
theorem exC_in:cvB ce36 0 [[⟨500,10⟩],[⟨0,0⟩]]=true∧cvE ce36 0 [[⟨500,10⟩],[⟨0,0⟩]]=0:=by
 have hr:regB [[⟨500,10⟩],[⟨0,0⟩]]=true:=by
  unfold regB polysB
  rw [decide_eq_true (show ∀ j,j<[[(⟨500,10⟩:Pt)],[⟨0,0⟩]].length→goValid (rk [[⟨500,10⟩],[⟨0,0⟩]] j)=true from fun j hj=>by
   rcases (show j=0∨j=1 by simp at hj;omega) with rfl | rfl
   ·exact v36_a
   ·exact v36_b)]
  rfl
 have hi:inAll [[⟨500,10⟩],[⟨0,0⟩]] c36L=true:=decide_eq_true fun j hj=>by
  rcases (show j=0∨j=1 by simp at hj;omega) with rfl | rfl
  ·exact c36_in _ v36_a true (by decide +kernel)
  ·exact c36_in _ v36_b true (by decide +kernel)
 have hc:(0:Int)≤0∧(0:Int)<ce36.psg.length:=by decide
 unfold cvB cvE
 rw [if_pos hc,if_pos hc,show (pgd ce36.psg (0:Int).toNat).cor=c36L from rfl]
 unfold rwB rwE
 rw [hr,c36_valid,hi]
 exact⟨rfl,rfl⟩
theorem exC_out:cvB ce36 0 [[⟨500,11⟩]]=false∧cvE ce36 0 [[⟨500,11⟩]]=0:=by
 have hr:regB [[⟨500,11⟩]]=true:=by
  unfold regB polysB
  rw [decide_eq_true (show ∀ j,j<[[(⟨500,11⟩:Pt)]].length→goValid (rk [[⟨500,11⟩]] j)=true from fun j hj=>by
   obtain rfl:j=0:=by simp at hj;omega
   exact v36_c)]
  rfl
 have hi:inAll [[⟨500,11⟩]] c36L=false:=decide_eq_false fun h=>by
  have:=h 0 (by decide)
  rw [show rk [[(⟨500,11⟩:Pt)]] 0=[⟨500,11⟩] from rfl,c36_in _ v36_c false (by decide +kernel)] at this
  cases this
 have hc:(0:Int)≤0∧(0:Int)<ce36.psg.length:=by decide
 unfold cvB cvE
 rw [if_pos hc,if_pos hc,show (pgd ce36.psg (0:Int).toNat).cor=c36L from rfl]
 unfold rwB rwE
 rw [hr,c36_valid,hi]
 exact⟨rfl,rfl⟩
end Go.Proofs.YtpimbaaahcemhaaGreat
namespace Go.Proofs.YtpimbaaahcemhaaGreat
theorem mkF_all {m:Msn} {l:List Int}:∀ n k,mkF m l n k=0→∀ j,k≤j→j<k+n→mkQ m l j=0
 | 0,_,_,_,_,_=>by omega
 | n + 1, k, h, j, h1, h2 => by
  have h':(if mkQ m l k=0 then mkF m l n (k+1) else mkQ m l k)=0:=h
  by_cases e:mkQ m l k=0
  ·rw [if_pos e] at h'
   by_cases ej:j=k
   ·rw [ej];exact e
   ·exact mkF_all n (k+1) h' j (by omega) (by omega)
  ·rw [if_neg e] at h';exact absurd h' e
theorem mk_ok {m:Msn} {l:List Int} (h:mkE m l=0):radOkB m l=true∧∀ j,j<m.ways.length - 1→mkQ m l j=0:=by
 unfold mkE at h
 cases hr:radOkB m l
 ·rw [hr,if_neg (by decide)] at h;omega
 ·rw [hr,if_pos rfl] at h
  exact⟨rfl,fun j hj=>mkF_all _ 0 h j (Nat.zero_le _) (by omega)⟩
theorem mkC_eq {m:Msn} {l:List Int} (h:mkE m l=0):mkC m l=⟨l,upto (mkP m l) (m.ways.length - 1),upto (mkR m) (m.ways.length - 1)⟩:=if_pos h
theorem pgd_upto (g:Nat→Psg) {n j:Nat} (h:j<n):pgd (upto g n) j=g j:=by simp [pgd,upto,List.getD,h]
theorem getD_upto (g:Nat→Int) {n j:Nat} (h:j<n):(upto g n).getD j 0=g j:=by simp [upto,List.getD,h]
theorem stop_zero {m:Msn} {l:List Int} (h:stopsB m l=true):¬ (0:Int) ∈ l:=by
 intro h0
 obtain⟨k,hk,e⟩:=List.getElem_of_mem h0
 have hs:∀ k,k<l.length→stopOk m l k:=of_decide_eq_true h
 have hp:=prevS_nonneg (m:=m) (l:=l) (k:=l.length) hs k (by omega)
 have h1:=(hs k hk).1
 have e2:l.getD k 0=0:=by rw [List.getD,List.getElem?_eq_getElem hk,e];rfl
 omega
theorem min2_min (a b:Int):min2 a b=min a b:=by unfold min2;split <;> omega
theorem mk_bef {m:Msn} {l:List Int} (hs:stopsB m l=true) {R:List Int} {n:Nat}:∀ i,i<n →
  befR m ⟨l,upto (mkP m l) n,R⟩ i=rdA m l i∧befT m ⟨l,upto (mkP m l) n,R⟩ i+tLeg m i (i+1)=usT m l (i+1)∧befE m ⟨l,upto (mkP m l) n,R⟩ i+eLeg m i (i+1)=usE m l (i+1)
 | 0, _ => by
  have hw:waitT m l 0=0:=if_neg (stop_zero hs)
  refine⟨rfl,?_,?_⟩
  ·show (0:Int)+_=usT m l 0+waitT m l 0+_
   rw [hw];rfl
  ·show (0:Int)+_=usE m l 0+m.idle*waitT m l 0+_
   rw [hw,Int.mul_zero];rfl
 | i + 1, hi => by
  have hp:pgd (upto (mkP m l) n) (i+1 - 1)=mkP m l i:=by rw [Nat.add_sub_cancel];exact pgd_upto _ (by omega)
  have h0:¬ (i+1=0):=by omega
  have e1:usT m l (i+1+1)=usT m l (i+1)+waitT m l (i+1)+tLeg m (i+1) (i+1+1):=rfl
  have e2:usE m l (i+1+1)=usE m l (i+1)+m.idle*waitT m l (i+1)+eLeg m (i+1) (i+1+1):=rfl
  have p1:(mkP m l i).tw=rdB m l (i+1):=rfl
  have p2:(mkP m l i).tm=usT m l (i+1):=rfl
  have p3:(mkP m l i).en=usE m l (i+1):=rfl
  rw [e1,e2,rdA_succ,min2_min]
  unfold befR befT befE waitT
  simp only [if_neg h0,hp,p1,p2,p3]
  by_cases hm:((i+1:Nat):Int) ∈ l
  ·simp only [if_pos hm];exact⟨trivial,trivial,trivial⟩
  ·simp only [if_neg hm];exact⟨trivial,by omega,by rw [Int.mul_zero,Int.add_zero]⟩
theorem bef_congr {m:Msn} {c c':Crt} {i:Nat} (hs:c'.stops=c.stops) (hp:i=0∨pgd c'.psg (i - 1)=pgd c.psg (i - 1)):befR m c' i=befR m c i∧befT m c' i=befT m c i∧befE m c' i=befE m c i:=by
 unfold befR befT befE
 rw [hs]
 rcases hp with rfl | hp
 ·exact⟨rfl,rfl,rfl⟩
 ·rw [hp];exact⟨rfl,rfl,rfl⟩
theorem less_wrong {m : Msn} {l : List Int} {i q : Nat} (hE : mkE m l = 0) (hi : i < m.ways.length - 1) (hq : q < 5) : chkB m (lessC (mkC m l) i q) = false := by
 obtain⟨hr,-⟩:=mk_ok hE
 obtain⟨hV,hS⟩:=radOk_two hr
 rw [mkC_eq hE]
 obtain⟨b1,b2,b3⟩:=mk_bef hS (R:=upto (mkR m) (m.ways.length - 1)) (n:=m.ways.length - 1) i hi
 have hp:=pgd_upto (mkP m l) hi
 have hl:(upto (mkP m l) (m.ways.length - 1)).length=m.ways.length - 1:=upto_length _ _
 have hl2:(upto (mkR m) (m.ways.length - 1)).length=m.ways.length - 1:=upto_length _ _
 have hR:=getD_upto (mkR m) hi
 generalize hc:(⟨l,upto (mkP m l) (m.ways.length - 1),upto (mkR m) (m.ways.length - 1)⟩:Crt)=c at *
 have c1:c.psg=upto (mkP m l) (m.ways.length - 1):=by rw [← hc]
 have c2:c.ret=upto (mkR m) (m.ways.length - 1):=by rw [← hc]
 rw [← c1] at hp hl
 rw [← c2] at hR hl2
 clear hc
 cases hB:chkB m (lessC c i q)
 ·rfl
 exfalso
 unfold chkB at hB
 rw [Bool.and_eq_true,decide_eq_true_eq] at hB
 have hlen:(lessC c i q).psg.length=c.psg.length:=by unfold lessC;split <;> simp
 have h:=hB.2 i (by omega)
 obtain⟨f1,f2,f3⟩:=bef_congr (m:=m) (c:=c) (c':=lessC c i q) (i:=i) (by unfold lessC;split <;> rfl) (by
  by_cases h0:i=0
  ·exact .inl h0
  ·right
   unfold lessC
   split
   ·show pgd (c.psg.set i _) (i - 1)=_
    rw [pgd_set (by omega),if_neg (by omega)]
   ·rfl)
 unfold lgB lg1 lg2 at h
 rw [f1,f2,f3] at h
 simp only [Bool.and_eq_true,decide_eq_true_eq] at h
 obtain⟨⟨h1,h2⟩,⟨h3,h4,h5⟩,-⟩:=h
 have g1:rdB m l (i+1)=rdA m l i+gLeg m i (i+1):=rfl
 have m1:(pgd c.psg i).fr=rdA m l i:=by rw [hp];rfl
 have m2:(pgd c.psg i).tw=rdB m l (i+1):=by rw [hp];rfl
 have m3:(pgd c.psg i).tm=usT m l (i+1):=by rw [hp];rfl
 have m4:(pgd c.psg i).en=usE m l (i+1):=by rw [hp];rfl
 have m5:c.ret.getD i 0=homeE m (i+1) (dep m (i+1)):=hR
 by_cases hq4:q<4
 ·have e:pgd (lessC c i q).psg i=updP q (numP q (pgd c.psg i) - 1) (pgd c.psg i):=by
   unfold lessC
   rw [if_pos hq4]
   show pgd (c.psg.set i _) i=_
   rw [pgd_set (by omega),if_pos rfl]
  rw [e] at h1 h2 h3 h4
  match q,hq4 with
  | 0,_=>have:befR m c i≤(pgd c.psg i).fr - 1:=h1;omega
  | 1,_=>have:(pgd c.psg i).fr+gLeg m i (i+1)≤(pgd c.psg i).tw - 1:=h2;omega
  | 2,_=>have:befT m c i+tLeg m i (i+1)≤(pgd c.psg i).tm - 1:=h3;omega
  | 3,_=>have:befE m c i+eLeg m i (i+1)≤(pgd c.psg i).en - 1:=h4;omega
 ·have e:(lessC c i q).ret.getD i 0=c.ret.getD i 0 - 1:=by
   unfold lessC
   rw [if_neg hq4]
   show (c.ret.set i _).getD i 0=_
   rw [List.getD_eq_getElem?_getD,List.getElem?_set_self (by omega)]
   rfl
  rw [e] at h5
  omega
theorem mk_nums {m:Msn} {l:List Int} {i:Nat} (hE:mkE m l=0) (hi:i<m.ways.length - 1) :
  (∀ r,r<4→0≤numP r (pgd (mkC m l).psg i)∧numP r (pgd (mkC m l).psg i)≤1000000000)∧0≤(mkC m l).ret.getD i 0∧(mkC m l).ret.getD i 0≤1000000000:=by
 obtain⟨hr,hQ⟩:=mk_ok hE
 have V:=(validB_iff m).1 (radOk_two hr).1
 obtain⟨-,-,k3,k4⟩:=kps_zero.1 (hQ i hi)
 have a1:=rd_le V l (k:=i) (by omega)
 have a2:=rd_le V l (k:=i+1) (by omega)
 have a3:=used_bd V l (i+1) (by omega)
 have a4:=homeTE_bd V (a:=i+1) (by omega) (dep m (i+1)) (Nat.le_refl _)
 have vb:=V.battery
 have vd:=V.deadline
 rw [mkC_eq hE]
 show (∀ r,r<4→0≤numP r (pgd (upto (mkP m l) (m.ways.length - 1)) i)∧numP r (pgd (upto (mkP m l) (m.ways.length - 1)) i)≤1000000000)∧0≤(upto (mkR m) (m.ways.length - 1)).getD i 0∧(upto (mkR m) (m.ways.length - 1)).getD i 0≤1000000000
 rw [pgd_upto _ hi,getD_upto _ hi]
 refine⟨fun r hr=>?_,?_⟩
 ·match r,hr with
  | 0,_=>show 0≤rdA m l i∧rdA m l i≤1000000000;omega
  | 1,_=>show 0≤rdB m l (i+1)∧rdB m l (i+1)≤1000000000;omega
  | 2,_=>show 0≤usT m l (i+1)∧usT m l (i+1)≤1000000000;omega
  | 3,_=>show 0≤usE m l (i+1)∧usE m l (i+1)≤1000000000;omega
 ·show 0≤homeE m (i+1) (dep m (i+1))∧homeE m (i+1) (dep m (i+1))≤1000000000;omega
end Go.Proofs.YtpimbaaahcemhaaGreat
namespace Go.Proofs.YtpimbaaahcemhaaGreat
open Go.RowKit
attribute [local irreducible] wpQuiet
set_option linter.unusedSimpArgs false in
set_option linter.unusedVariables false in
set_option maxRecDepth 8000 in
set_option maxHeartbeats 6400000 in
theorem less36_any (vs vp ve:Value) (c:Crt) (i k q:Nat) (w:World) (hc:CrtAt w.heap.size w c vs vp ve) (hi:i<c.psg.length) (hi2:i<c.ret.length) (hl:c.psg.length≤1000) (hl2:c.ret.length≤1000) (hk:(k:Int).tmod 5=(q:Int)) (hq:q<5) (hb:(∀ r,r<4→0≤numP r (pgd c.psg i)∧numP r (pgd c.psg i)≤1000000000)∧0≤c.ret.getD i 0∧c.ret.getD i 0≤1000000000) :
  Calls Tryz.prog 18 #[.agg #[vs,vp,ve],.int .i64 (i:Int),.int .u8 (k:Int)] w fun e w'=>∃ vs' vp' ve',e=.returned (.agg #[vs',vp',ve'])∧CrtAt w'.heap.size w' (lessC c i q) vs' vp' ve'∧Below w.heap.size w w':=by
 have HC0:=Lib.hid hc
 obtain⟨⟨-,aS,cS,rfl,-⟩,⟨-,ap,cp,rfl,-⟩,⟨-,ar,cr,rfl,-⟩⟩:=hc
 have HB:=Lib.hid hb
 clear hb
 have BW:=Lib.hid (Below.refl w.heap.size w)
 go_enter Tryz.func18,Tryz.ntmps18
 go_upto_region 1 with fail
 generalize hXX0:World.alloc (World.alloc w _) _=X0
 obtain⟨q0,q1,hA,hzX0⟩:=box2 hXX0
 clear hXX0
 have BW:=Lib.hid hA
 clear hA
 have CB:=Lib.hid q0
 clear q0
 have RV:=Lib.hid q1
 clear q1
 have hx0:=Lib.hid hzX0
 clear hzX0
 have lt0:=CB.out.lt
 have l0:X0.cell? ⟨w.heap.size,1,none⟩=some (.slice ap c.psg.length (c.psg.length+cp)):=CB.out.cell (i:=1) rfl
 have hA:=Lib.hid ((Below.refl X0.heap.size X0).alloc (Nat.le_refl _) (.cells #[] 48))
 have hr:=Lib.hid (World.ownsRow_lit (base:=X0.heap.size) (e:=48) (size:=5) X0 #[] 0 (Nat.le_refl _) (by unfold maxLen;omega) (by simp))
 have hP:=Lib.hid (HC0.out.2.1.below (BW.out.trans (hA.out.mono BW.out.size)))
 go_upto_region 2 with (first | (at_builtin;(refine wpList_append_psgs rfl _ _ rfl X0.heap.size _ rfl hr.out _ c.psg rfl w.heap.size hP.out (by omega) (by omega) BW.out.size hA.out.size ?_;intro g1 cap1 cur1 wA hg hH hcap1 hV hB;have HG1:=Lib.hid hg;have H1:=Lib.hid hH;have V1:=Lib.hid hV;have BA:=Lib.hid (hA.out.trans hB);have HCA:=Lib.hid (CB.out.below BA.out lt0);have lA:wA.cell? ⟨w.heap.size,1,none⟩=some (.slice ap c.psg.length (c.psg.length+cp)):=HCA.out.cell (i:=1) rfl;have fA:=cells_free HCA.out 1;have ltA:=HCA.out.lt;clear hg hH hV hB)) | fail)
 clear l0 lA fA ltA
 generalize hZ:World.setCell wA _ _=Z1
 have HZ:=HCA.out.set 1 (.slice (some ⟨g1,0,none⟩) c.psg.length cap1)
 have hge:X0.heap.size≤g1:=HG1.out
 have hx1:=hx0.out
 have hbw:=BW.out.size
 have HH:=H1.out.off (p:=⟨w.heap.size,1,none⟩) (by show g1≠w.heap.size;omega) (.slice (some ⟨g1,0,none⟩) c.psg.length cap1)
 have BZ:=(Below.refl w.heap.size wA).setCell (p:=⟨w.heap.size,1,none⟩) (Nat.le_refl _) (.slice (some ⟨g1,0,none⟩) c.psg.length cap1)
 have HR:=(RV.out.below BA.out RV.out.lt).off (p:=⟨w.heap.size,1,none⟩) (by show w.heap.size+1≠w.heap.size;omega) (.slice (some ⟨g1,0,none⟩) c.psg.length cap1)
 rw [hZ] at HZ HH BZ HR
 clear hZ
 simp only [List.setIfInBounds_toArray,List.set_cons_zero,List.set_cons_succ] at HZ
 have BZ0:=(BA.out.mono BW.out.size).trans BZ
 replace BW:=Lib.hid (BW.out.trans BZ0)
 replace CB:=Lib.hid HZ
 replace H1:=Lib.hid HH
 replace RV:=Lib.hid HR
 replace V1:=Lib.hid (V1.out.below BZ)
 have hg1:w.heap.size+2≤g1:=by omega
 clear hx1 hbw HZ HH BZ HR BZ0 HCA BA HG1 hA hr hP lt0 hge
 have lt0:=CB.out.lt
 have l0:Z1.cell? ⟨w.heap.size,2,none⟩=some (.slice ar c.ret.length (c.ret.length+cr)):=CB.out.cell (i:=2) rfl
 have hA:=Lib.hid ((Below.refl Z1.heap.size Z1).alloc (Nat.le_refl _) (.cells #[] 3))
 have hr:=Lib.hid (World.ownsRow_lit (base:=Z1.heap.size) (e:=3) (size:=1) Z1 #[] 0 (Nat.le_refl _) (by unfold maxLen;omega) (by simp))
 have hP:=Lib.hid (HC0.out.2.2.below (BW.out.trans (hA.out.mono BW.out.size)))
 go_upto_region 3 with (first | (at_builtin;(refine wpList_append_ints rfl _ _ rfl Z1.heap.size _ rfl hr.out _ c.ret rfl w.heap.size hP.out (by omega) (by omega) hA.out.size ?_;intro g2 cap2 cur2 wA hg hH hcap2 hV hB;have HG2:=Lib.hid hg;have H2:=Lib.hid hH;have V2:=Lib.hid hV;have BA:=Lib.hid (hA.out.trans hB);have HCA:=Lib.hid (CB.out.below BA.out lt0);have lA:wA.cell? ⟨w.heap.size,2,none⟩=some (.slice ar c.ret.length (c.ret.length+cr)):=HCA.out.cell (i:=2) rfl;have fA:=cells_free HCA.out 2;have ltA:=HCA.out.lt;clear hg hH hV hB)) | fail)
 clear l0 lA fA ltA
 generalize hZ:World.setCell wA _ _=Z2
 have HZ:=HCA.out.set 2 (.slice (some ⟨g2,0,none⟩) c.ret.length cap2)
 have hge:Z1.heap.size≤g2:=HG2.out
 have hx1:=hx0.out
 have hbw:=BW.out.size
 have HH:=H2.out.off (p:=⟨w.heap.size,2,none⟩) (by show g2≠w.heap.size;omega) (.slice (some ⟨g2,0,none⟩) c.ret.length cap2)
 have BZ:=(Below.refl w.heap.size wA).setCell (p:=⟨w.heap.size,2,none⟩) (Nat.le_refl _) (.slice (some ⟨g2,0,none⟩) c.ret.length cap2)
 have HR:=(RV.out.below BA.out RV.out.lt).off (p:=⟨w.heap.size,2,none⟩) (by show w.heap.size+1≠w.heap.size;omega) (.slice (some ⟨g2,0,none⟩) c.ret.length cap2)
 have hgl:=H1.out.lt
 have HO:=(H1.out.below BA.out H1.out.lt).off (p:=⟨w.heap.size,2,none⟩) (by show g1≠w.heap.size;omega) (.slice (some ⟨g2,0,none⟩) c.ret.length cap2)
 rw [hZ] at HZ HH BZ HR HO
 clear hZ
 simp only [List.setIfInBounds_toArray,List.set_cons_zero,List.set_cons_succ] at HZ
 have BZ0:=(BA.out.mono BW.out.size).trans BZ
 replace BW:=Lib.hid (BW.out.trans BZ0)
 replace CB:=Lib.hid HZ
 replace H2:=Lib.hid HH
 replace RV:=Lib.hid HR
 replace H1:=Lib.hid HO
 replace V1:=Lib.hid (V1.out.below BZ0)
 have hg2:g1<g2:=by omega
 clear HO hgl
 clear hx1 hbw HZ HH BZ HR BZ0 HCA BA HG2 hA hr hP lt0 hge
 have b0:(0:Int)≤(i:Int):=by omega
 have b1:(i:Int)<(c.psg.length:Int):=by omega
 have b2:(i:Int)<(c.ret.length:Int):=by omega
 have k1':=CB.out.cell (i:=1) rfl
 have k2':=CB.out.cell (i:=2) rfl
 obtain rfl | rfl | rfl | rfl | rfl:q=0∨q=1∨q=2∨q=3∨q=4:=by omega
 ·skip
  obtain⟨z,hz⟩:∃ z,numP 0 (pgd c.psg i)=z:=⟨_,rfl⟩
  have hzb:=HB.out.1 0 (by omega)
  have e1:=(H1.out.at (i*5+(0+1))).trans (V1.out.num hi (q:=0) (by omega))
  rw [hz] at hzb e1
  have e1':Z2.cell? ⟨g1,i*5+1,none⟩=some (.int .i64 z):=e1
  have z1:Z2.frozen? ⟨g1,i*5+1,none⟩=false:=cells_free H1.out _
  have ltg:=H1.out.lt
  have wz:IntKind.i64.wrap (z - 1)=z - 1:=IntWalk.i64_in _ (by omega)
  go_upto_region 15 with fail
  clear e1 z1 ltg
  generalize hZ:World.setCell Z2 _ _=Z3
  have HC3:=CB.out.off (p:=⟨g1,i*5+(0+1),none⟩) (by show w.heap.size≠g1;omega) (.int .i64 (z - 1))
  have HR3:=RV.out.off (p:=⟨g1,i*5+(0+1),none⟩) (by show w.heap.size+1≠g1;omega) (.int .i64 (z - 1))
  have H13:=H1.out.set (i*5+(0+1)) (.int .i64 (z - 1))
  have H23:=H2.out.off (p:=⟨g1,i*5+(0+1),none⟩) (by show g2≠g1;omega) (.int .i64 (z - 1))
  have BZ:=(Below.refl w.heap.size Z2).setCell (p:=⟨g1,i*5+(0+1),none⟩) (by show w.heap.size≤g1;omega) (.int .i64 (z - 1))
  rw [show World.setCell Z2 ⟨g1,i*5+(0+1),none⟩ (.int .i64 (z - 1))=Z3 from hZ] at HC3 HR3 H13 H23 BZ
  clear hZ
  have f0:=HC3.cell (i:=0) rfl
  have f1:=HC3.cell (i:=1) rfl
  have f2:=HC3.cell (i:=2) rfl
  have e0:=HR3.cell (i:=0) rfl
  have e1:=HR3.cell (i:=1) rfl
  have e2:=HR3.cell (i:=2) rfl
  have z0:=cells_free HR3 0
  have z1:=cells_free HR3 1
  have z2:=cells_free HR3 2
  have ltr:=HR3.lt
  go_wp2
  clear e0 e1 e2 z0 z1 z2 f0 f1 f2
  generalize hZ9:World.setCell (World.setCell (World.setCell Z3 _ _) _ _) _ _=Z9
  obtain⟨HZ9,hl9,hg9⟩:=set3 HR3 hZ9
  have r0:=HZ9.cell (i:=0) rfl
  have r1:=HZ9.cell (i:=1) rfl
  have r2:=HZ9.cell (i:=2) rfl
  have B8:=BZ.trans (hl9 w.heap.size (by omega))
  have B9:=BW.out.trans B8
  have H19:Has Z9 g1 _ _:=(hg9.block g1 H13.lt (by simp;omega)).trans H13
  have H29:Has Z9 g2 _ _:=(hg9.block g2 H23.lt (by simp;omega)).trans H23
  have V9:=V1.out.below B8
  have T1:PsgsAt Z9.heap.size Z9 (.slice (some ⟨g1,0,none⟩) c.psg.length cap1) (lessC c i 0).psg:=by
   have h:=(V9.set hi (q:=0) (by omega) (z - 1)).psgs (cap:=cap1) H19 B9.size (by rw [List.length_set];omega) (by rw [List.length_set];exact hcap1)
   rw [List.length_set,← hz] at h
   exact h
  have T2:IntsAt Z9.heap.size Z9 (.slice (some ⟨g2,0,none⟩) c.ret.length cap2) (lessC c i 0).ret:=ints_has H29 V2.out (by omega) hcap2
  have T3:IntsAt Z9.heap.size Z9 (.slice aS c.stops.length (c.stops.length+cS)) (lessC c i 0).stops:=(HC0.out.1.below B9).mono B9.size
  exact bodyPost_ret (v:=.agg #[.slice aS c.stops.length (c.stops.length+cS),.slice (some ⟨g1,0,none⟩) c.psg.length cap1,.slice (some ⟨g2,0,none⟩) c.ret.length cap2]) (by simp [results,Tryz.f18,go_sem,r0,r1,r2]) rfl ⟨_,_,_,rfl,⟨T3,T1,T2⟩,B9⟩
 ·skip
  obtain⟨z,hz⟩:∃ z,numP 1 (pgd c.psg i)=z:=⟨_,rfl⟩
  have hzb:=HB.out.1 1 (by omega)
  have e1:=(H1.out.at (i*5+(1+1))).trans (V1.out.num hi (q:=1) (by omega))
  rw [hz] at hzb e1
  have e1':Z2.cell? ⟨g1,i*5+2,none⟩=some (.int .i64 z):=e1
  have z1:Z2.frozen? ⟨g1,i*5+2,none⟩=false:=cells_free H1.out _
  have ltg:=H1.out.lt
  have wz:IntKind.i64.wrap (z - 1)=z - 1:=IntWalk.i64_in _ (by omega)
  go_upto_region 15 with fail
  clear e1 z1 ltg
  generalize hZ:World.setCell Z2 _ _=Z3
  have HC3:=CB.out.off (p:=⟨g1,i*5+(1+1),none⟩) (by show w.heap.size≠g1;omega) (.int .i64 (z - 1))
  have HR3:=RV.out.off (p:=⟨g1,i*5+(1+1),none⟩) (by show w.heap.size+1≠g1;omega) (.int .i64 (z - 1))
  have H13:=H1.out.set (i*5+(1+1)) (.int .i64 (z - 1))
  have H23:=H2.out.off (p:=⟨g1,i*5+(1+1),none⟩) (by show g2≠g1;omega) (.int .i64 (z - 1))
  have BZ:=(Below.refl w.heap.size Z2).setCell (p:=⟨g1,i*5+(1+1),none⟩) (by show w.heap.size≤g1;omega) (.int .i64 (z - 1))
  rw [show World.setCell Z2 ⟨g1,i*5+(1+1),none⟩ (.int .i64 (z - 1))=Z3 from hZ] at HC3 HR3 H13 H23 BZ
  clear hZ
  have f0:=HC3.cell (i:=0) rfl
  have f1:=HC3.cell (i:=1) rfl
  have f2:=HC3.cell (i:=2) rfl
  have e0:=HR3.cell (i:=0) rfl
  have e1:=HR3.cell (i:=1) rfl
  have e2:=HR3.cell (i:=2) rfl
  have z0:=cells_free HR3 0
  have z1:=cells_free HR3 1
  have z2:=cells_free HR3 2
  have ltr:=HR3.lt
  go_wp2
  clear e0 e1 e2 z0 z1 z2 f0 f1 f2
  generalize hZ9:World.setCell (World.setCell (World.setCell Z3 _ _) _ _) _ _=Z9
  obtain⟨HZ9,hl9,hg9⟩:=set3 HR3 hZ9
  have r0:=HZ9.cell (i:=0) rfl
  have r1:=HZ9.cell (i:=1) rfl
  have r2:=HZ9.cell (i:=2) rfl
  have B8:=BZ.trans (hl9 w.heap.size (by omega))
  have B9:=BW.out.trans B8
  have H19:Has Z9 g1 _ _:=(hg9.block g1 H13.lt (by simp;omega)).trans H13
  have H29:Has Z9 g2 _ _:=(hg9.block g2 H23.lt (by simp;omega)).trans H23
  have V9:=V1.out.below B8
  have T1:PsgsAt Z9.heap.size Z9 (.slice (some ⟨g1,0,none⟩) c.psg.length cap1) (lessC c i 1).psg:=by
   have h:=(V9.set hi (q:=1) (by omega) (z - 1)).psgs (cap:=cap1) H19 B9.size (by rw [List.length_set];omega) (by rw [List.length_set];exact hcap1)
   rw [List.length_set,← hz] at h
   exact h
  have T2:IntsAt Z9.heap.size Z9 (.slice (some ⟨g2,0,none⟩) c.ret.length cap2) (lessC c i 1).ret:=ints_has H29 V2.out (by omega) hcap2
  have T3:IntsAt Z9.heap.size Z9 (.slice aS c.stops.length (c.stops.length+cS)) (lessC c i 1).stops:=(HC0.out.1.below B9).mono B9.size
  exact bodyPost_ret (v:=.agg #[.slice aS c.stops.length (c.stops.length+cS),.slice (some ⟨g1,0,none⟩) c.psg.length cap1,.slice (some ⟨g2,0,none⟩) c.ret.length cap2]) (by simp [results,Tryz.f18,go_sem,r0,r1,r2]) rfl ⟨_,_,_,rfl,⟨T3,T1,T2⟩,B9⟩
 ·skip
  obtain⟨z,hz⟩:∃ z,numP 2 (pgd c.psg i)=z:=⟨_,rfl⟩
  have hzb:=HB.out.1 2 (by omega)
  have e1:=(H1.out.at (i*5+(2+1))).trans (V1.out.num hi (q:=2) (by omega))
  rw [hz] at hzb e1
  have e1':Z2.cell? ⟨g1,i*5+3,none⟩=some (.int .i64 z):=e1
  have z1:Z2.frozen? ⟨g1,i*5+3,none⟩=false:=cells_free H1.out _
  have ltg:=H1.out.lt
  have wz:IntKind.i64.wrap (z - 1)=z - 1:=IntWalk.i64_in _ (by omega)
  go_upto_region 15 with fail
  clear e1 z1 ltg
  generalize hZ:World.setCell Z2 _ _=Z3
  have HC3:=CB.out.off (p:=⟨g1,i*5+(2+1),none⟩) (by show w.heap.size≠g1;omega) (.int .i64 (z - 1))
  have HR3:=RV.out.off (p:=⟨g1,i*5+(2+1),none⟩) (by show w.heap.size+1≠g1;omega) (.int .i64 (z - 1))
  have H13:=H1.out.set (i*5+(2+1)) (.int .i64 (z - 1))
  have H23:=H2.out.off (p:=⟨g1,i*5+(2+1),none⟩) (by show g2≠g1;omega) (.int .i64 (z - 1))
  have BZ:=(Below.refl w.heap.size Z2).setCell (p:=⟨g1,i*5+(2+1),none⟩) (by show w.heap.size≤g1;omega) (.int .i64 (z - 1))
  rw [show World.setCell Z2 ⟨g1,i*5+(2+1),none⟩ (.int .i64 (z - 1))=Z3 from hZ] at HC3 HR3 H13 H23 BZ
  clear hZ
  have f0:=HC3.cell (i:=0) rfl
  have f1:=HC3.cell (i:=1) rfl
  have f2:=HC3.cell (i:=2) rfl
  have e0:=HR3.cell (i:=0) rfl
  have e1:=HR3.cell (i:=1) rfl
  have e2:=HR3.cell (i:=2) rfl
  have z0:=cells_free HR3 0
  have z1:=cells_free HR3 1
  have z2:=cells_free HR3 2
  have ltr:=HR3.lt
  go_wp2
  clear e0 e1 e2 z0 z1 z2 f0 f1 f2
  generalize hZ9:World.setCell (World.setCell (World.setCell Z3 _ _) _ _) _ _=Z9
  obtain⟨HZ9,hl9,hg9⟩:=set3 HR3 hZ9
  have r0:=HZ9.cell (i:=0) rfl
  have r1:=HZ9.cell (i:=1) rfl
  have r2:=HZ9.cell (i:=2) rfl
  have B8:=BZ.trans (hl9 w.heap.size (by omega))
  have B9:=BW.out.trans B8
  have H19:Has Z9 g1 _ _:=(hg9.block g1 H13.lt (by simp;omega)).trans H13
  have H29:Has Z9 g2 _ _:=(hg9.block g2 H23.lt (by simp;omega)).trans H23
  have V9:=V1.out.below B8
  have T1:PsgsAt Z9.heap.size Z9 (.slice (some ⟨g1,0,none⟩) c.psg.length cap1) (lessC c i 2).psg:=by
   have h:=(V9.set hi (q:=2) (by omega) (z - 1)).psgs (cap:=cap1) H19 B9.size (by rw [List.length_set];omega) (by rw [List.length_set];exact hcap1)
   rw [List.length_set,← hz] at h
   exact h
  have T2:IntsAt Z9.heap.size Z9 (.slice (some ⟨g2,0,none⟩) c.ret.length cap2) (lessC c i 2).ret:=ints_has H29 V2.out (by omega) hcap2
  have T3:IntsAt Z9.heap.size Z9 (.slice aS c.stops.length (c.stops.length+cS)) (lessC c i 2).stops:=(HC0.out.1.below B9).mono B9.size
  exact bodyPost_ret (v:=.agg #[.slice aS c.stops.length (c.stops.length+cS),.slice (some ⟨g1,0,none⟩) c.psg.length cap1,.slice (some ⟨g2,0,none⟩) c.ret.length cap2]) (by simp [results,Tryz.f18,go_sem,r0,r1,r2]) rfl ⟨_,_,_,rfl,⟨T3,T1,T2⟩,B9⟩
 ·skip
  obtain⟨z,hz⟩:∃ z,numP 3 (pgd c.psg i)=z:=⟨_,rfl⟩
  have hzb:=HB.out.1 3 (by omega)
  have e1:=(H1.out.at (i*5+(3+1))).trans (V1.out.num hi (q:=3) (by omega))
  rw [hz] at hzb e1
  have e1':Z2.cell? ⟨g1,i*5+4,none⟩=some (.int .i64 z):=e1
  have z1:Z2.frozen? ⟨g1,i*5+4,none⟩=false:=cells_free H1.out _
  have ltg:=H1.out.lt
  have wz:IntKind.i64.wrap (z - 1)=z - 1:=IntWalk.i64_in _ (by omega)
  go_upto_region 15 with fail
  clear e1 z1 ltg
  generalize hZ:World.setCell Z2 _ _=Z3
  have HC3:=CB.out.off (p:=⟨g1,i*5+(3+1),none⟩) (by show w.heap.size≠g1;omega) (.int .i64 (z - 1))
  have HR3:=RV.out.off (p:=⟨g1,i*5+(3+1),none⟩) (by show w.heap.size+1≠g1;omega) (.int .i64 (z - 1))
  have H13:=H1.out.set (i*5+(3+1)) (.int .i64 (z - 1))
  have H23:=H2.out.off (p:=⟨g1,i*5+(3+1),none⟩) (by show g2≠g1;omega) (.int .i64 (z - 1))
  have BZ:=(Below.refl w.heap.size Z2).setCell (p:=⟨g1,i*5+(3+1),none⟩) (by show w.heap.size≤g1;omega) (.int .i64 (z - 1))
  rw [show World.setCell Z2 ⟨g1,i*5+(3+1),none⟩ (.int .i64 (z - 1))=Z3 from hZ] at HC3 HR3 H13 H23 BZ
  clear hZ
  have f0:=HC3.cell (i:=0) rfl
  have f1:=HC3.cell (i:=1) rfl
  have f2:=HC3.cell (i:=2) rfl
  have e0:=HR3.cell (i:=0) rfl
  have e1:=HR3.cell (i:=1) rfl
  have e2:=HR3.cell (i:=2) rfl
  have z0:=cells_free HR3 0
  have z1:=cells_free HR3 1
  have z2:=cells_free HR3 2
  have ltr:=HR3.lt
  go_wp2
  clear e0 e1 e2 z0 z1 z2 f0 f1 f2
  generalize hZ9:World.setCell (World.setCell (World.setCell Z3 _ _) _ _) _ _=Z9
  obtain⟨HZ9,hl9,hg9⟩:=set3 HR3 hZ9
  have r0:=HZ9.cell (i:=0) rfl
  have r1:=HZ9.cell (i:=1) rfl
  have r2:=HZ9.cell (i:=2) rfl
  have B8:=BZ.trans (hl9 w.heap.size (by omega))
  have B9:=BW.out.trans B8
  have H19:Has Z9 g1 _ _:=(hg9.block g1 H13.lt (by simp;omega)).trans H13
  have H29:Has Z9 g2 _ _:=(hg9.block g2 H23.lt (by simp;omega)).trans H23
  have V9:=V1.out.below B8
  have T1:PsgsAt Z9.heap.size Z9 (.slice (some ⟨g1,0,none⟩) c.psg.length cap1) (lessC c i 3).psg:=by
   have h:=(V9.set hi (q:=3) (by omega) (z - 1)).psgs (cap:=cap1) H19 B9.size (by rw [List.length_set];omega) (by rw [List.length_set];exact hcap1)
   rw [List.length_set,← hz] at h
   exact h
  have T2:IntsAt Z9.heap.size Z9 (.slice (some ⟨g2,0,none⟩) c.ret.length cap2) (lessC c i 3).ret:=ints_has H29 V2.out (by omega) hcap2
  have T3:IntsAt Z9.heap.size Z9 (.slice aS c.stops.length (c.stops.length+cS)) (lessC c i 3).stops:=(HC0.out.1.below B9).mono B9.size
  exact bodyPost_ret (v:=.agg #[.slice aS c.stops.length (c.stops.length+cS),.slice (some ⟨g1,0,none⟩) c.psg.length cap1,.slice (some ⟨g2,0,none⟩) c.ret.length cap2]) (by simp [results,Tryz.f18,go_sem,r0,r1,r2]) rfl ⟨_,_,_,rfl,⟨T3,T1,T2⟩,B9⟩
 ·skip
  obtain⟨z,hz⟩:∃ z,c.ret.getD i 0=z:=⟨_,rfl⟩
  have hzb:=HB.out.2
  have e1:=(H2.out.at i).trans (V2.out i hi2)
  rw [hz] at hzb e1
  have z1:Z2.frozen? ⟨g2,i,none⟩=false:=cells_free H2.out _
  have ltg:=H2.out.lt
  have wz:IntKind.i64.wrap (z - 1)=z - 1:=IntWalk.i64_in _ (by omega)
  go_upto_region 15 with fail
  clear e1 z1 ltg
  generalize hZ:World.setCell Z2 _ _=Z3
  have HC3:=CB.out.off (p:=⟨g2,i,none⟩) (by show w.heap.size≠g2;omega) (.int .i64 (z - 1))
  have HR3:=RV.out.off (p:=⟨g2,i,none⟩) (by show w.heap.size+1≠g2;omega) (.int .i64 (z - 1))
  have H13:=H1.out.off (p:=⟨g2,i,none⟩) (by show g1≠g2;omega) (.int .i64 (z - 1))
  have H23:=H2.out.set i (.int .i64 (z - 1))
  have BZ:=(Below.refl w.heap.size Z2).setCell (p:=⟨g2,i,none⟩) (by show w.heap.size≤g2;omega) (.int .i64 (z - 1))
  rw [show World.setCell Z2 ⟨g2,i,none⟩ (.int .i64 (z - 1))=Z3 from hZ] at HC3 HR3 H13 H23 BZ
  clear hZ
  have f0:=HC3.cell (i:=0) rfl
  have f1:=HC3.cell (i:=1) rfl
  have f2:=HC3.cell (i:=2) rfl
  have e0:=HR3.cell (i:=0) rfl
  have e1:=HR3.cell (i:=1) rfl
  have e2:=HR3.cell (i:=2) rfl
  have z0:=cells_free HR3 0
  have z1:=cells_free HR3 1
  have z2:=cells_free HR3 2
  have ltr:=HR3.lt
  go_wp2
  clear e0 e1 e2 z0 z1 z2 f0 f1 f2
  generalize hZ9:World.setCell (World.setCell (World.setCell Z3 _ _) _ _) _ _=Z9
  obtain⟨HZ9,hl9,hg9⟩:=set3 HR3 hZ9
  have r0:=HZ9.cell (i:=0) rfl
  have r1:=HZ9.cell (i:=1) rfl
  have r2:=HZ9.cell (i:=2) rfl
  have B8:=BZ.trans (hl9 w.heap.size (by omega))
  have B9:=BW.out.trans B8
  have H19:Has Z9 g1 _ _:=(hg9.block g1 H13.lt (by simp;omega)).trans H13
  have H29:Has Z9 g2 _ _:=(hg9.block g2 H23.lt (by simp;omega)).trans H23
  have V9:=V1.out.below B8
  have T1:PsgsAt Z9.heap.size Z9 (.slice (some ⟨g1,0,none⟩) c.psg.length cap1) (lessC c i 4).psg:=V9.psgs H19 B9.size (by omega) hcap1
  have T2:IntsAt Z9.heap.size Z9 (.slice (some ⟨g2,0,none⟩) c.ret.length cap2) (lessC c i 4).ret:=by
   have h:=ints_has (cap:=cap2) H29 (ints_set hi2 (z - 1) V2.out) (by rw [List.length_set];omega) (by rw [List.length_set];exact hcap2)
   rw [List.length_set,← hz] at h
   exact h
  have T3:IntsAt Z9.heap.size Z9 (.slice aS c.stops.length (c.stops.length+cS)) (lessC c i 4).stops:=(HC0.out.1.below B9).mono B9.size
  exact bodyPost_ret (v:=.agg #[.slice aS c.stops.length (c.stops.length+cS),.slice (some ⟨g1,0,none⟩) c.psg.length cap1,.slice (some ⟨g2,0,none⟩) c.ret.length cap2]) (by simp [results,Tryz.f18,go_sem,r0,r1,r2]) rfl ⟨_,_,_,rfl,⟨T3,T1,T2⟩,B9⟩
end Go.Proofs.YtpimbaaahcemhaaGreat
