/- landfallref35: Fixes, Chosen, Better. | The best stops: plain laws. No program here. | The head of the laws of layer 32. (Printed by tools/mkhead32 .. -/
import Derived.Test.YtcfkhkgldboddaaGreatBin35
import Derived.Test.YtcfkhkgldboddaaGreatBin36
set_option linter.unusedSimpArgs false
set_option linter.unusedVariables false
set_option maxRecDepth 8000
set_option maxHeartbeats 6400000
namespace Go.Proofs.YtcfkhkgldboddaaGreat
section
attribute [local irreducible] wpQuiet
open Go.RowKit
theorem Z9Q (u k : Nat) (hu : u < 1048576) : (bits BinOp.and IntKind.i64 ((u : Int) / 2 ^ k) 1 == 1) = decide (u / 2 ^ k % 2 = 1) := by
 have hd:((u:Int) / 2 ^ k)=((u / 2 ^ k:Nat):Int):=by rw [Int.natCast_ediv];simp
 have hb:u / 2 ^ k<1048576:=Nat.lt_of_le_of_lt (Nat.div_le_self _ _) hu;rw [hd];generalize u / 2 ^ k=q at *;have e:bits BinOp.and IntKind.i64 (q:Int) 1=((q % 2:Nat):Int):=by
  unfold bits;have h:((BitVec.ofInt IntKind.i64.bits (q:Int)) &&& (BitVec.ofInt IntKind.i64.bits 1)).toNat=q % 2:=by
   rw [BitVec.toNat_and];have h2:(BitVec.ofInt IntKind.i64.bits (q:Int)).toNat=q:=by
    show (BitVec.ofInt 64 (q:Int)).toNat=q
    rw [BitVec.toNat_ofInt];omega
   rw [h2];exact Nat.and_one_is_mod _
  simp only [h];rcases Nat.mod_two_eq_zero_or_one q with h | h <;> rw [h] <;> rfl
 rw [e];rcases Nat.mod_two_eq_zero_or_one q with h | h <;> rw [h] <;> rfl
def chTo (l:List Int) (u:Nat):Nat→List Int
 | 0=>[]
 | k+1=>if u / 2 ^ k % 2=1 then chTo l u k++[l.getD k 0] else chTo l u k
theorem Z4L (l:List Int) (u:Nat):∀ k,(chTo l u k).length≤k
 | 0=>by simp [chTo]
 | k + 1 => by
  have:=Z4L l u k;unfold chTo
  split
  ·rw [List.length_append];simp only [List.length_cons,List.length_nil];omega
  ·omega
theorem Z5x (x:Int) (xs:List Int) (u:Nat):∀ k,chTo (x::xs) u (k+1)=(if u % 2=1 then [x] else [])++chTo xs (u / 2) k
 | 0 => by
  by_cases h:u % 2=1
  ·simp [chTo,h]
  ·simp [chTo,h]
 | k + 1 => by
  have ih:=Z5x x xs u k;have e:u / 2 ^ (k+1)=u / 2 / 2 ^ k:=by rw [Nat.pow_succ,Nat.mul_comm,Nat.div_div_eq_div_mul]
  rw [chTo,ih,e]
  conv=>rhs;rw [chTo]
  by_cases h:u / 2 / 2 ^ k % 2=1
  ·rw [if_pos h,if_pos h]
   simp
  ·rw [if_neg h,if_neg h]
theorem Z6X:∀ (l:List Int) (u:Nat),chTo l u l.length=chosenL l u
 | [],u=>rfl
 | x :: xs, u => by
  rw [List.length_cons,Z5x,Z6X xs,show chosenL (x::xs) u=if u % 2=1 then x::chosenL xs (u / 2) else chosenL xs (u / 2) from rfl]
  split <;> simp
theorem Z5T (vl : Value) (l : List Int) (u : Nat) (hu : u < 1048576) (h20 : l.length ≤ 20) (w : World) (hl : Z9 w.heap.size w vl l) :
  Calls Tryz.prog 46 #[vl,.int .i64 (u:Int)] w fun e w'=>∃ v,e=.returned v∧Z9 w'.heap.size w' v (chosenL l u)∧Below w.heap.size w w':=by
 obtain⟨i0,hi,hz0',hz1',hz2'⟩:=info_parts intInfo;obtain⟨-,al,cl,rfl,hc⟩:=hl;have HC:=Lib.hid hc;have BW:=Lib.hid (Below.refl w.heap.size w);rw [← Z6X];clear hc;go_enter Tryz.func46,Tryz.ntmps46;go_wp2
 go_loopw [5,6] (fun v i wr=>∃ k:Nat,k≤l.length∧i=.int .i64 (k:Int)∧wr.ownsRow w.heap.size 3 1 v (chTo l u k).length ((chTo l u k).map (Value.int .i64))∧Below w.heap.size w wr) (fun _ i _=>l.length-(intOf i).toNat)
 case atStart=>exact⟨0,by omega,rfl,World.ownsRow_nil _ _ _ _,BW.out⟩
 case round =>
  obtain⟨k,hk,rfl,hrow,hB⟩:=hrel;obtain⟨wo,hwo⟩:∃ x,x=wr:=⟨_,rfl⟩;subst hwo;have hzB:=hB.size;by_cases hlt:k<l.length
  ·obtain⟨b,o,rfl,hb,hcc⟩:=HC.out.resolve_left (by intro h;rw [h] at hlt;simp at hlt)
   have e0:=(hB.cell (p:=⟨b,o+k,none⟩) hb).trans (hcc k hlt);have hlen:=Z4L l u k;have hst:Hid (chTo l u (k+1)=if u / 2 ^ k % 2=1 then chTo l u k++[l.getD k 0] else chTo l u k):=rfl
   have hbit:=Z9Q u k hu;obtain⟨cl',hcl⟩:∃ cl,chTo l u k=cl:=⟨_,rfl⟩;rw [hcl] at hrow hst hlen;generalize l.getD k 0=x at *;have dk:decide ((k:Int)<(l.length:Int))=true:=by simp;omega
   have kl:(k:Int)<l.length:=by omega
   have k0:(0:Int)≤k:=by omega
   have k0n:¬ ((k:Int)<0):=by omega
   have HR:=Lib.hid hrow;have HB:=Lib.hid hB;clear hcc hrow hB hcl;by_cases hp:u / 2 ^ k % 2=1
   ·have HS:=Lib.hid (hst.out.trans (if_pos hp))
    rw [decide_eq_true hp] at hbit;clear hst hp;go_wp2_with (at_builtin;refine wpList_append_own _ rfl _ _ 27 rfl w.heap.size 3 i0 (.int .i64 0) 1 8 Tryz.underlying27 hi hz0' hz1' hz2' rfl (by decide) _ _ _ rfl (HR.out.alloc _) ⟨wo.heap.size,0,none⟩ 1 1 [.int .i64 x] rfl rfl (cell_one_new _ _ _) (by simp [Value.oneCell']) (by unfold maxLen;omega) (by omega) (by simp;omega) ?_;intro v' w4 hown' hgrow _)
    go_roundw
    case rel =>
     have hb0:Below w.heap.size wo w4:=((Below.refl w.heap.size wo).alloc (by omega) _).grown hgrow (by simp;omega) (fun j ej=>(HR.out.lt j ej).1)
     refine⟨k+1,by omega,by go_num,?_,HB.out.trans hb0⟩
     rw [HS.out]
     simpa using hown'
    case measure=>simp [intOf];omega
   ·have HS:=Lib.hid (hst.out.trans (if_neg hp))
    rw [decide_eq_false hp] at hbit;clear hst hp;go_wp2;go_roundw
    case rel=>exact⟨k+1,by omega,by go_num,by rw [HS.out];exact HR.out,HB.out⟩
    case measure=>simp [intOf];omega
  ·obtain rfl:k=l.length:=by omega
   have dk:decide ((l.length:Int)<(l.length:Int))=false:=by simp
   have HI:=Lib.hid (Z9.own hrow (by have:=Z4L l u l.length;omega))
   have HB:=Lib.hid hB;clear hrow hB;go_wp2;go_ret;exact⟨_,rfl,HI.out,HB.out⟩
theorem Z3P (m : Msn) (vw vh vr : Value) (w : World) (hm : MsnAt w.heap.size w m vw vh vr) (h41 : m.ways.length ≤ 100000) :
  Calls Tryz.prog 45 #[.agg (Zc m vw vh vr)] w fun e w'=>∃ v,e=.returned v∧Z9 w'.heap.size w' v (fixL m)∧Below w.heap.size w w':=by
 obtain⟨⟨-,a1,c1,rfl,hcw⟩,⟨-,a2,c2,rfl,-⟩,⟨-,a3,c3,rfl,-⟩⟩:=hm;obtain⟨i0,hi,hz0',hz1',hz2'⟩:=info_parts intInfo;have HW:=Lib.hid hcw;clear hcw;unfold Zc;have hA:=Lib.hid ((Below.refl w.heap.size w).alloc (Nat.le_refl _) (.cells #[.slice a1 m.ways.length (m.ways.length+c1),.slice a2 m.home.length (m.home.length+c2),.int .i64 m.start,.slice a3 m.rocks.length (m.rocks.length+c3),.int .i64 m.speed,.int .i64 m.part,.int .i64 m.flow,.int .i64 m.idle,.int .i64 m.drive,.int .i64 m.battery,.int .i64 m.deadline] 26));have hMB:=Lib.hid (Has.new w #[.slice a1 m.ways.length (m.ways.length+c1),.slice a2 m.home.length (m.home.length+c2),.int .i64 m.start,.slice a3 m.rocks.length (m.rocks.length+c3),.int .i64 m.speed,.int .i64 m.part,.int .i64 m.flow,.int .i64 m.idle,.int .i64 m.drive,.int .i64 m.battery,.int .i64 m.deadline] 26);go_enter Tryz.func45,Tryz.ntmps45;go_wp2;generalize hX:World.alloc w _=X0 at *;have zX:Hid (X0.heap.size=w.heap.size+1):=by rw [← hX];show _=_;simp
 clear hX
 go_loopw [3,4] (fun v i wr=>∃ k:Nat,(k≤m.ways.length∨k=1)∧1≤k∧i=.int .i64 (k:Int)∧wr.ownsRow X0.heap.size 3 1 v (fixTo m k).length ((fixTo m k).map (Value.int .i64))∧Below X0.heap.size X0 wr) (fun _ i _=>m.ways.length-(intOf i).toNat)
 case atStart=>exact⟨1,.inr rfl,by omega,rfl,World.ownsRow_nil _ _ _ _,Below.refl _ _⟩
 case round =>
  obtain⟨k,hk,hk1,rfl,hrow,hB⟩:=hrel;obtain⟨wo,hwo⟩:∃ x,x=wr:=⟨_,rfl⟩;subst hwo;have hzB:=hB.size;have hzX:=zX.out;have m0:wo.cell? ⟨w.heap.size,0,none⟩=some (.slice a1 m.ways.length (m.ways.length+c1)):=(hMB.out.below hB hMB.out.lt).cell (i:=0) rfl;have HBw:=zAi hA hB;by_cases hlt:k<m.ways.length
  ·obtain⟨b,o,rfl,hb,hcc⟩:=HW.out.resolve_left (by intro h;rw [h] at hlt;simp at hlt)
   obtain⟨q0,q1,q2,q3,q4⟩:=hcc k hlt;have e2:=(HBw.out.cell (p:=⟨b,o+k*5+2,none⟩) hb).trans q2;have hlen:=Z0n m k;have hst:Hid (fixTo m (k+1)=if 0<k∧0<(wy m.ways k).fix then fixTo m k++[(k:Int)] else fixTo m k):=rfl
   obtain⟨cl,hcl⟩:∃ cl,fixTo m k=cl:=⟨_,rfl⟩;rw [hcl] at hrow hst hlen;have dk:decide ((k:Int)<(m.ways.length:Int))=true:=by simp;omega
   have kl:(k:Int)<m.ways.length:=by omega
   have k0:(0:Int)≤k:=by omega
   generalize (wy m.ways k).fix=pf at *;have HR:=Lib.hid hrow;have HB:=Lib.hid hB;clear hcc q0 q1 q2 q3 q4 hrow hB hcl hzX;by_cases hp:0<pf
   ·have d2:decide (pf>0)=true:=by rw [decide_eq_true_eq];omega
    have HS:=Lib.hid (hst.out.trans (if_pos ⟨by omega,hp⟩))
    clear hst hp;go_wp2_with (at_builtin;refine wpList_append_own _ rfl _ _ 27 rfl X0.heap.size 3 i0 (.int .i64 0) 1 8 Tryz.underlying27 hi hz0' hz1' hz2' rfl (by decide) _ _ _ rfl (HR.out.alloc _) ⟨wo.heap.size,0,none⟩ 1 1 [.int .i64 (k:Int)] rfl rfl (cell_one_new _ _ _) (by simp [Value.oneCell']) (by unfold maxLen;omega) (by omega) (by simp;omega) ?_;intro v' w4 hown' hgrow _)
    go_roundw
    case rel =>
     have hb0:Below X0.heap.size wo w4:=((Below.refl X0.heap.size wo).alloc (by omega) _).grown hgrow (by simp;omega) (fun j ej=>(HR.out.lt j ej).1)
     refine⟨k+1,.inl (by omega),by omega,by go_num,?_,HB.out.trans hb0⟩
     rw [HS.out]
     simpa using hown'
    case measure=>simp [intOf];omega
   ·have HS:=Lib.hid (hst.out.trans (if_neg (by omega)))
    have d2:decide (pf>0)=false:=by rw [decide_eq_false_iff_not];omega
    clear hst;go_wp2;go_roundw
    case rel=>exact⟨k+1,.inl (by omega),by omega,by go_num,by rw [HS.out];exact HR.out,HB.out⟩
    case measure=>simp [intOf];omega
  ·have dk:decide ((k:Int)<(m.ways.length:Int))=false:=by simp;omega
   have hfx:fixTo m k=fixL m:=by
    unfold fixL;rcases hk with h | h
    ·rw [show k=m.ways.length by omega]
    ·subst h
     rcases (show m.ways.length=0∨m.ways.length=1 by omega) with h | h
     ·rw [h];rfl
     ·rw [h]
   rw [hfx] at hrow;have HI:=Lib.hid (Z9.own hrow (by have:=Z0n m m.ways.length;show (fixTo m m.ways.length).length≤_;omega))
   clear hrow hB hfx hzX;go_wp2;go_ret;exact⟨_,rfl,HI.out,HBw.out⟩
theorem Z8S {a b:List Int} {k:Nat} (h1:k<a.length) (h2:k<b.length):lexB (a.drop k) (b.drop k)=if a.getD k 0=b.getD k 0 then lexB (a.drop (k+1)) (b.drop (k+1)) else decide (a.getD k 0<b.getD k 0):=by
 rw [List.drop_eq_getElem_cons h1,List.drop_eq_getElem_cons h2];simp only [lexB,List.getD_eq_getElem?_getD,List.getElem?_eq_getElem h1,List.getElem?_eq_getElem h2,Option.getD_some]
theorem Z5U (va vb : Value) (a b : List Int) (w : World) (ha : Z9 w.heap.size w va a) (hb : Z9 w.heap.size w vb b) (ha9 : a.length ≤ 100000) :
  Calls Tryz.prog 47 #[va,vb] w fun e w'=>e=.returned (.bool (betterB a b))∧Below w.heap.size w w':=by
 obtain⟨-,aa,ca,rfl,hca⟩:=ha;obtain⟨-,ab,cb,rfl,hcb⟩:=hb;have HA:=Lib.hid hca;have HB:=Lib.hid hcb;have BW:=Lib.hid (Below.refl w.heap.size w);clear hca hcb;by_cases hl:a.length=b.length
 ·have hbt:betterB a b=lexB a b:=by unfold betterB;rw [if_pos hl]
  have d0:((a.length:Int) == (b.length:Int))=true:=by simp [hl]
  have d1:((a.length:Int) != (b.length:Int))=false:=by simp [hl]
  rw [hbt];have HL:=Lib.hid hl;clear hbt hl;go_enter Tryz.func47,Tryz.ntmps47;go_wp2
  go_loopw [5] (fun i wr=>∃ k:Nat,k≤a.length∧i=.int .i64 (k:Int)∧lexB a b=lexB (a.drop k) (b.drop k)∧Below w.heap.size w wr) (fun i _=>a.length-(intOf i).toNat)
  case atStart=>exact⟨0,by omega,rfl,rfl,BW.out⟩
  case round =>
   obtain⟨k,hk,rfl,hx,hBr⟩:=hrel;obtain⟨wo,hwo⟩:∃ x,x=wr:=⟨_,rfl⟩;subst hwo;have HBr:=Lib.hid hBr;by_cases hlt:k<a.length
   ·have hkb:k<b.length:=by have:=HL.out;omega
    obtain⟨ba,oa,rfl,hba,hcca⟩:=HA.out.resolve_left (by intro h;rw [h] at hlt;simp at hlt)
    obtain⟨bb,ob,rfl,hbb,hccb⟩:=HB.out.resolve_left (by intro h;rw [h] at hkb;simp at hkb)
    have e0:=Low.fact ((hBr.cell (p:=⟨ba,oa+k,none⟩) hba).trans (hcca k hlt));have e1:=Low.fact ((hBr.cell (p:=⟨bb,ob+k,none⟩) hbb).trans (hccb k hkb));have hst:=Lib.hid (hx.trans (Z8S hlt hkb));generalize a.getD k 0=x at *;generalize b.getD k 0=y at *;have dk:decide ((k:Int)<(a.length:Int))=true:=by simp;omega
    have kl:(k:Int)<a.length:=by omega
    have kl2:(k:Int)<b.length:=by omega
    have k0:(0:Int)≤k:=by omega
    clear hcca hccb hx hBr;by_cases hxy:x=y
    ·have hs:=Lib.hid (hst.out.trans (if_pos hxy))
     subst hxy;have d2:((x:Int) == x)=true:=by simp
     have d3:((x:Int) != x)=false:=by simp
     clear hst;go_wp2
     (refine Ze (by kernel_rfl) (by kernel_rfl) ?_;(iterate 9 (apply Zd;(case hw=>rfl);(case hval=>(intro w1 hw1;have hcx:=Low.cells hw1;simp only [Oper.quietAt];go_simp;first | done | rfl | exact⟨rfl,rfl⟩));simp only [Act.put,zq4,zr4,zs4]));refine wpQuiet_nil ?_;intro w2 hw2)
     have HB2:=Lib.hid (HBr.out.trans (hw2.out.mono HBr.out.size));go_wp2;go_roundw
     case rel=>exact⟨k+1,by omega,by go_num,hs.out,HB2.out⟩
     case measure=>simp [intOf];omega
    ·have hs:=Lib.hid (hst.out.trans (if_neg hxy))
     have d2:((x:Int) == y)=false:=by simp [hxy]
     have d3:((x:Int) != y)=true:=by simp [hxy]
     clear hst;obtain⟨lt,hltv⟩:∃ lt,decide (x<y)=lt:=⟨_,rfl⟩;have hs2:=Lib.hid (hs.out.trans hltv);clear hs;go_wp2
     (refine Ze (by kernel_rfl) (by kernel_rfl) ?_;(iterate 9 (apply Zd;(case hw=>rfl);(case hval=>(intro w1 hw1;have hcx:=Low.cells hw1;simp only [Oper.quietAt];go_simp;first | done | rfl | exact⟨rfl,rfl⟩));simp only [Act.put,zq4,zr4,zs4]));refine wpQuiet_nil ?_;intro w2 hw2)
     obtain⟨wa,hwa⟩:∃ x,x=w2:=⟨_,rfl⟩;subst hwa;have HB2:=Lib.hid (HBr.out.trans (hw2.out.mono HBr.out.size));replace e0:=Low.fact (e0 _ hw2);replace e1:=Low.fact (e1 _ hw2);clear hw2;go_wp2
     (refine Ze (by kernel_rfl) (by kernel_rfl) ?_;(iterate 10 (apply Zd;(case hw=>rfl);(case hval=>(intro w1 hw1;have hcx:=Low.cells hw1;simp only [Oper.quietAt];go_simp;first | done | rfl | exact⟨rfl,rfl⟩));simp only [Act.put,zq4,zr4,zs4]));refine wpQuiet_nil ?_;intro w2 hw2)
     go_wp2;go_ret;exact⟨by rw [hs2.out];rfl,HB2.out.trans (hw2.out.mono HB2.out.size)⟩
   ·obtain rfl:k=a.length:=by omega
    have dk:decide ((a.length:Int)<(a.length:Int))=false:=by simp
    have hs:=Lib.hid (show lexB a b=false by rw [hx,List.drop_length];cases h:(b.drop a.length) <;> rfl)
    clear hx hBr;go_wp2;go_ret;exact⟨by rw [hs.out];rfl,HBr.out⟩
 ·have hbt:betterB a b=decide (a.length<b.length):=by unfold betterB;rw [if_neg hl]
  have d0:((a.length:Int) == (b.length:Int))=false:=by rw [beq_eq_false_iff_ne];omega
  have d1:((a.length:Int) != (b.length:Int))=true:=by simp [d0,bne]
  rw [hbt];clear hbt;by_cases hc:a.length<b.length
  ·have d2:decide ((a.length:Int)<(b.length:Int))=true:=by simp;omega
   rw [decide_eq_true hc];go_enter Tryz.func47,Tryz.ntmps47;go_wp2;go_ret;exact⟨rfl,BW.out⟩
  ·have d2:decide ((a.length:Int)<(b.length:Int))=false:=by simp;omega
   rw [decide_eq_false hc];go_enter Tryz.func47,Tryz.ntmps47;go_wp2;go_ret;exact⟨rfl,BW.out⟩
end
theorem ZaB {m:Msn} (h:fewB m=true):m.ways.length≤8:=by
 simp only [fewB,Bool.and_eq_true,decide_eq_true_eq] at h;omega
theorem fix_in {m:Msn} {x:Int} (h:x ∈ fixL m):0<x∧x<m.ways.length∧(wy m.ways x.toNat).fix≠0:=by
 obtain⟨j,rfl,h1,h2,h3⟩:=(Z1g m _ _).1 h;exact⟨by omega,by omega,by rw [Int.toNat_natCast];omega⟩
theorem ZaW {m:Msn} (hV:validB m=true) {s:List Int} (h:s.Sublist (fixL m)):radOkB m s=true:=by
 unfold radOkB;rw [hV,Bool.true_and];exact Z8C (List.Pairwise.sublist h (Z22 m _)) fun x hx=>fix_in (h.subset hx)
theorem kp_of {m:Msn} {s:List Int} (h:radOkB m s=true):kpL m s=leadV m s∧kpK m s=leadK m s∧kpE m s=0:=by
 simp [kpL,kpK,kpE,h]
theorem kpL_nn (m:Msn) (s:List Int):0≤kpL m s:=by
 unfold kpL leadV
 split <;> omega
section
attribute [local irreducible] wpQuiet
open Go.RowKit
instance (l:List Pt) (s t:Pt):Decidable (Nx l s t):=by unfold Nx;infer_instance
def hullB (l h:List Pt):Bool:=decide (l≠[]∧1≤h.length∧(nth h 0 ∈ l∧∀ x,x ∈ l→¬ LexLt x (nth h 0))∧(∀ i,i<h.length→Nx l (nth h i) (nth h ((i+1) % h.length)))∧(∀ i,i<h.length→0<i→nth h i≠nth h 0))
theorem Z0b {l h:List Pt} (k:hullB l h=true):hullP l=h:=by
 simp only [hullB,decide_eq_true_eq] at k;obtain⟨h1,h2,h3,h4,h5⟩:=k;exact (Z20 ⟨fun e=>absurd e h1,fun _=>h2,fun _=>h3,h4,fun i h0 hi=>h5 i hi h0⟩).symm
theorem Zb2:Z5 0=[⟨0,0⟩]:=Z0b (by decide +kernel)
theorem Zb1:Z5 2=[⟨-2,-1⟩,⟨-1,-2⟩,⟨1,-2⟩,⟨2,-1⟩,⟨2,1⟩,⟨1,2⟩,⟨-1,2⟩,⟨-2,1⟩]:=Z0b (by decide +kernel)
theorem Z2K {ax ay bx by' n : Int} (h0 : 0 ≤ n) (h : (ax-bx) * (ax-bx) + (ay-by') * (ay-by') ≤ n * n) (h2 : (n-1) * (n-1) < (ax-bx) * (ax-bx) + (ay-by') * (ay-by')) : distV ax ay bx by' = n := by
 unfold distV;generalize (ax-bx)*(ax-bx)+(ay-by')*(ay-by')=s at *
 have hs:=Z33 (s:=s) (by
  have:0≤(n-1)*(n-1):=by
   rcases Int.le_total 0 (n-1) with h | h
   ·exact Int.mul_nonneg h h
   ·have:=Int.mul_nonneg (show 0≤-(n-1) by omega) (show 0≤-(n-1) by omega)
    rwa [Int.neg_mul_neg] at this
  omega)
 have h1:=hs.2.2 n h0 h;rcases Int.lt_or_le (rootUp s) n with h3 | h3
 ·have h4:=Int.mul_le_mul (show rootUp s≤n-1 by omega) (show rootUp s≤n-1 by omega) hs.1 (by omega)
  have:=hs.2.1;omega
 ·omega
end
def roX:List Pt:=[⟨185,90⟩,⟨190,15⟩,⟨195,90⟩]
def hmA:List Pt:=[⟨-100,-100⟩,⟨100,-100⟩,⟨100,100⟩,⟨-100,100⟩]
def hmB:List Pt:=[⟨0,0⟩]
def exP (h:List Pt):Msn:=⟨[⟨0,0,0,0,0⟩,⟨100,0,2,0,0⟩,⟨200,0,0,0,0⟩],h,0,[roX],10000,100,0,0,0,1000,1000⟩
theorem Z6T (h:List Pt):dLeg (exP h) 0 1=100∧dLeg (exP h) 1 2=100∧dLeg (exP h) 1 0=100∧dLeg (exP h) 2 0=200 :=
 ⟨show distV 0 0 100 0=100 from Z2K (by decide) (by decide) (by decide),show distV 100 0 200 0=100 from Z2K (by decide) (by decide) (by decide),show distV 100 0 0 0=100 from Z2K (by decide) (by decide) (by decide),show distV 200 0 0 0=200 from Z2K (by decide) (by decide) (by decide)⟩
theorem Z2S (h:List Pt):gLeg (exP h) 0 1=10∧gLeg (exP h) 1 2=10∧gLeg (exP h) 1 0=10∧gLeg (exP h) 2 0=20:=by
 obtain⟨d1,d2,d3,d4⟩:=Z6T h;unfold gLeg;rw [d1,d2,d3,d4];exact⟨show growthV 10000 100 0 100=10 by decide,show growthV 10000 100 0 100=10 by decide,show growthV 10000 100 0 100=10 by decide,show growthV 10000 100 0 200=20 by decide⟩
theorem Z5l (h:List Pt):tLeg (exP h) 0 1=1∧tLeg (exP h) 1 2=1∧tLeg (exP h) 1 0=1∧tLeg (exP h) 2 0=2:=by
 obtain⟨d1,d2,d3,d4⟩:=Z6T h;unfold tLeg;rw [d1,d2,d3,d4];exact⟨show lastsV 10000 100=1 by decide,show lastsV 10000 100=1 by decide,show lastsV 10000 100=1 by decide,show lastsV 10000 200=2 by decide⟩
theorem Z9D (h:List Pt):grownV (exP h)=50:=by
 obtain⟨g1,g2,g3,g4⟩:=Z2S h
 show (0:Int)+(gLeg (exP h) 0 1+gLeg (exP h) 1 0)+(gLeg (exP h) 1 2+gLeg (exP h) 2 0)=50
 rw [g1,g2,g3,g4]
 rfl
theorem Z0v:Zb roX=true:=by rw [Z05];decide +kernel
theorem Z1d:Zb hmA=true:=by rw [Z05];decide +kernel
theorem Z0z:Zb hmB=true:=by rw [Z05];decide +kernel
theorem Z3l {h:List Pt} (hh:Zb h=true):validB (exP h)=true:=by
 rw [Zn];refine⟨by show 2≤3;decide,by show 3≤41;decide,by show 1≤100;decide,by show waysB [⟨0,0,0,0,0⟩,⟨100,0,2,0,0⟩,⟨200,0,0,0,0⟩]=true;decide,hh,?_,by show (0:Int)≤0∧(0:Int)≤100000;decide,by show (1:Int)≤10000∧(10000:Int)≤20000∧(0:Int)≤100∧(100:Int)≤500∧(0:Int)≤0∧(0:Int)≤5000;decide,by show (0:Int)≤0∧(0:Int)≤1000;decide,by show (0:Int)≤0∧(0:Int)≤1000;decide,by show (0:Int)≤1000∧(1000:Int)≤1000000000;decide,by show (0:Int)≤1000∧(1000:Int)≤1000000000;decide,by rw [Z9D];decide⟩
 simp only [rocksB,exP];refine decide_eq_true fun j hj=>?_
 obtain rfl:j=0:=by simp at hj;omega
 exact Z0v
theorem exP_e (h:List Pt) (i j:Nat):eLeg (exP h) i j=0:=by simp [eLeg,exP]
theorem Z5w {h:List Pt} {a b:Nat} {u w:Int} {c:List Pt} {t:Bool} (hc:corL (atW (exP h) a) u (atW (exP h) b) w=c) (hv:Zb c=true) (ht:touchB c roX=t):clrB (exP h) a u b w=!t:=by
 unfold clrB;rw [hc,show (exP h).rocks=[roX] from rfl,(Z9q hv Z0v).1,ht]
set_option maxRecDepth 100000 in
theorem Z2j:Z5 10=[⟨-10,-5⟩,⟨-5,-10⟩,⟨5,-10⟩,⟨10,-5⟩,⟨10,5⟩,⟨5,10⟩,⟨-5,10⟩,⟨-10,5⟩]:=Z0b (by decide +kernel)
set_option maxRecDepth 100000 in
theorem Z4G:Z5 12=[⟨-12,-5⟩,⟨-5,-12⟩,⟨5,-12⟩,⟨12,-5⟩,⟨12,5⟩,⟨5,12⟩,⟨-5,12⟩,⟨-12,5⟩]:=Z0b (by decide +kernel)
set_option maxRecDepth 100000 in
theorem Z2i:Z5 20=[⟨-20,-9⟩,⟨-9,-20⟩,⟨9,-20⟩,⟨20,-9⟩,⟨20,9⟩,⟨9,20⟩,⟨-9,20⟩,⟨-20,9⟩]:=Z0b (by decide +kernel)
set_option maxRecDepth 100000 in
theorem Z6j:Z5 32=[⟨-32,-14⟩,⟨-14,-32⟩,⟨14,-32⟩,⟨32,-14⟩,⟨32,14⟩,⟨14,32⟩,⟨-14,32⟩,⟨-32,14⟩]:=Z0b (by decide +kernel)
def c1L:List Pt:=[⟨0,0⟩,⟨95,-10⟩,⟨105,-10⟩,⟨110,-5⟩,⟨110,5⟩,⟨105,10⟩,⟨95,10⟩]
theorem Z73:Zb c1L=true:=by rw [Z05];decide +kernel
theorem c1_cor:corL ⟨0,0⟩ 0 ⟨100,0⟩ 10=c1L:=by
 have e:corE ⟨0,0⟩ 0 ⟨100,0⟩ 10=0:=by
  unfold corE;rw [show (0:Int).toNat=0 from rfl,show (10:Int).toNat=10 from rfl,Zb2,Z2j]
  decide +kernel
 unfold corL;rw [if_pos e];unfold corH;rw [show (0:Int).toNat=0 from rfl,show (10:Int).toNat=10 from rfl,Zb2,Z2j]
 exact Z0b (by decide +kernel)
theorem ZaR:touchB c1L roX=false:=by
 have a:cornersP c1L roX=[]:=by unfold cornersP;rw [ZD Z0v];decide +kernel
 have b:cornersP roX c1L=[]:=by unfold cornersP;rw [ZD Z73];decide +kernel
 have c:crossP c1L roX=[]:=by decide +kernel
 unfold touchB sharedP;rw [a,b,c];simp
theorem Z74 (h:List Pt):clrB (exP h) 0 0 1 10=true:=Z5w (h:=h) (a:=0) (b:=1) (u:=0) (w:=10) c1_cor Z73 ZaR
def c2L:List Pt:=[⟨-20,-9⟩,⟨-9,-20⟩,⟨9,-20⟩,⟨105,-10⟩,⟨110,-5⟩,⟨110,5⟩,⟨105,10⟩,⟨9,20⟩,⟨-9,20⟩,⟨-20,9⟩]
theorem Z71:Zb c2L=true:=by rw [Z05];decide +kernel
theorem c2_cor:corL ⟨100,0⟩ 10 ⟨0,0⟩ 20=c2L:=by
 have e:corE ⟨100,0⟩ 10 ⟨0,0⟩ 20=0:=by
  unfold corE;rw [show (10:Int).toNat=10 from rfl,show (20:Int).toNat=20 from rfl,Z2j,Z2i]
  decide +kernel
 unfold corL;rw [if_pos e];unfold corH;rw [show (10:Int).toNat=10 from rfl,show (20:Int).toNat=20 from rfl,Z2j,Z2i]
 exact Z0b (by decide +kernel)
theorem ZaQ:touchB c2L roX=false:=by
 have a:cornersP c2L roX=[]:=by unfold cornersP;rw [ZD Z0v];decide +kernel
 have b:cornersP roX c2L=[]:=by unfold cornersP;rw [ZD Z71];decide +kernel
 have c:crossP c2L roX=[]:=by decide +kernel
 unfold touchB sharedP;rw [a,b,c];simp
theorem Z72 (h:List Pt):clrB (exP h) 1 10 0 20=true:=Z5w (h:=h) (a:=1) (b:=0) (u:=10) (w:=20) c2_cor Z71 ZaQ
def c3L:List Pt:=[⟨90,-5⟩,⟨95,-10⟩,⟨191,-20⟩,⟨209,-20⟩,⟨220,-9⟩,⟨220,9⟩,⟨209,20⟩,⟨191,20⟩,⟨95,10⟩,⟨90,5⟩]
theorem Z4M:Zb c3L=true:=by rw [Z05];decide +kernel
theorem c3_cor:corL ⟨100,0⟩ 10 ⟨200,0⟩ 20=c3L:=by
 have e:corE ⟨100,0⟩ 10 ⟨200,0⟩ 20=0:=by
  unfold corE;rw [show (10:Int).toNat=10 from rfl,show (20:Int).toNat=20 from rfl,Z2j,Z2i]
  decide +kernel
 unfold corL;rw [if_pos e];unfold corH;rw [show (10:Int).toNat=10 from rfl,show (20:Int).toNat=20 from rfl,Z2j,Z2i]
 exact Z0b (by decide +kernel)
theorem ZaP:touchB c3L roX=true:=by
 have b:cornersP roX c3L=[⟨190,15⟩]:=by unfold cornersP;rw [ZD Z4M];decide +kernel
 unfold touchB sharedP;rw [b,Z4M,Z0v];simp
theorem c3_clr (h:List Pt):clrB (exP h) 1 10 2 20=false:=Z5w (h:=h) (a:=1) (b:=2) (u:=10) (w:=20) c3_cor Z4M ZaP
def c4L:List Pt:=[⟨98,-1⟩,⟨99,-2⟩,⟨195,-12⟩,⟨205,-12⟩,⟨212,-5⟩,⟨212,5⟩,⟨205,12⟩,⟨195,12⟩,⟨99,2⟩,⟨98,1⟩]
theorem Z70:Zb c4L=true:=by rw [Z05];decide +kernel
theorem c4_cor:corL ⟨100,0⟩ 2 ⟨200,0⟩ 12=c4L:=by
 have e:corE ⟨100,0⟩ 2 ⟨200,0⟩ 12=0:=by
  unfold corE;rw [show (2:Int).toNat=2 from rfl,show (12:Int).toNat=12 from rfl,Zb1,Z4G]
  decide +kernel
 unfold corL;rw [if_pos e];unfold corH;rw [show (2:Int).toNat=2 from rfl,show (12:Int).toNat=12 from rfl,Zb1,Z4G]
 exact Z0b (by decide +kernel)
theorem ZaO:touchB c4L roX=false:=by
 have a:cornersP c4L roX=[]:=by unfold cornersP;rw [ZD Z0v];decide +kernel
 have b:cornersP roX c4L=[]:=by unfold cornersP;rw [ZD Z70];decide +kernel
 have c:crossP c4L roX=[]:=by decide +kernel
 unfold touchB sharedP;rw [a,b,c];simp
theorem c4_clr (h:List Pt):clrB (exP h) 1 2 2 12=true:=Z5w (h:=h) (a:=1) (b:=2) (u:=2) (w:=12) c4_cor Z70 ZaO
def c5L:List Pt:=[⟨-32,-14⟩,⟨-14,-32⟩,⟨14,-32⟩,⟨205,-12⟩,⟨212,-5⟩,⟨212,5⟩,⟨205,12⟩,⟨14,32⟩,⟨-14,32⟩,⟨-32,14⟩]
theorem Z6Z:Zb c5L=true:=by rw [Z05];decide +kernel
theorem c5_cor:corL ⟨200,0⟩ 12 ⟨0,0⟩ 32=c5L:=by
 have e:corE ⟨200,0⟩ 12 ⟨0,0⟩ 32=0:=by
  unfold corE;rw [show (12:Int).toNat=12 from rfl,show (32:Int).toNat=32 from rfl,Z4G,Z6j]
  decide +kernel
 unfold corL;rw [if_pos e];unfold corH;rw [show (12:Int).toNat=12 from rfl,show (32:Int).toNat=32 from rfl,Z4G,Z6j]
 exact Z0b (by decide +kernel)
theorem ZaN:touchB c5L roX=false:=by
 have a:cornersP c5L roX=[]:=by unfold cornersP;rw [ZD Z0v];decide +kernel
 have b:cornersP roX c5L=[]:=by unfold cornersP;rw [ZD Z6Z];decide +kernel
 have c:crossP c5L roX=[]:=by decide +kernel
 unfold touchB sharedP;rw [a,b,c];simp
theorem c5_clr (h:List Pt):clrB (exP h) 2 12 0 32=true:=Z5w (h:=h) (a:=2) (b:=0) (u:=12) (w:=32) c5_cor Z6Z ZaN
theorem Z3Y:lieB (exP hmA) 20=true:=by
 unfold lieB;rw [show (20:Int).toNat=20 from rfl,Z2i]
 unfold cornersP;rw [show (exP hmA).home=hmA from rfl,ZD Z1d]
 decide +kernel
theorem Z7E:lieB (exP hmA) 32=true:=by
 unfold lieB;rw [show (32:Int).toNat=32 from rfl,Z6j]
 unfold cornersP;rw [show (exP hmA).home=hmA from rfl,ZD Z1d]
 decide +kernel
theorem Z3X:lieB (exP hmB) 20=false:=by
 unfold lieB;rw [show (20:Int).toNat=20 from rfl,Z2i]
 unfold cornersP;rw [show (exP hmB).home=hmB from rfl,ZD Z0z]
 decide +kernel
theorem Z1s (h:List Pt):dep (exP h) 1=1∧dep (exP h) 2=1:=⟨rfl,rfl⟩
theorem Z9C (h:List Pt):rdA (exP h) [] 0=0∧rdB (exP h) [] 1=10∧rdA (exP h) [] 1=10∧rdB (exP h) [] 2=20:=by
 obtain⟨g1,g2,g3,g4⟩:=Z2S h;have a0:rdA (exP h) [] 0=0:=rfl;have b1:rdB (exP h) [] 1=10:=by rw [Z2L,a0,g1];rfl
 have a1:rdA (exP h) [] 1=10:=by rw [Z1S,if_neg (by simp),b1]
 exact⟨a0,b1,a1,by rw [Z2L,a1,g2];rfl⟩
theorem Z9B (h:List Pt):rdA (exP h) [1] 0=0∧rdB (exP h) [1] 1=10∧rdA (exP h) [1] 1=2∧rdB (exP h) [1] 2=12:=by
 obtain⟨g1,g2,g3,g4⟩:=Z2S h;have a0:rdA (exP h) [1] 0=0:=rfl;have b1:rdB (exP h) [1] 1=10:=by rw [Z2L,a0,g1];rfl
 have a1:rdA (exP h) [1] 1=2:=by rw [Z1S,if_pos (by simp),b1];rfl
 exact⟨a0,b1,a1,by rw [Z2L,a1,g2];rfl⟩
theorem Z4b (h:List Pt) (l:List Int):usE (exP h) l 1=0∧usE (exP h) l 2=0∧usT (exP h) l 1≤10∧usT (exP h) l 2≤10:=by
 obtain⟨t1,t2,t3,t4⟩:=Z5l h;have w0:∀ k,waitT (exP h) l k=0:=fun k=>by
  unfold waitT
  split
  ·match k with
   | 0=>rfl
   | 1=>rfl
   | 2=>rfl
   | k+3=>rfl
  ·rfl
 have i0:(exP h).idle=0:=rfl;simp only [usE,usT,w0,exP_e,i0,t1,t2]
 decide
theorem Z1r (h:List Pt):homeE (exP h) 1 1=0∧homeE (exP h) 2 1=0∧homeT (exP h) 1 1=1∧homeT (exP h) 2 1=2:=by
 obtain⟨t1,t2,t3,t4⟩:=Z5l h;simp only [homeE,homeT,exP_e];refine⟨rfl,rfl,?_,?_⟩
 ·show 0+tLeg (exP h) 1 0=1;rw [t3];rfl
 ·show 0+tLeg (exP h) 2 0=2;rw [t4];rfl
theorem Z5n (h:List Pt) (r:Int):bkR (exP h) 1 r 1=r+10∧bkR (exP h) 2 r 1=r+20∧bkC (exP h) 1 r 1=clrB (exP h) 1 r 0 (r+10)∧bkC (exP h) 2 r 1=clrB (exP h) 2 r 0 (r+20):=by
 obtain⟨g1,g2,g3,g4⟩:=Z2S h;have b1:bkR (exP h) 1 r 1=r+10:=by show r+gLeg (exP h) 1 0=_;rw [g3]
 have b2:bkR (exP h) 2 r 1=r+20:=by show r+gLeg (exP h) 2 0=_;rw [g4]
 refine⟨b1,b2,?_,?_⟩
 ·show (true && clrB (exP h) 1 r 0 (bkR (exP h) 1 r 1))=_;rw [b1];rfl
 ·show (true && clrB (exP h) 2 r 0 (bkR (exP h) 2 r 1))=_;rw [b2];rfl
theorem Z2h (h:List Pt):(exP h).battery=1000∧(exP h).deadline=1000:=⟨rfl,rfl⟩
theorem Zbt:kindV (exP hmA) [] 0=0:=by
 obtain⟨a0,b1,a1,b2⟩:=Z9C hmA;obtain⟨d1,d2⟩:=Z1s hmA;obtain⟨u1,u2,u3,u4⟩:=Z4b hmA [];obtain⟨h1,h2,h3,h4⟩:=Z1r hmA;obtain⟨m1,m2⟩:=Z2h hmA;unfold kindV;obtain⟨q1,q2,q3,q4⟩:=Z5n hmA 10;rw [show (0:Nat)+1=1 from rfl,a0,b1,Z74,d1,q3,q1,show (10:Int)+10=20 from rfl,Z72,Z3Y,if_neg (by decide),if_neg (by decide),if_neg (by decide),u1,h1,m1,h3,m2,if_neg (by decide),if_neg (by omega)]
theorem Z93:kindV (exP hmA) [] 1=1:=by
 obtain⟨a0,b1,a1,b2⟩:=Z9C hmA;obtain⟨d1,d2⟩:=Z1s hmA;obtain⟨u1,u2,u3,u4⟩:=Z4b hmA [];obtain⟨h1,h2,h3,h4⟩:=Z1r hmA;obtain⟨m1,m2⟩:=Z2h hmA;unfold kindV;rw [show (1:Nat)+1=2 from rfl,a1,b2,c3_clr,if_pos rfl]
theorem Zbs:kindV (exP hmA) [1] 0=0:=by
 obtain⟨a0,b1,a1,b2⟩:=Z9B hmA;obtain⟨d1,d2⟩:=Z1s hmA;obtain⟨u1,u2,u3,u4⟩:=Z4b hmA [1];obtain⟨h1,h2,h3,h4⟩:=Z1r hmA;obtain⟨m1,m2⟩:=Z2h hmA;unfold kindV;obtain⟨q1,q2,q3,q4⟩:=Z5n hmA 10;rw [show (0:Nat)+1=1 from rfl,a0,b1,Z74,d1,q3,q1,show (10:Int)+10=20 from rfl,Z72,Z3Y,if_neg (by decide),if_neg (by decide),if_neg (by decide),u1,h1,m1,h3,m2,if_neg (by decide),if_neg (by omega)]
theorem Zbr:kindV (exP hmA) [1] 1=0:=by
 obtain⟨a0,b1,a1,b2⟩:=Z9B hmA;obtain⟨d1,d2⟩:=Z1s hmA;obtain⟨u1,u2,u3,u4⟩:=Z4b hmA [1];obtain⟨h1,h2,h3,h4⟩:=Z1r hmA;obtain⟨m1,m2⟩:=Z2h hmA;unfold kindV;obtain⟨q1,q2,q3,q4⟩:=Z5n hmA 12;rw [show (1:Nat)+1=2 from rfl,a1,b2,c4_clr,d2,q4,q2,show (12:Int)+20=32 from rfl,c5_clr,Z7E,if_neg (by decide),if_neg (by decide),if_neg (by decide),u2,h2,m1,h4,m2,if_neg (by decide),if_neg (by omega)]
theorem Z92:kindV (exP hmB) [] 0=2:=by
 obtain⟨a0,b1,a1,b2⟩:=Z9C hmB;obtain⟨d1,d2⟩:=Z1s hmB;obtain⟨u1,u2,u3,u4⟩:=Z4b hmB [];obtain⟨h1,h2,h3,h4⟩:=Z1r hmB;obtain⟨m1,m2⟩:=Z2h hmB;unfold kindV;obtain⟨q1,q2,q3,q4⟩:=Z5n hmB 10;rw [show (0:Nat)+1=1 from rfl,a0,b1,Z74,d1,q3,q1,show (10:Int)+10=20 from rfl,Z72,Z3X,if_neg (by decide),if_neg (by decide),if_pos rfl]
theorem Zbq:kindV (exP hmB) [1] 0=2:=by
 obtain⟨a0,b1,a1,b2⟩:=Z9B hmB;obtain⟨d1,d2⟩:=Z1s hmB;obtain⟨u1,u2,u3,u4⟩:=Z4b hmB [1];obtain⟨h1,h2,h3,h4⟩:=Z1r hmB;obtain⟨m1,m2⟩:=Z2h hmB;unfold kindV;obtain⟨q1,q2,q3,q4⟩:=Z5n hmB 10;rw [show (0:Nat)+1=1 from rfl,a0,b1,Z74,d1,q3,q1,show (10:Int)+10=20 from rfl,Z72,Z3X,if_neg (by decide),if_neg (by decide),if_pos rfl]
theorem Z0c (h:List Pt):(exP h).ways.length=3:=rfl
theorem Z9A (h:List Pt):stopsB (exP h) []=true∧stopsB (exP h) [1]=true∧stopsB (exP h) [2]=false:=by
 refine⟨?_,?_,?_⟩
 ·unfold stopsB;exact decide_eq_true fun k hk=>absurd hk (by simp)
 ·show stopsB (exP hmB) [1]=true;decide
 ·show stopsB (exP hmB) [2]=false;decide
theorem Z5m {h:List Pt} (hh:Zb h=true):radOkB (exP h) []=true∧radOkB (exP h) [1]=true∧radOkB (exP h) [2]=false:=by
 obtain⟨a,b,c⟩:=Z9A h;simp [radOkB,Z3l hh,a,b,c]
theorem exA_0:kpL (exP hmA) []=1∧kpK (exP hmA) []=1∧kpE (exP hmA) []=0:=by
 have e:leadN (exP hmA) []=1:=Z1p (by rw [Z0c];decide) (fun j hj=>by
  obtain rfl:j=0:=by omega
  exact Zbt) (fun _=>by rw [Z93];decide)
 simp only [kpL,kpK,kpE,(Z5m Z1d).1,if_true,leadV,leadK,e];exact⟨rfl,by rw [if_pos (by rw [Z0c];decide)];exact Z93,trivial⟩
theorem exA_1:kpL (exP hmA) [1]=2∧kpK (exP hmA) [1]=0∧kpE (exP hmA) [1]=0:=by
 have e:leadN (exP hmA) [1]=2:=Z1p (by rw [Z0c];decide) (fun j hj=>by
  match j,hj with
  | 0,_=>exact Zbs
  | 1,_=>exact Zbr
  | j+2,hj=>exact absurd hj (by omega)) (fun h=>absurd h (by rw [Z0c];decide))
 simp only [kpL,kpK,kpE,(Z5m Z1d).2.1,if_true,leadV,leadK,e];exact⟨rfl,by rw [if_neg (by rw [Z0c];decide)],trivial⟩
theorem exA_2 (h:List Pt) (hh:Zb h=true):kpL (exP h) [2]=0∧kpK (exP h) [2]=0∧kpE (exP h) [2]=1:=by
 simp [kpL,kpK,kpE,(Z5m hh).2.2]
theorem exB_0:kpL (exP hmB) []=0∧kpK (exP hmB) []=2∧kpE (exP hmB) []=0:=by
 have e:leadN (exP hmB) []=0:=Z1p (by rw [Z0c];decide) (fun j hj=>by omega) (fun _=>by rw [Z92];decide)
 simp only [kpL,kpK,kpE,(Z5m Z0z).1,if_true,leadV,leadK,e];exact⟨rfl,by rw [if_pos (by rw [Z0c];decide)];exact Z92,trivial⟩
theorem exB_1:kpL (exP hmB) [1]=0:=by
 have e:leadN (exP hmB) [1]=0:=Z1p (by rw [Z0c];decide) (fun j hj=>by omega) (fun _=>by rw [Zbq];decide)
 simp only [kpL,(Z5m Z0z).2.1,if_true,leadV,e]
 rfl
theorem Z9E (h:List Pt):fixL (exP h)=[1]:=rfl
theorem ZaE:bestP (exP hmA)=(2,[1]):=by
 unfold bestP farL;rw [Z9E,show allTo [1] (([1]:List Int).length+1)=[[],[1]] from rfl]
 simp [farS,exA_0.1,exA_1.1]
theorem ZaD:bestP (exP hmB)=(0,[]):=by
 unfold bestP farL;rw [Z9E,show allTo [1] (([1]:List Int).length+1)=[[],[1]] from rfl]
 simp [farS,exB_0.1,exB_1]
theorem Z0q:bsB (exP hmA)=true∧bsL (exP hmA)=[1]∧plE (exP hmA)=0∧rfB (exP hmA)=false∧rfL (exP hmA)=[]∧rfG (exP hmA)=0:=by
 have hv:=Z3l Z1d;simp [bsB,bsL,rfB,rfL,rfG,plE,hv,ZaE,Z0c]
theorem Z0p:bsB (exP hmB)=false∧bsL (exP hmB)=[]∧plE (exP hmB)=0∧rfB (exP hmB)=true∧rfL (exP hmB)=[]∧rfG (exP hmB)=0:=by
 have hv:=Z3l Z0z;simp [bsB,bsL,rfB,rfL,rfG,plE,hv,ZaD,Z0c]
section
attribute [local irreducible] wpQuiet
open Go.RowKit
theorem set11 {X Z:World} {B:Nat} {cs:Array Value} {T:TypeId} {v0 v1 v2 v3 v4 v5 v6 v7 v8 v9 v10:Value} (H:Has X B cs T) (hs:cs.size=11) (hz:(((((((((((X.setCell ⟨B,0,none⟩ v0).setCell ⟨B,1,none⟩ v1).setCell ⟨B,2,none⟩ v2).setCell ⟨B,3,none⟩ v3).setCell ⟨B,4,none⟩ v4).setCell ⟨B,5,none⟩ v5).setCell ⟨B,6,none⟩ v6).setCell ⟨B,7,none⟩ v7).setCell ⟨B,8,none⟩ v8).setCell ⟨B,9,none⟩ v9).setCell ⟨B,10,none⟩ v10)=Z) :
  Has Z B #[v0,v1,v2,v3,v4,v5,v6,v7,v8,v9,v10] T∧(∀ n,n≤B→Below n X Z)∧Z.heap.size=X.heap.size∧∀ b,b≠B→Z.heap[b]?=X.heap[b]?:=by
 subst hz;obtain⟨l,rfl⟩:∃ l:List Value,cs=l.toArray:=⟨cs.toList,by simp⟩
 obtain⟨u0,u1,u2,u3,u4,u5,u6,u7,u8,u9,u10,rfl⟩:∃ u0 u1 u2 u3 u4 u5 u6 u7 u8 u9 u10,l=[u0,u1,u2,u3,u4,u5,u6,u7,u8,u9,u10]:=by
  match l,hs with
  | [u0,u1,u2,u3,u4,u5,u6,u7,u8,u9,u10],_=>exact⟨_,_,_,_,_,_,_,_,_,_,_,rfl⟩
 refine⟨?_,fun n hn=>?_,by simp,fun b hb=>?_⟩
 ·have:=(((((((((((H.set 0 v0).set 1 v1).set 2 v2).set 3 v3).set 4 v4).set 5 v5).set 6 v6).set 7 v7).set 8 v8).set 9 v9).set 10 v10)
  simpa only [zq4,zr4,zs4] using this
 ·exact ((((((((((((Below.refl n X).setCell (p:=⟨B,0,none⟩) hn v0).setCell (p:=⟨B,1,none⟩) hn v1).setCell (p:=⟨B,2,none⟩) hn v2).setCell (p:=⟨B,3,none⟩) hn v3).setCell (p:=⟨B,4,none⟩) hn v4).setCell (p:=⟨B,5,none⟩) hn v5).setCell (p:=⟨B,6,none⟩) hn v6).setCell (p:=⟨B,7,none⟩) hn v7).setCell (p:=⟨B,8,none⟩) hn v8).setCell (p:=⟨B,9,none⟩) hn v9).setCell (p:=⟨B,10,none⟩) hn v10)
 ·iterate 11 (rw [Below.heap_setCell _ _ _ _ (by exact hb)])
theorem Z78 (x y:Int) (w:World) :
  Calls Tryz.prog 14 #[.int .i64 x,.int .i64 y] w fun e w'=>e=.returned (.agg #[.int .i64 x,.int .i64 y])∧Below w.heap.size w w':=by
 go_enter Tryz.func14,Tryz.ntmps14;go_wp2;exact bodyPost_ret (v:=.agg #[.int .i64 x,.int .i64 y]) (by simp [results,Tryz.f14,go_sem]) rfl ⟨rfl,zB2⟩
theorem Z9u (m:Msn) (vw vh vr:Value) (w:World) (hm:MsnAt w.heap.size w m vw vh vr) :
  Calls Tryz.prog 5 #[.agg (Zc m vw vh vr)] w fun e w'=>e=.returned (.bool (fewB m))∧Below w.heap.size w w':=by
 have hf:=fun w1 (B:Below w.heap.size w w1)=>Zbz m vw vh vr w1 ((hm.below B).mono B.size)
 obtain⟨⟨-,a1,c1,rfl,-⟩,⟨-,a2,c2,rfl,-⟩,⟨-,a3,c3,rfl,-⟩⟩:=hm;unfold Zc at *;replace hf:=Lib.hid hf;have BW:=Lib.hid (Below.refl w.heap.size w);go_enter Tryz.func5,Tryz.ntmps5;go_wp2_with fail;generalize hXX0:World.alloc w _=X0;obtain⟨q0,hA,hzX0⟩:=box1 hXX0;clear hXX0;have BW:=Lib.hid hA;clear hA;have MB:=Lib.hid q0;clear q0;refine (hf.out _ BW.out).mono ?_;rintro e w1 ⟨rfl,b1⟩;replace BW:=zAi BW b1;have B_X0:=Lib.hid b1;clear b1;go_wp2;go_ret;exact⟨rfl,BW.out⟩
theorem exP_at {W:World} {a b c d:Nat} (h1:Has W a #[.int .i64 0,.int .i64 0,.int .i64 0,.int .i64 0,.int .i64 0,.int .i64 100,.int .i64 0,.int .i64 2,.int .i64 0,.int .i64 0,.int .i64 200,.int .i64 0,.int .i64 0,.int .i64 0,.int .i64 0] 56) (h2:Has W b #[.int .i64 (-100),.int .i64 (-100),.int .i64 100,.int .i64 (-100),.int .i64 100,.int .i64 100,.int .i64 (-100),.int .i64 100] 41) (h3:Has W c #[.int .i64 185,.int .i64 90,.int .i64 190,.int .i64 15,.int .i64 195,.int .i64 90] 41) (h4:Has W d #[.slice (some ⟨c,0,none⟩) 3 3] 23) :
  MsnAt W.heap.size W (exP hmA) (.slice (some ⟨a,0,none⟩) 3 3) (.slice (some ⟨b,0,none⟩) 4 4) (.slice (some ⟨d,0,none⟩) 1 1):=by
 refine⟨⟨by simp [exP],some ⟨a,0,none⟩,0,rfl,.inr ⟨a,0,rfl,h1.lt,fun j hj=>?_⟩⟩,Z8.has (l:=hmA) (cap:=0) h2 (by simp [hmA]) rfl,Z7.has (ls:=[roX]) (cap:=0) h4 (by simp) fun j hj=>?_⟩
 ·rcases (show j=0∨j=1∨j=2 by simp [exP] at hj;omega) with rfl | rfl | rfl
  ·exact⟨h1.cell (i:=0) rfl,h1.cell (i:=1) rfl,h1.cell (i:=2) rfl,h1.cell (i:=3) rfl,h1.cell (i:=4) rfl⟩
  ·exact⟨h1.cell (i:=5) rfl,h1.cell (i:=6) rfl,h1.cell (i:=7) rfl,h1.cell (i:=8) rfl,h1.cell (i:=9) rfl⟩
  ·exact⟨h1.cell (i:=10) rfl,h1.cell (i:=11) rfl,h1.cell (i:=12) rfl,h1.cell (i:=13) rfl,h1.cell (i:=14) rfl⟩
 ·obtain rfl:j=0:=by simp at hj;omega
  exact⟨_,rfl,Z8.has (l:=roX) (cap:=0) h3 (by simp [roX]) rfl⟩
theorem Z4F (w:World):Calls Tryz.prog 13 #[] w fun e w'=>∃ a b d,e=.returned (.agg (Zc (exP hmA) (.slice (some ⟨a,0,none⟩) 3 3) (.slice (some ⟨b,0,none⟩) 4 4) (.slice (some ⟨d,0,none⟩) 1 1)))∧MsnAt w'.heap.size w' (exP hmA) (.slice (some ⟨a,0,none⟩) 3 3) (.slice (some ⟨b,0,none⟩) 4 4) (.slice (some ⟨d,0,none⟩) 1 1)∧Below w.heap.size w w':=by
 have f1:=Lib.hid (fun x y w1=>Z78 x y w1)
 have BW:=Lib.hid (Below.refl w.heap.size w);go_enter Tryz.func13,Tryz.ntmps13;go_wp2_with fail;generalize hXX0:World.alloc w _=X0;obtain⟨q0,hA,hzX0⟩:=box1 hXX0;clear hXX0;have BW:=Lib.hid hA;clear hA;have RV:=Lib.hid q0;clear q0;refine (f1.out (-100) (-100) X0).mono ?_;rintro e w1 ⟨rfl,b1⟩;replace BW:=zAi BW b1;have B_X0:=Lib.hid b1;clear b1;go_wp2_with fail;refine (f1.out 100 (-100) w1).mono ?_;rintro e w2 ⟨rfl,b2⟩;replace BW:=zAi BW b2;replace B_X0:=zAi B_X0 b2;clear b2;go_wp2_with fail;refine (f1.out 100 100 w2).mono ?_;rintro e w3 ⟨rfl,b3⟩;replace BW:=zAi BW b3;replace B_X0:=zAi B_X0 b3;clear b3;go_wp2_with fail;refine (f1.out (-100) 100 w3).mono ?_;rintro e w4 ⟨rfl,b4⟩;replace BW:=zAi BW b4;replace B_X0:=zAi B_X0 b4;clear b4;have nh:=Lib.hid (show w.heap.size<w4.heap.size by have:=B_X0.out.size;omega)
 go_upto_region 2 with fail
 generalize hXX1:World.alloc w4 _=X1;obtain⟨q0,hA,hzX1⟩:=box1 hXX1;clear hXX1;replace BW:=zAi BW hA;replace B_X0:=zAi B_X0 hA;clear hA;have HB:=Lib.hid q0;clear q0;go_wp2_with fail;refine (f1.out 185 90 X1).mono ?_;rintro e w5 ⟨rfl,b5⟩;replace BW:=zAi BW b5;replace B_X0:=zAi B_X0 b5;have B_X1:=Lib.hid b5;clear b5;go_wp2_with fail;refine (f1.out 190 15 w5).mono ?_;rintro e w6 ⟨rfl,b6⟩;replace BW:=zAi BW b6;replace B_X0:=zAi B_X0 b6;replace B_X1:=zAi B_X1 b6;clear b6;go_wp2_with fail;refine (f1.out 195 90 w6).mono ?_;rintro e w7 ⟨rfl,b7⟩;replace BW:=zAi BW b7;replace B_X0:=zAi B_X0 b7;replace B_X1:=zAi B_X1 b7;clear b7;have nk:=Lib.hid (show w.heap.size<w7.heap.size by have:=B_X0.out.size;omega)
 go_upto_region 3 with fail
 generalize hXX2:World.alloc w7 _=X2;obtain⟨q0,hA,hzX2⟩:=box1 hXX2;clear hXX2;replace BW:=zAi BW hA;replace B_X0:=zAi B_X0 hA;replace B_X1:=zAi B_X1 hA;clear hA;have KB:=Lib.hid q0;clear q0;go_wp2_with fail;refine (f1.out 100 0 X2).mono ?_;rintro e w8 ⟨rfl,b8⟩;replace BW:=zAi BW b8;replace B_X0:=zAi B_X0 b8;replace B_X1:=zAi B_X1 b8;have B_X2:=Lib.hid b8;clear b8;go_wp2_with fail;refine (f1.out 200 0 w8).mono ?_;rintro e w9 ⟨rfl,b9⟩;replace BW:=zAi BW b9;replace B_X0:=zAi B_X0 b9;replace B_X1:=zAi B_X1 b9;replace B_X2:=zAi B_X2 b9;clear b9 hzX1 hzX2;have hR:=(zCq RV B_X0);have ltR:=hR.lt;have HB9:=Lib.hid (zCq HB B_X1);have KB9:=Lib.hid (zCq KB B_X2);have r0:=hR.cell (i:=0) rfl;have z0:=Zf hR 0;have r1:=hR.cell (i:=1) rfl;have z1:=Zf hR 1;have r2:=hR.cell (i:=2) rfl;have z2:=Zf hR 2;have r3:=hR.cell (i:=3) rfl;have z3:=Zf hR 3;have r4:=hR.cell (i:=4) rfl;have z4:=Zf hR 4;have r5:=hR.cell (i:=5) rfl;have z5:=Zf hR 5;have r6:=hR.cell (i:=6) rfl;have z6:=Zf hR 6;have r7:=hR.cell (i:=7) rfl;have z7:=Zf hR 7;have r8:=hR.cell (i:=8) rfl;have z8:=Zf hR 8;have r9:=hR.cell (i:=9) rfl;have z9:=Zf hR 9;have r10:=hR.cell (i:=10) rfl;have z10:=Zf hR 10;have HR:=Lib.hid hR;clear hR;go_wp2;clear r0 z0 r1 z1 r2 z2 r3 z3 r4 z4 r5 z5 r6 z6 r7 z7 r8 z8 r9 z9 r10 z10;generalize hZ:World.setCell (World.setCell (World.setCell (World.setCell (World.setCell (World.setCell (World.setCell (World.setCell (World.setCell (World.setCell (World.setCell w9 _ _) _ _) _ _) _ _) _ _) _ _) _ _) _ _) _ _) _ _) _ _=Z;obtain⟨HZ,hl2,hs2,he2⟩:=set11 HR.out rfl hZ;clear hZ;generalize hX9:World.alloc (World.alloc Z _) _=X;obtain⟨q0,q1,hA,-⟩:=box2 hX9;clear hX9;have ltZ:w.heap.size<Z.heap.size:=HZ.lt;have hR:=HZ.below hA ltZ;have hH:=(Has.eq HB9.out he2 (by have:=nh.out;omega)).below hA (by rw [hs2];exact HB9.out.lt)
 have hK:=(Has.eq KB9.out he2 (by have:=nk.out;omega)).below hA (by rw [hs2];exact KB9.out.lt)
 have BX:=BW.out.trans ((hl2 w.heap.size (Nat.le_refl _)).trans (hA.mono (by omega)))
 rw [hs2] at q0 q1;have hM:=exP_at q0 hH hK q1;have r0:=hR.cell (i:=0) rfl;have r1:=hR.cell (i:=1) rfl;have r2:=hR.cell (i:=2) rfl;have r3:=hR.cell (i:=3) rfl;have r4:=hR.cell (i:=4) rfl;have r5:=hR.cell (i:=5) rfl;have r6:=hR.cell (i:=6) rfl;have r7:=hR.cell (i:=7) rfl;have r8:=hR.cell (i:=8) rfl;have r9:=hR.cell (i:=9) rfl;have r10:=hR.cell (i:=10) rfl;exact bodyPost_ret (v:=.agg (Zc (exP hmA) _ _ _)) (by simp [results,Zc,exP,Tryz.f13,go_sem,r0,r1,r2,r3,r4,r5,r6,r7,r8,r9,r10]) rfl ⟨_,_,_,rfl,hM,BX⟩
theorem Z4B {W:World} {B:Nat} {x:Int} {T:TypeId} (h:Has W B #[.int .i64 x] T):Z9 W.heap.size W (.slice (some ⟨B,0,none⟩) 1 1) [x]:=by
 refine⟨by simp,some ⟨B,0,none⟩,0,rfl,.inr ⟨B,0,rfl,h.lt,fun j hj=>?_⟩⟩
 obtain rfl:j=0:=by simp at hj;omega
 exact h.cell (i:=0) rfl
theorem Z7P (W:World) (a:Addr) (v:Value):W.grownBy (W.setCell a v) (some a.block):=⟨rfl,rfl,rfl,by simp [World.setCell],fun k _ hk=>Below.heap_setCell _ _ _ k (fun e=>hk (by rw [e]))⟩
theorem MsnAt.homeB {W:World} {vw vh vr vb:Value} (h:MsnAt W.heap.size W (exP hmA) vw vh vr) (hp:Z8 W.heap.size W vb hmB):MsnAt W.heap.size W (exP hmB) vw vb vr:=⟨h.1,hp,h.2.2⟩
theorem Z7N (w:World):Calls Tryz.prog 4 #[] w fun e w'=>e=.returned (.bool true)∧Below w.heap.size w w':=by
 have fx:=Lib.hid (fun w1=>Z4F w1)
 have fa:=Lib.hid (fun w1=>Z78 0 0 w1)
 have BW:=Lib.hid (Below.refl w.heap.size w);go_enter Tryz.func4,Tryz.ntmps4;go_wp2_with fail;refine (fx.out w).mono ?_;rintro e w1 ⟨a,b,d,rfl,hM,b1⟩;have BW:=Lib.hid b1;clear b1;have MM:=Lib.hid hM;clear hM;simp only [Zc,exP];have ltw1:=Lib.hid BW.out.size;go_wp2_with fail;generalize hXX1:World.alloc w1 _=X1;obtain⟨q0,hA,hzX1⟩:=box1 hXX1;clear hXX1;replace BW:=zAi BW hA;have B_w1:=Lib.hid hA;clear hA;have MB:=Lib.hid q0;clear q0 hzX1;obtain⟨c0,c1,c2,c3,c4,c5,c6,c7,c8,c9,c10⟩:=Zh (m:=exP hmA) MB.out;have ltMB:=MB.out.lt;have g1:=Z0r (exP hmA) _ _ _ (.slice none 0 0) [] X1 ((MM.out.below B_w1.out).mono B_w1.out.size) (Z9.nil _ _);rw [exA_0.1,exA_0.2.1,exA_0.2.2] at g1;refine (g1).mono ?_;rintro e w2 ⟨rfl,b2⟩;replace BW:=zAi BW b2;replace B_w1:=zAi B_w1 b2;have B_X1:=Lib.hid b2;clear b2 c0 c1 c2 c3 c4 c5 c6 c7 c8 c9 c10 ltMB;obtain⟨c0,c1,c2,c3,c4,c5,c6,c7,c8,c9,c10⟩:=Zh (m:=exP hmA) (zCq MB B_X1);have ltMB:=(zCq MB B_X1).lt;clear g1;go_wp2_with fail;generalize hXX2:World.alloc w2 _=X2;obtain⟨q0,hA,hzX2⟩:=box1 hXX2;clear hXX2;replace BW:=zAi BW hA;replace B_w1:=zAi B_w1 hA;replace B_X1:=zAi B_X1 hA;clear hA;have S1:=Lib.hid q0;clear q0 c0 c1 c2 c3 c4 c5 c6 c7 c8 c9 c10 ltMB;obtain⟨c0,c1,c2,c3,c4,c5,c6,c7,c8,c9,c10⟩:=Zh (m:=exP hmA) (zCq MB B_X1);have ltMB:=(zCq MB B_X1).lt;clear hzX2;have g2:=Z0r (exP hmA) _ _ _ _ [1] X2 ((MM.out.below B_w1.out).mono B_w1.out.size) (Z4B S1.out);rw [exA_1.1,exA_1.2.1,exA_1.2.2] at g2;refine (g2).mono ?_;rintro e w3 ⟨rfl,b3⟩;replace BW:=zAi BW b3;replace B_w1:=zAi B_w1 b3;replace B_X1:=zAi B_X1 b3;have B_X2:=Lib.hid b3;clear b3 c0 c1 c2 c3 c4 c5 c6 c7 c8 c9 c10 ltMB;obtain⟨c0,c1,c2,c3,c4,c5,c6,c7,c8,c9,c10⟩:=Zh (m:=exP hmA) (zCq MB B_X1);have ltMB:=(zCq MB B_X1).lt;clear g2 S1 B_X2;go_wp2_with fail;have g3:=Z2X (exP hmA) _ _ _ w3 ((MM.out.below B_w1.out).mono B_w1.out.size) (by rw [Z0c];decide)
 simp only [Z0q.1,Z0q.2.1,Z0q.2.2.1,Z0q.2.2.2.1,Z0q.2.2.2.2.1,Z0q.2.2.2.2.2] at g3;refine (g3).mono ?_;rintro e w4 ⟨v1,rfl,p1,b4,n1'⟩;replace BW:=zAi BW b4;replace B_w1:=zAi B_w1 b4;replace B_X1:=zAi B_X1 b4;clear b4;have PB:=Lib.hid p1;clear p1;obtain⟨-,ga3,gk3,hv3,-⟩:=PB.out;subst hv3;have NB:=Lib.hid (fun r e=>show w1.heap.size<r by have:=n1' r e;omega)
 clear n1' c0 c1 c2 c3 c4 c5 c6 c7 c8 c9 c10 ltMB;obtain⟨c0,c1,c2,c3,c4,c5,c6,c7,c8,c9,c10⟩:=Zh (m:=exP hmA) (zCq MB B_X1);have ltMB:=(zCq MB B_X1).lt;clear g3;go_wp2_with fail;have g4:=Z16 (exP hmA) _ _ _ w4 ((MM.out.below B_w1.out).mono B_w1.out.size) (by rw [Z0c];decide)
 simp only [Z0q.1,Z0q.2.1,Z0q.2.2.1,Z0q.2.2.2.1,Z0q.2.2.2.2.1,Z0q.2.2.2.2.2] at g4;refine (g4).mono ?_;rintro e w5 ⟨v2,rfl,p2,b5,-⟩;replace BW:=zAi BW b5;replace B_w1:=zAi B_w1 b5;replace B_X1:=zAi B_X1 b5;have B_w4:=Lib.hid b5;clear b5;have PR:=Lib.hid p2;clear p2;obtain⟨-,ga4,gk4,hv4,-⟩:=PR.out;subst hv4;clear c0 c1 c2 c3 c4 c5 c6 c7 c8 c9 c10 ltMB;obtain⟨c0,c1,c2,c3,c4,c5,c6,c7,c8,c9,c10⟩:=Zh (m:=exP hmA) (zCq MB B_X1);have ltMB:=(zCq MB B_X1).lt;clear g4;go_wp2_with fail;refine (fa.out w5).mono ?_;rintro e w6 ⟨rfl,b6⟩;replace BW:=zAi BW b6;replace B_w1:=zAi B_w1 b6;replace B_X1:=zAi B_X1 b6;replace B_w4:=zAi B_w4 b6;have B_w5:=Lib.hid b6;clear b6 c0 c1 c2 c3 c4 c5 c6 c7 c8 c9 c10 ltMB;obtain⟨c0,c1,c2,c3,c4,c5,c6,c7,c8,c9,c10⟩:=Zh (m:=exP hmA) (zCq MB B_X1);have ltMB:=(zCq MB B_X1).lt;have hMB:=(zCq MB B_X1);have l0:=hMB.cell (i:=1) rfl;have l1:=Zf hMB 1;have HMB:=Lib.hid hMB;have ltw:=hMB.lt;clear hMB;go_upto_region 7 with fail
 clear l0 l1 c0 c1 c2 c3 c4 c5 c6 c7 c8 c9 c10 ltMB;generalize hZ:World.setCell w6 _ _=Z;have HZ:=HMB.out.set 1 (.slice (some ⟨w6.heap.size,0,none⟩) 1 1);have BZ:=B_w1.out.setCell (p:=⟨w1.heap.size,1,none⟩) (Nat.le_refl _) (.slice (some ⟨w6.heap.size,0,none⟩) 1 1);have BZ0:=BW.out.setCell (p:=⟨w1.heap.size,1,none⟩) ltw1.out (.slice (some ⟨w6.heap.size,0,none⟩) 1 1);have PB2:=Z9.offG ((PB.out.below B_w4.out).mono B_w4.out.size) (Z7P w6 ⟨w1.heap.size,1,none⟩ (.slice (some ⟨w6.heap.size,0,none⟩) 1 1)) (fun r e=>.inr fun e2=>by cases e;exact absurd (NB.out _ e2) (Nat.lt_irrefl _))
 have SZ:Z.heap.size=w6.heap.size:=by rw [← hZ];simp
 rw [hZ] at HZ BZ BZ0 PB2;clear hZ;simp only [zq4,zr4,zs4] at HZ;generalize hY:World.alloc Z _=Y;obtain⟨q0,hA,hzY⟩:=box1 hY;clear hY hzY;rw [SZ] at q0;have BZY:=BZ.trans (hA.mono BZ.size);have M2:=Lib.hid (MsnAt.homeB ((MM.out.below BZY).mono BZY.size) (Z8.has (l:=hmB) (cap:=0) q0 (by simp [hmB]) rfl))
 have B2:=Lib.hid (HZ.below hA HZ.lt);have P2:=Lib.hid ((PB2.below hA).mono hA.size);replace BW:=Lib.hid (BZ0.trans (hA.mono BZ0.size));clear HZ BZ BZ0 PB2 SZ q0 hA BZY MM MB PB PR NB HMB B_w1 ltw;obtain⟨c0,c1,c2,c3,c4,c5,c6,c7,c8,c9,c10⟩:=Zh (m:=exP hmB) B2.out;have ltB2:=B2.out.lt;go_wp2_with fail;have g5:=Z2X (exP hmB) _ _ _ Y M2.out (by rw [Z0c];decide)
 simp only [Z0p.1,Z0p.2.1,Z0p.2.2.1,Z0p.2.2.2.1,Z0p.2.2.2.2.1,Z0p.2.2.2.2.2] at g5;refine (g5).mono ?_;rintro e w7 ⟨v3,rfl,p3,b7,-⟩;replace BW:=zAi BW b7;have B_Y:=Lib.hid b7;clear b7;have P3:=Lib.hid p3;clear p3;obtain⟨-,ga5,gk5,hv5,-⟩:=P3.out;subst hv5;clear c0 c1 c2 c3 c4 c5 c6 c7 c8 c9 c10 ltB2;obtain⟨c0,c1,c2,c3,c4,c5,c6,c7,c8,c9,c10⟩:=Zh (m:=exP hmB) (zCq B2 B_Y);have ltB2:=(zCq B2 B_Y).lt;clear g5;go_wp2_with fail;have g6:=Z16 (exP hmB) _ _ _ w7 ((M2.out.below B_Y.out).mono B_Y.out.size) (by rw [Z0c];decide)
 simp only [Z0p.1,Z0p.2.1,Z0p.2.2.1,Z0p.2.2.2.1,Z0p.2.2.2.2.1,Z0p.2.2.2.2.2] at g6;refine (g6).mono ?_;rintro e w8 ⟨v4,rfl,p4,b8,-⟩;replace BW:=zAi BW b8;replace B_Y:=zAi B_Y b8;have B_w7:=Lib.hid b8;clear b8;have P4:=Lib.hid p4;clear p4;obtain⟨-,ga6,gk6,hv6,-⟩:=P4.out;subst hv6;clear c0 c1 c2 c3 c4 c5 c6 c7 c8 c9 c10 ltB2;obtain⟨c0,c1,c2,c3,c4,c5,c6,c7,c8,c9,c10⟩:=Zh (m:=exP hmB) (zCq B2 B_Y);have ltB2:=(zCq B2 B_Y).lt;clear g6;go_wp2_with fail;have g7:=Z0r (exP hmB) _ _ _ (.slice none 0 0) [] w8 ((M2.out.below B_Y.out).mono B_Y.out.size) (Z9.nil _ _);rw [exB_0.1,exB_0.2.1,exB_0.2.2] at g7;refine (g7).mono ?_;rintro e w9 ⟨rfl,b9⟩;replace BW:=zAi BW b9;replace B_Y:=zAi B_Y b9;replace B_w7:=zAi B_w7 b9;have B_w8:=Lib.hid b9;clear b9 c0 c1 c2 c3 c4 c5 c6 c7 c8 c9 c10 ltB2;obtain⟨c0,c1,c2,c3,c4,c5,c6,c7,c8,c9,c10⟩:=Zh (m:=exP hmB) (zCq B2 B_Y);have ltB2:=(zCq B2 B_Y).lt;clear g7;go_wp2_with fail;generalize hXY2:World.alloc w9 _=Y2;obtain⟨q0,hA,hzY2⟩:=box1 hXY2;clear hXY2;replace BW:=zAi BW hA;replace B_Y:=zAi B_Y hA;replace B_w7:=zAi B_w7 hA;replace B_w8:=zAi B_w8 hA;clear hA;have S2:=Lib.hid q0;clear q0 c0 c1 c2 c3 c4 c5 c6 c7 c8 c9 c10 ltB2;obtain⟨c0,c1,c2,c3,c4,c5,c6,c7,c8,c9,c10⟩:=Zh (m:=exP hmB) (zCq B2 B_Y);have ltB2:=(zCq B2 B_Y).lt;clear hzY2;have g9:=Z0r (exP hmB) _ _ _ _ [2] Y2 ((M2.out.below B_Y.out).mono B_Y.out.size) (Z4B S2.out);rw [(exA_2 hmB Z0z).1,(exA_2 hmB Z0z).2.1,(exA_2 hmB Z0z).2.2] at g9;refine (g9).mono ?_;rintro e w10 ⟨rfl,b10⟩;replace BW:=zAi BW b10;replace B_Y:=zAi B_Y b10;replace B_w7:=zAi B_w7 b10;replace B_w8:=zAi B_w8 b10;have B_Y2:=Lib.hid b10;clear b10 c0 c1 c2 c3 c4 c5 c6 c7 c8 c9 c10 ltB2;obtain⟨c0,c1,c2,c3,c4,c5,c6,c7,c8,c9,c10⟩:=Zh (m:=exP hmB) (zCq B2 B_Y);have ltB2:=(zCq B2 B_Y).lt;clear g9 S2 B_Y2 c0 c1 c2 c3 c4 c5 c6 c7 c8 c9 c10 ltB2;go_wp2_with fail;generalize hXY3:World.alloc w10 _=Y3;obtain⟨q0,hA,hzY3⟩:=box1 hXY3;clear hXY3;replace BW:=zAi BW hA;replace B_Y:=zAi B_Y hA;replace B_w7:=zAi B_w7 hA;replace B_w8:=zAi B_w8 hA;clear hA;have S3:=Lib.hid q0;clear q0 hzY3;have g8:=Z29 _ _ [1] [1] Y3 ((P2.out.below B_Y.out).mono B_Y.out.size) (Z4B S3.out);rw [decide_eq_true rfl] at g8;refine (g8).mono ?_;rintro e w11 ⟨rfl,b11⟩;replace BW:=zAi BW b11;replace B_Y:=zAi B_Y b11;replace B_w7:=zAi B_w7 b11;replace B_w8:=zAi B_w8 b11;have B_Y3:=Lib.hid b11;clear b11 g8;go_wp2;go_ret;exact⟨rfl,BW.out⟩
end
noncomputable def ccB (m:Msn) (a:Nat) (u:Int) (b:Nat) (w:Int):Bool:=decide (corE (atW m a) u (atW m b) w=0) && clrB m a u b w
noncomputable def ccC (m:Msn) (a:Nat) (r:Int):Nat→Bool
 | 0=>true
 | j+1=>ccC m a r j && ccB m (itB m a j) (bkR m a r j) (itB m a (j+1)) (bkR m a r (j+1))
noncomputable def hwE (m:Msn) (a:Nat) (r:Int):Int:=if ccC m a r (dep m a)=false then 50 else if lieB m (bkR m a r (dep m a))=false then 52 else 0
section
variable (m:Msn) (R:List (List Pt)) (b d:Int)
end
section
variable {m:Msn} {R:List (List Pt)} {b d:Int}
def Fewer (R ls:List (List Pt)):Prop:=R.length≤ls.length∧∀ j,j<R.length→∃ i,i<ls.length∧rk R j=rk ls i
theorem Fewer.ok {ls:List (List Pt)} (h:Fewer R ls) (hv:rocksB ls=true):rocksB R=true:=by
 refine decide_eq_true fun j hj=>?_
 obtain⟨i,hi,e⟩:=h.2 j hj;rw [e];exact of_decide_eq_true hv i hi
variable (hF:Fewer R m.rocks) (V:VMsn m)
include hF V
omit hF V in
end
end Go.Proofs.YtcfkhkgldboddaaGreat
