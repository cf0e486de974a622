/- A struct stored into a variable's block, in a region that draws its order, and in a list. (No program here.) -/
import Derived.Test.YthipcinibldgnaaGreatBin06
import Derived.Test.YthipcinibldgnaaGreatBin04
namespace Go.Proofs.YthipcinibldgnaaGreat
open Go.RowKit
section
variable {P:Program} {ops:Array Oper}
theorem Z54 {i:Nat} {o:Oper} {a:Act} {w:World} {K:Act->World->Prop} (hi:ops[i]?=some o) (hw:Region.wanted o (yielded ops a.tmps)=true)
  {ty:TypeId} {x y:Operand} (ho:o.op=.store ty x y) {g:Nat} {cells old:Array Value} {t:TypeId} (hx:a.eval x=.pointer (some ⟨g,0,none⟩)) (hy:a.eval y=.agg cells)
  (hg:w.heap[g]?=some (.cells old t (0,0))) (hq:(P.info? ty).map (·.size)=some cells.size) (hold:old.size=cells.size) (h1:cells.all (·.oneCell')=true)
  (h:K (a.put o.dst undef) (w.setRow g cells)):okOp P ops i K a w:=by
 refine Z05 hi hw (w':=w.setRow g cells) ?_ h;unfold execOp;simp only [ho,hx,hy,Instr.storeAt,Instr.sureAddr,Sem.run_bind,Sem.run_pure,Result.andThen_ok,run_storeVar_row w g t ty old cells hg hq hold h1]
theorem ZF {F:Fence} {n:Nat} {rest:List Oper} {o:Oper} {a:Act} {w:World} {Q:Exit->Act->World->Prop} (hgd:o.guard=none) {ty:TypeId} {x y:Operand} (ho:o.op=.store ty x y)
  {g:Nat} {cells old:Array Value} {t:TypeId} (hx:a.eval x=.pointer (some ⟨g,0,none⟩)) (hy:a.eval y=.agg cells)
  (hg:w.heap[g]?=some (.cells old t (0,0))) (hq:(P.info? ty).map (·.size)=some cells.size) (hold:old.size=cells.size) (h1:cells.all (·.oneCell')=true)
  (h:wpListIn F n P ops Q rest (a.put o.dst undef) (w.setRow g cells)):wpListIn F n P ops Q (o::rest) a w :=
 wpListIn_plain hgd fun _ hK=>by
  unfold Oper.wpIn;rw [Oper.semAt_eq _ _ _ (by intro c h;rw [ho] at h;cases h)]
  refine⟨fun f hf=>by simp [Oper.about,ho] at hf,?_⟩
  unfold execOp;simp only [ho,hx,hy,Instr.storeAt,Instr.sureAddr,Sem.run_bind,Sem.run_pure,Result.andThen_ok,run_storeVar_row w g t ty old cells hg hq hold h1];exact hK _ _ h
end
theorem Has.set {W:World} {B:Nat} {cs:Array Value} {t:TypeId} (h:Has W B cs t) (i:Nat) (v:Value):Has (W.setCell ⟨B,i,none⟩ v) B (cs.setIfInBounds i v) t:=by
 obtain⟨a,b⟩:=Array.getElem?_eq_some_iff.1 h
 show (W.heap.modify B _)[B]?=_
 rw [Array.getElem?_eq_getElem (by rw [Array.size_modify];exact a),Array.getElem_modify_self,b]
 rfl
theorem Has.put {W:World} {B:Nat} {cs cells:Array Value} {t:TypeId} (h:Has W B cs t):Has (W.setRow B cells) B cells t:=setRow_heap W B cs cells t _ h
theorem Has.keep {W:World} {B C:Nat} {cs cells:Array Value} {t:TypeId} (h:Has W B cs t) (hne:B≠C):Has (W.setRow C cells) B cs t:=by
 have:(W.setRow C cells).heap[B]?=W.heap[B]?:=by
  unfold World.setRow;simp only [Array.getElem?_modify];rw [if_neg (by omega)]
 exact this.trans h
theorem Below.setRow {n:Nat} {W X:World} (h:Below n W X) {C:Nat} (hC:n<=C) (cells:Array Value):Below n W (X.setRow C cells) :=
 h.trans ⟨rfl,rfl,rfl,by simp [World.setRow],fun b hb=>by
  unfold World.setRow;simp only [Array.getElem?_modify];rw [if_neg (by omega)]⟩
end Go.Proofs.YthipcinibldgnaaGreat
