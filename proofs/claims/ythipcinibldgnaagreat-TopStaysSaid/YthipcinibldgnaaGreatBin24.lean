/- package cert: need, recovered. -/
import Derived.Recover
import Derived.Test.YthipcinibldgnaaGreatBin19
namespace Go.Proofs.YthipcinibldgnaaGreat
open Go.RowKit
attribute [local irreducible] wpQuiet
def brk (x:Int):PanicEntry:={ v:=.iface 195 (.agg #[.int .i64 x]),recovered:=false }
theorem Z3B (x:Int) (w:World):Calls Tryz.prog 96 #[.bool true,.int .i64 x] w fun e w'=>e=.returned (.tuple #[])/\w'=w:=by
 go_enter Tryz.func96,Tryz.ntmps96;go_wp2
 first | (go_end0;exact⟨rfl,rfl⟩) | (refine bodyPost_ret (results_none rfl _ _ _) rfl ?_;exact⟨rfl,rfl⟩)
theorem Z3C (x:Int) (w:World):Calls Tryz.prog 96 #[.bool false,.int .i64 x] w fun e w'=>e=.panicked [brk x]/\w'=w:=by
 go_enter Tryz.func96,Tryz.ntmps96;go_wp2
 first | exact⟨rfl,rfl,rfl⟩ | simp [bodyPost,brk]
set_option maxRecDepth 8000 in
theorem Z0h (p:Addr) (u:Value) (x:Int) (w:World) (hc:w.cell? p=some u) (hz:w.frozen? p=false) :
  CallsD Tryz.prog 95 #[.pointer (some p)] (.panicking [brk x]) w fun e u' w' =>
   e=.returned (.tuple #[])/\u'=.panicking [{ brk x with recovered:=true }]/\w'=(w.alloc (.cells #[.int .i64 x] 195)).setCell p (.int .i64 x):=by
 have d:=World.block_lt_of_cell? _ _ hc;have b:∀ o,(w.alloc o).cell? p=some u:=fun o=>(World.cell?_alloc_old w o p (by omega)).trans hc
 have a:∀ o,(w.alloc o).frozen? p=false:=fun o=>(World.frozen?_alloc_old w o p (by omega)).trans hz
 have c:∀ (T:TypeId) (w1:World),(Instr.typeAssert (.iface 195 (.agg #[.int .i64 x])) T 195 true).run Tryz.prog w1=.ok (.tuple #[.agg #[.int .i64 x],.bool true]) w1:=fun _ _=>by kernel_rfl
 refine callsD_of_wpS Tryz.func95 rfl fun c₀ cs hu=>?_
 unfold brk at hu;simp only [Tryz.ntmps95,List.size_toArray,List.length_cons,List.length_nil,Nat.reduceAdd,Nat.reduceSub,Array.replicate_succ,Array.replicate_zero,List.push_toArray,List.append_toArray,List.nil_append,List.cons_append]
 apply wpS_seq
 apply wpS_region
 simp [wpOpsS,go_sem,recoverD,hu,Exit.thenS];refine wpS_of_wp ?_;go_wp2;simp [bodyPostS,results,Tryz.results95,go_sem,brk]
set_option maxRecDepth 8000 in
theorem Z48 (p:Addr) (w:World) :
  CallsD Tryz.prog 95 #[.pointer (some p)] .returning w fun e u' w'=>e=.returned (.tuple #[])/\u'=.returning/\w'=w:=by
 refine callsD_of_wpS Tryz.func95 rfl fun c₀ cs hu=>?_
 simp only [Tryz.ntmps95,List.size_toArray,List.length_cons,List.length_nil,Nat.reduceAdd,Nat.reduceSub,Array.replicate_succ,Array.replicate_zero,List.push_toArray,List.append_toArray,List.nil_append,List.cons_append]
 apply wpS_seq
 apply wpS_region
 simp [wpOpsS,go_sem,recoverD,hu,Exit.thenS];refine wpS_of_wp ?_;go_wp2;cases c₀
 simp_all [bodyPostS,results,Tryz.results95,go_sem]
noncomputable def endX (x:Int):Ending:=if x=0 then .returned (.tuple #[]) else .panicked [brk x]
theorem Z6e:endX 0=.returned (.tuple #[]):=rfl
theorem Z3f {x:Int} (h:x≠0):endX x=.panicked [brk x]:=if_neg h
theorem Z4q {P:Program} {fn:Func} {R:Ending->World->Prop} {a:Act} {w:World} {x:List PanicEntry} (hd:a.defers=[]) (h:R (.panicked x) w):bodyPost P fn R (.panic x) a w:=⟨hd,h⟩
end Go.Proofs.YthipcinibldgnaaGreat
