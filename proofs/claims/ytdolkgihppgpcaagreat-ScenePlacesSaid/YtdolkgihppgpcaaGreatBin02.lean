/- Small words that all walks of this seat share. | Contracts of package hull: compare, isPlace, turn; and of cmp. | How lists of points lie in memory .. -/
import Derived.WalkKit
import Derived.WalkLawsBesides
import Derived.WalkSpells
import Derived.RegionTactic
import Derived.ChangeAlike
import Derived.Deep.QuietTactic
import Derived.BigQuiet
import Derived.Outline
import Derived.Deep.RegionHeld3
import Derived.Laws.EntriesVeiled
import Derived.Lib.Hide
import Derived.LoopTactic
import Derived.Test.YtdolkgihppgpcaaGreatRows
import Derived.Test.YtdolkgihppgpcaaGreatBin01
namespace Go.Proofs.YtdolkgihppgpcaaGreat
section
open Go.RowKit
theorem zB2 {n:Nat} {a b:World} (h:Below n a b:=by repeat (first | exact Below.refl _ _ | assumption | apply Below.drew | refine Below.setCell ?_ (by first | omega | (simp;done) | (simp;omega)) _ | refine Below.alloc ?_ (by first | omega | (simp;done) | (simp;omega)) _ | refine Below.call (by assumption) ?_ (by first | omega | (simp;done) | (simp;omega)))):Below n a b:=h
theorem zW2 {x:Int} (h:-9223372036854775808≤x∧x≤9223372036854775807:=by omega):IntKind.i64.wrap x=x:=IntWalk.i64_in x h
theorem Below.call {B:Nat} {a w w':World} (h2:Below w.heap.size w w') (h1:Below B a w) (hB:B≤w.heap.size):Below B a w':=h1.trans (h2.mono hB)
theorem bcell {W w1:World} (hb:Below W.heap.size W w1):(∀ b o,b<W.heap.size→w1.cell? ⟨b,o,none⟩=W.cell? ⟨b,o,none⟩)∧(∀ b o,b<W.heap.size→w1.frozen? ⟨b,o,none⟩=W.frozen? ⟨b,o,none⟩) :=
 ⟨fun b o h=>hb.cell (p:=⟨b,o,none⟩) h,fun b o h=>hb.frozen (p:=⟨b,o,none⟩) h⟩
theorem ZB {a b:Bool} (h:a=b):Ending.returned (.bool a)=.returned (.bool b):=by rw [h]
theorem Z3h (w:World) (row:Option Nat):w.grownBy w.drew row:=⟨rfl,rfl,rfl,Nat.le_refl _,fun _ _ _=>rfl⟩
def maxI4 (x y z t:Int):Int:=max (max x y) (max z t)
@[go_sem] theorem run_max_int4 {P : Program} (w : World) (ts : Array TypeId) (T : TypeId) (k1 k2 k3 k4 : IntKind) (x y z t : Int) :
  (Builtin.max_ ts T #[.int k1 x,.int k2 y,.int k3 z,.int k4 t]).run P w=.ok (.int k1 (maxI4 x y z t)) w:=by
 have e:maxI4 x y z t=(if t>(if z>(if y>x then y else x) then z else (if y>x then y else x)) then t else (if z>(if y>x then y else x) then z else (if y>x then y else x))):=by
  unfold maxI4;omega
 rw [e];simp [Builtin.max_,Builtin.max2]
theorem Z2A (a:Int) (w:World) :
  Calls Tryz.prog 136 #[.int .i64 a] w fun e w'=>e=.returned (.bool false)∧w=w':=by
 go_enter Tryz.func136,Tryz.ntmps136;go_wp2;go_ret;exact⟨rfl,rfl⟩
theorem Z0S (a b:Int) (w:World) :
  Calls Tryz.prog 120 #[.int .i64 a,.int .i64 b] w fun e w'=>e=.returned (.int .i64 (cmpI a b))∧w=w':=by
 rcases Int.lt_trichotomy a b with h | rfl | h
 ·rw [Zaf h]
  go_enter Tryz.func120,Tryz.ntmps120;go_wp2_with (go_at_call 136;refine (Z2A _ _).mono ?_;rintro e w' ⟨rfl,rfl⟩);go_ret;exact⟨rfl,rfl⟩
 ·rw [Zah]
  go_enter Tryz.func120,Tryz.ntmps120;go_wp2_with (go_at_call 136;refine (Z2A _ _).mono ?_;rintro e w' ⟨rfl,rfl⟩);go_ret;exact⟨rfl,rfl⟩
 ·rw [Zag h]
  go_enter Tryz.func120,Tryz.ntmps120;go_wp2_with (go_at_call 136;refine (Z2A _ _).mono ?_;rintro e w' ⟨rfl,rfl⟩);go_ret;exact⟨rfl,rfl⟩
theorem Z7m (b:Nat) (x y:Int) (w:World) (h0:w.cell? ⟨b,0,none⟩=some (.int .i64 x)) (h1:w.cell? ⟨b,1,none⟩=some (.int .i64 y)) :
  Calls Tryz.prog 119 #[.slice (some ⟨b,0,none⟩) 2 2] w fun e w'=>e=.returned (.int .i64 (orI x y))∧w=w':=by
 unfold orI;by_cases hx:x=0
 ·subst hx
  rw [if_pos rfl];by_cases hy:y=0
  ·subst hy
   go_enter Tryz.func119,Tryz.ntmps119;go_wp2;refine wp_loop_rounds 3 ?_;rw [rounds_succ];go_wp2;rw [rounds_succ];go_wp2;rw [rounds_succ];go_wp2;go_ret;exact⟨rfl,rfl⟩
  ·have d:(y != 0)=true:=by simp [hy]
   go_enter Tryz.func119,Tryz.ntmps119;go_wp2;refine wp_loop_rounds 2 ?_;rw [rounds_succ];go_wp2;rw [rounds_succ];go_wp2;go_ret;exact⟨rfl,rfl⟩
 ·have d:(x != 0)=true:=by simp [hx]
  rw [if_neg hx];go_enter Tryz.func119,Tryz.ntmps119;go_wp2;refine wp_loop_rounds 1 ?_;rw [rounds_succ];go_wp2;go_ret;exact⟨rfl,rfl⟩
theorem Z2M (ax ay bx by':Int) (w:World) :
  Calls Tryz.prog 96 #[.agg #[.int .i64 ax,.int .i64 ay],.agg #[.int .i64 bx,.int .i64 by']] w fun e w'=>e=.returned (.int .i64 (cmpV ax ay bx by'))∧Below w.heap.size w w':=by
 go_enter Tryz.func96,Tryz.ntmps96;go_wp2
 go_region_held3 (fun w'=>w'.cell? ⟨w.heap.size,0,none⟩=some (.int .i64 ax)∧w'.cell? ⟨w.heap.size,1,none⟩=some (.int .i64 ay)∧w'.cell? ⟨w.heap.size+1,0,none⟩=some (.int .i64 bx)∧w'.cell? ⟨w.heap.size+1,1,none⟩=some (.int .i64 by'))
  (go_keep)
  (first | (go_at_call 120;refine (Z0S _ _ _).mono ?_;rintro e w' ⟨rfl,rfl⟩) | (go_at_call 119;refine Calls.mono (Z7m (w.heap.size+1+1) (cmpI ax bx) (cmpI ay by') _ ?c0 ?c1) ?_;(case c0=>simp [go_sem]);(case c1=>simp [go_sem]);rintro e w' ⟨rfl,rfl⟩))
 all_goals go_wp2
 go_ret;exact⟨rfl,zB2⟩
theorem Z0W (ax ay bx by' cx cy:Int) (w:World) (a1:-1000000≤ax) (a2:ax≤1000000) (a3:-1000000≤ay) (a4:ay≤1000000)
  (b1:-1000000≤bx) (b2:bx≤1000000) (b3:-1000000≤by') (b4:by'≤1000000) (c1:-1000000≤cx) (c2:cx≤1000000) (c3:-1000000≤cy) (c4:cy≤1000000) :
  Calls Tryz.prog 49 #[.agg #[.int .i64 ax,.int .i64 ay],.agg #[.int .i64 bx,.int .i64 by'],.agg #[.int .i64 cx,.int .i64 cy]] w fun e w'=>e=.returned (.int .i64 (turnV ax ay bx by' cx cy))∧Below w.heap.size w w':=by
 have p:=Z00 (a:=bx-ax) (b:=cy-ay) (m:=2000000) (n:=2000000) (by omega) (by omega) (by omega) (by omega)
 have q:=Z00 (a:=by'-ay) (b:=cx-ax) (m:=2000000) (n:=2000000) (by omega) (by omega) (by omega) (by omega)
 have p':IntKind.i64.wrap ((bx-ax)*(cy-ay))=(bx-ax)*(cy-ay):=zW2;have q':IntKind.i64.wrap ((by'-ay)*(cx-ax))=(by'-ay)*(cx-ax):=zW2
 have r':IntKind.i64.wrap ((bx-ax)*(cy-ay)-(by'-ay)*(cx-ax))=(bx-ax)*(cy-ay)-(by'-ay)*(cx-ax):=zW2
 clear p q;unfold turnV;go_enter Tryz.func49,Tryz.ntmps49;go_wp2;go_ret;exact⟨rfl,zB2⟩
theorem Z1e (x y : Int) (w : World) :
  Calls Tryz.prog 47 #[.agg #[.int .i64 x,.int .i64 y]] w fun e w'=>e=.returned (.bool (placeB x y))∧Below w.heap.size w w':=by
 cases h:placeB x y
 ·have h':=Z4e h
  clear h;rcases Int.lt_or_le y x with hxy | hxy
  ·by_cases hm:maxI4 x (wrap64 (-x)) y (wrap64 (-y))≤500000
   ·have d1:decide (maxI4 x (wrap64 (-x)) y (wrap64 (-y))≤500000)=true:=by simpa using hm
    have hb:x≤500000∧y≤500000:=by unfold maxI4 at hm;omega
    have d3:decide (-500000≤y)=false:=by simp;omega
    clear h' hb hm;go_enter Tryz.func47,Tryz.ntmps47;go_wp2
    all_goals
     go_ret;exact⟨rfl,zB2⟩
   ·have d1:decide (maxI4 x (wrap64 (-x)) y (wrap64 (-y))≤500000)=false:=by simpa using hm
    clear h' hm;go_enter Tryz.func47,Tryz.ntmps47;go_wp2
    all_goals
     go_ret;exact⟨rfl,zB2⟩
  ·by_cases hm:maxI4 x (wrap64 (-x)) y (wrap64 (-y))≤500000
   ·have d1:decide (maxI4 x (wrap64 (-x)) y (wrap64 (-y))≤500000)=true:=by simpa using hm
    have hb:x≤500000∧y≤500000:=by unfold maxI4 at hm;omega
    have d3:decide (-500000≤x)=false:=by simp;omega
    clear h' hb hm;go_enter Tryz.func47,Tryz.ntmps47;go_wp2
    all_goals
     go_ret;exact⟨rfl,zB2⟩
   ·have d1:decide (maxI4 x (wrap64 (-x)) y (wrap64 (-y))≤500000)=false:=by simpa using hm
    clear h' hm;go_enter Tryz.func47,Tryz.ntmps47;go_wp2
    all_goals
     go_ret;exact⟨rfl,zB2⟩
 ·obtain⟨h1,h2,h3,h4⟩:=Zu h
  clear h;have d1:decide (maxI4 x (-x) y (-y)≤500000)=true:=by simp [maxI4];omega
  go_enter Tryz.func47,Tryz.ntmps47;go_wp2
  all_goals
   go_ret;exact⟨rfl,zB2⟩
theorem Z1K (x y:Int) (w:World) (h:placeB x y=false) :
  Calls Tryz.prog 47 #[.agg #[.int .i64 x,.int .i64 y]] w fun e w'=>e=.returned (.bool false)∧Below w.heap.size w w':=by
 rw [← h];exact Z1e x y w
theorem Z0a (x y:Int) (w:World) (h:placeB x y=true) :
  Calls Tryz.prog 47 #[.agg #[.int .i64 x,.int .i64 y]] w fun e w'=>e=.returned (.bool true)∧Below w.heap.size w w':=by
 rw [← h];exact Z1e x y w
def Z8 (n0 : Nat) (W : World) (v : Value) (l : List Pt) : Prop :=
 l.length≤70368744177663∧∃ a cap,v=.slice a l.length (l.length+cap)∧(l=[]∨∃ b o,a=some ⟨b,o,none⟩∧b<n0 ∧
  ∀ j,j<l.length→W.cell? ⟨b,o+j*2,none⟩=some (.int .i64 (nth l j).x)∧W.cell? ⟨b,o+j*2+1,none⟩=some (.int .i64 (nth l j).y))
theorem Z8.below {n0:Nat} {A B:World} (h:Below n0 A B) {v:Value} {l:List Pt} (hp:Z8 n0 A v l):Z8 n0 B v l:=by
 obtain⟨hl,a,cap,e,hc⟩:=hp;refine⟨hl,a,cap,e,hc.imp id ?_⟩;rintro ⟨b,o,e1,hb,hc⟩;exact⟨b,o,e1,hb,fun j hj=>⟨(h.cell (p:=⟨b,o+j*2,none⟩) hb).trans (hc j hj).1,(h.cell (p:=⟨b,o+j*2+1,none⟩) hb).trans (hc j hj).2⟩⟩
theorem Z8.mono {n0 n1:Nat} {W:World} {v:Value} {l:List Pt} (hp:Z8 n0 W v l) (h:n0≤n1):Z8 n1 W v l:=by
 obtain⟨hl,a,cap,e,hc⟩:=hp;refine⟨hl,a,cap,e,hc.imp id ?_⟩;rintro ⟨b,o,e1,hb,hc⟩;exact⟨b,o,e1,by omega,hc⟩
def allPl (l:List Pt):Bool:=decide (∀ j,j<l.length→Z4 (nth l j)=true)
def NewI (base:Nat) (v:Value):Prop:=∀ b o n c,v=.slice (some ⟨b,o,none⟩) n c→base≤b
theorem NewI.mono {a b:Nat} {v:Value} (h:NewI a v) (hab:b≤a):NewI b v:=fun x o n c e=>Nat.le_trans hab (h x o n c e)
theorem NewI.nil (a:Nat):NewI a (.slice none 0 0):=fun _ _ _ _ e=>by cases e
structure Wy where
 x:Int
 y:Int
 fix:Int
 wait:Int
 back:Int
deriving DecidableEq
structure Msn where
 ways:List Wy
 home:List Pt
 start:Int
 rocks:List (List Pt)
 speed:Int
 part:Int
 flow:Int
 idle:Int
 drive:Int
 battery:Int
 deadline:Int
def wy (l:List Wy) (i:Nat):Wy:=l.getD i ⟨0,0,0,0,0⟩
def rk (l:List (List Pt)) (i:Nat):List Pt:=l.getD i []
def wyVal (a:Wy):Value:=.agg #[.int .i64 a.x,.int .i64 a.y,.int .i64 a.fix,.int .i64 a.wait,.int .i64 a.back]
def WaysAt (n0 : Nat) (W : World) (v : Value) (l : List Wy) : Prop :=
 l.length≤70368744177663∧∃ a cap,v=.slice a l.length (l.length+cap)∧(l=[]∨∃ b o,a=some ⟨b,o,none⟩∧b<n0 ∧
  ∀ j, j < l.length → W.cell? ⟨b, o + j * 5, none⟩ = some (.int .i64 (wy l j).x) ∧ W.cell? ⟨b, o + j * 5 + 1, none⟩ = some (.int .i64 (wy l j).y) ∧
   W.cell? ⟨b,o+j*5+2,none⟩=some (.int .i64 (wy l j).fix)∧W.cell? ⟨b,o+j*5+3,none⟩=some (.int .i64 (wy l j).wait)∧W.cell? ⟨b,o+j*5+4,none⟩=some (.int .i64 (wy l j).back))
theorem WaysAt.below {n0:Nat} {A B:World} (h:Below n0 A B) {v:Value} {l:List Wy} (hp:WaysAt n0 A v l):WaysAt n0 B v l:=by
 obtain⟨hl,a,cap,e,hc⟩:=hp;refine⟨hl,a,cap,e,hc.imp id ?_⟩;rintro ⟨b,o,e1,hb,hc⟩;refine⟨b,o,e1,hb,fun j hj=>?_⟩
 obtain⟨c0,c1,c2,c3,c4⟩:=hc j hj;exact⟨(h.cell (p:=⟨b,o+j*5,none⟩) hb).trans c0,(h.cell (p:=⟨b,o+j*5+1,none⟩) hb).trans c1,(h.cell (p:=⟨b,o+j*5+2,none⟩) hb).trans c2,
  (h.cell (p:=⟨b,o+j*5+3,none⟩) hb).trans c3,(h.cell (p:=⟨b,o+j*5+4,none⟩) hb).trans c4⟩
theorem WaysAt.mono {n0 n1:Nat} {W:World} {v:Value} {l:List Wy} (hp:WaysAt n0 W v l) (h:n0≤n1):WaysAt n1 W v l:=by
 obtain⟨hl,a,cap,e,hc⟩:=hp;refine⟨hl,a,cap,e,hc.imp id ?_⟩;rintro ⟨b,o,e1,hb,hc⟩;exact⟨b,o,e1,by omega,hc⟩
def Z7 (n0 : Nat) (W : World) (v : Value) (l : List (List Pt)) : Prop :=
 l.length≤70368744177663∧∃ a cap,v=.slice a l.length (l.length+cap)∧(l=[]∨∃ b o,a=some ⟨b,o,none⟩∧b<n0 ∧
  ∀ j,j<l.length→∃ u,W.cell? ⟨b,o+j,none⟩=some u∧Z8 n0 W u (rk l j))
theorem Z7.below {n0:Nat} {A B:World} (h:Below n0 A B) {v:Value} {l:List (List Pt)} (hp:Z7 n0 A v l):Z7 n0 B v l:=by
 obtain⟨hl,a,cap,e,hc⟩:=hp;refine⟨hl,a,cap,e,hc.imp id ?_⟩;rintro ⟨b,o,e1,hb,hc⟩;refine⟨b,o,e1,hb,fun j hj=>?_⟩
 obtain⟨u,hu,hpu⟩:=hc j hj;exact⟨u,(h.cell (p:=⟨b,o+j,none⟩) hb).trans hu,hpu.below h⟩
theorem Z7.mono {n0 n1:Nat} {W:World} {v:Value} {l:List (List Pt)} (hp:Z7 n0 W v l) (h:n0≤n1):Z7 n1 W v l:=by
 obtain⟨hl,a,cap,e,hc⟩:=hp;refine⟨hl,a,cap,e,hc.imp id ?_⟩;rintro ⟨b,o,e1,hb,hc⟩;refine⟨b,o,e1,by omega,fun j hj=>?_⟩
 obtain⟨u,hu,hpu⟩:=hc j hj;exact⟨u,hu,hpu.mono h⟩
def Zc (m:Msn) (vw vh vr:Value):Array Value :=
 #[vw,vh,.int .i64 m.start,vr,.int .i64 m.speed,.int .i64 m.part,.int .i64 m.flow,.int .i64 m.idle,.int .i64 m.drive,.int .i64 m.battery,.int .i64 m.deadline]
def MsnAt (n0:Nat) (W:World) (m:Msn) (vw vh vr:Value):Prop:=WaysAt n0 W vw m.ways∧Z8 n0 W vh m.home∧Z7 n0 W vr m.rocks
theorem MsnAt.below {n0:Nat} {A B:World} (h:Below n0 A B) {m:Msn} {vw vh vr:Value} (hp:MsnAt n0 A m vw vh vr):MsnAt n0 B m vw vh vr :=
 ⟨hp.1.below h,hp.2.1.below h,hp.2.2.below h⟩
theorem MsnAt.mono {n0 n1:Nat} {W:World} {m:Msn} {vw vh vr:Value} (hp:MsnAt n0 W m vw vh vr) (h:n0≤n1):MsnAt n1 W m vw vh vr :=
 ⟨hp.1.mono h,hp.2.1.mono h,hp.2.2.mono h⟩
def wayB (k:Nat) (a:Wy):Bool:=decide (-300000≤a.x∧a.x≤300000∧-300000≤a.y∧a.y≤300000∧0≤a.fix∧a.fix≤100000∧0≤a.wait∧a.wait≤100000∧(0<a.fix∨a.wait=0)∧0≤a.back∧a.back≤((k-1:Nat):Int))
theorem ZR {k:Nat} {a:Wy} (h:wayB k a=true):-300000≤a.x∧a.x≤300000∧-300000≤a.y∧a.y≤300000∧0≤a.fix∧a.fix≤100000∧0≤a.wait∧a.wait≤100000∧(0<a.fix∨a.wait=0)∧0≤a.back∧a.back≤((k-1:Nat):Int):=by
 simpa [wayB] using h
theorem Z6A (n:Int) (w:World) (h1:-1000000000000≤n) (h2:n≤1000000000000) :
  Calls Tryz.prog 147 #[.int .i64 n] w fun e w'=>e=.returned (.bool true)∧w=w':=by
 go_enter Tryz.func147,Tryz.ntmps147;go_wp2;go_ret;exact⟨rfl,rfl⟩
theorem Z7G (n:Int) (w:World) (h:n < -1000000000000∨1000000000000<n) :
  Calls Tryz.prog 147 #[.int .i64 n] w fun e w'=>e=.returned (.bool false)∧w=w':=by
 rcases h with h | h
 ·have hd:decide (-1000000000000≤n)=false:=by simp;omega
  go_enter Tryz.func147,Tryz.ntmps147;go_wp2;go_ret;exact⟨rfl,rfl⟩
 ·have hd1:decide (-1000000000000≤n)=true:=by simp;omega
  have hd:decide (n≤1000000000000)=false:=by simp;omega
  go_enter Tryz.func147,Tryz.ntmps147;go_wp2;go_ret;exact⟨rfl,rfl⟩
theorem Z3d (n:Int) (w:World) :
  Calls Tryz.prog 147 #[.int .i64 n] w fun e w'=>e=.returned (.bool (wideB n))∧w=w':=by
 cases h:wideB n
 ·exact Z7G n w (Z4P h)
 ·exact Z6A n w (Z0V h).1 (Z0V h).2
theorem Z5q (a b q r q' r':Int) (w:World) (hq:IntKind.i64.wrap (a.tdiv b)=q) (hr:a.tmod b=r) (h5:¬ b=0)
  (q1:-1000000000000000000≤q) (q2:q≤1000000000000000000) (r1:-1000000000000<r) (r2:r<1000000000000) (h3:-1000000000000≤b) (h4:b≤1000000000000)
  (hc:(r=0∨(r<0∧b<0)∨(0<r∧0<b))∧q=q'∧r=r'∨((r<0∧0<b)∨(0<r∧b<0))∧q-1=q'∧r+b=r') :
  Calls Tryz.prog 148 #[.int .i64 a,.int .i64 b] w fun e w'=>e=.returned (.agg #[.int .i64 q',.int .i64 r'])∧Below w.heap.size w w':=by
 rcases hc with⟨h | ⟨ha,hb⟩ | ⟨ha,hb⟩,e1,e2⟩ | ⟨⟨ha,hb⟩ | ⟨ha,hb⟩,e1,e2⟩
 ·subst h e1 e2
  go_enter Tryz.func148,Tryz.ntmps148;go_wp2
  go_region
  all_goals go_wp2
  exact bodyPost_ret (v:=.agg #[.int .i64 _,.int .i64 _]) (by simp [results,Tryz.results148,go_sem]) rfl ⟨rfl,zB2⟩
 ·subst e1 e2
  have d1:(r != 0)=true:=by rw [bne_iff_ne];omega
  have d2:decide (r<0)=true:=by simp;omega
  have d3:decide (b<0)=true:=by simp;omega
  go_enter Tryz.func148,Tryz.ntmps148;go_wp2
  go_region
  all_goals go_wp2
  exact bodyPost_ret (v:=.agg #[.int .i64 _,.int .i64 _]) (by simp [results,Tryz.results148,go_sem]) rfl ⟨rfl,zB2⟩
 ·subst e1 e2
  have d1:(r != 0)=true:=by rw [bne_iff_ne];omega
  have d2:decide (r<0)=false:=by simp;omega
  have d3:decide (b<0)=false:=by simp;omega
  go_enter Tryz.func148,Tryz.ntmps148;go_wp2
  go_region
  all_goals go_wp2
  exact bodyPost_ret (v:=.agg #[.int .i64 _,.int .i64 _]) (by simp [results,Tryz.results148,go_sem]) rfl ⟨rfl,zB2⟩
 ·subst e1 e2
  have d1:(r != 0)=true:=by rw [bne_iff_ne];omega
  have d2:decide (r<0)=true:=by simp;omega
  have d3:decide (b<0)=false:=by simp;omega
  go_enter Tryz.func148,Tryz.ntmps148;go_wp2
  go_region
  all_goals go_wp2
  exact bodyPost_ret (v:=.agg #[.int .i64 _,.int .i64 _]) (by simp [results,Tryz.results148,go_sem]) rfl ⟨rfl,zB2⟩
 ·subst e1 e2
  have d1:(r != 0)=true:=by rw [bne_iff_ne];omega
  have d2:decide (r<0)=false:=by simp;omega
  have d3:decide (b<0)=true:=by simp;omega
  go_enter Tryz.func148,Tryz.ntmps148;go_wp2
  go_region
  all_goals go_wp2
  exact bodyPost_ret (v:=.agg #[.int .i64 _,.int .i64 _]) (by simp [results,Tryz.results148,go_sem]) rfl ⟨rfl,zB2⟩
theorem Z6I (a b:Int) (w:World) (h1:-1000000000000000000≤a) (h2:a≤1000000000000000000) (h3:-1000000000000≤b) (h4:b≤1000000000000) (h5:¬ b=0) :
  Calls Tryz.prog 148 #[.int .i64 a,.int .i64 b] w fun e w'=>e=.returned (.agg #[.int .i64 (a.fdiv b),.int .i64 (a.fmod b)])∧Below w.heap.size w w':=by
 have d:=Z4S a b h1 h2;have m:=Z9J a b h3 h4 h5;exact Z5q a b _ _ _ _ w (zW2) rfl h5 d.1 d.2 m.1 m.2 h3 h4 (Z16 a b h5)
theorem up_any (q r:Int) (w:World) (h1:-1000000000000000001≤q) (h2:q≤1000000000000000000) :
  Calls Tryz.prog 138 #[.agg #[.int .i64 q,.int .i64 r]] w fun e w'=>e=.returned (.int .i64 (upV q r))∧w.alloc (.cells #[.int .i64 q,.int .i64 r] 193)=w':=by
 by_cases hr:r=0
 ·subst hr
  have ev:upV q 0=q:=rfl;rw [ev];go_enter Tryz.func138,Tryz.ntmps138;go_wp2;go_ret;exact⟨rfl,rfl⟩
 ·have d1:(r == 0)=false:=by simp [hr]
  have ev:upV q r=q+1:=by simp [upV,hr]
  rw [ev];clear ev;go_enter Tryz.func138,Tryz.ntmps138;go_wp2;go_ret;exact⟨rfl,rfl⟩
def badQ (a b:Int):Bool:=!wideB a || !wideB b || decide (b=0)
theorem Z6X {a b:Int} (h:badQ a b=false):wideB a=true∧wideB b=true∧(b == 0)=false:=by
 simp [badQ] at h;simp [h]
theorem Z8w {a b:Int} (h:badQ a b=true):wideB a=false∨wideB a=true∧(wideB b=false∨wideB b=true∧(b == 0)=true):=by
 cases h1:wideB a <;> cases h2:wideB b <;> simp [badQ,h1,h2] at h ⊢;exact h
def ceilV (a b:Int):Int:=if badQ a b=true then 0 else cdiv a b
def quoE (a b:Int):Int:=if badQ a b=true then 1 else 0
theorem Z5w (a b:Int) (f:Value) (w:World) (h:badQ a b=true) :
  Calls Tryz.prog 137 #[.int .i64 a,.int .i64 b,f] w fun e w'=>e=.returned (.tuple #[.int .i64 0,.int .i64 1])∧w=w':=by
 rcases Z8w h with ha | ⟨ha,hb | ⟨hb,hc⟩⟩
 all_goals
  clear h;go_enter Tryz.func137,Tryz.ntmps137;go_wp2_with (go_at_call 147;refine (Z3d _ _).mono ?_;rintro e w' ⟨rfl,rfl⟩);go_ret2;exact⟨rfl,rfl⟩
theorem Z9q (a b:Int) (w:World) :
  Calls Tryz.prog 122 #[.int .i64 a,.int .i64 b] w fun e w'=>e=.returned (.tuple #[.int .i64 (ceilV a b),.int .i64 (quoE a b)])∧Below w.heap.size w w':=by
 cases h:badQ a b
 ·have ev:ceilV a b=upV (a.fdiv b) (a.fmod b):=by simp [ceilV,cdiv,h]
  have ee:quoE a b=0:=by simp [quoE,h]
  rw [ev,ee];clear ev ee;obtain⟨ha,hb,hc⟩:=Z6X h;clear h;have ba:=Z0V ha;have bb:=Z0V hb;have hc':¬ b=0:=by simpa using hc
  have fb:=Za9 a b (by omega) (by omega) hc'
  go_enter Tryz.func122,Tryz.ntmps122;go_wp2_with (first | (go_at_call 147;refine (Z3d _ _).mono ?_;rintro e w' ⟨rfl,rfl⟩) | (go_at_call 148;refine (Z6I _ _ _ (by omega) (by omega) (by omega) (by omega) hc').mono ?_;rintro e w1 ⟨rfl,hb1⟩;have hz1:=hb1.size;try simp at hz1) | (go_at_call 138;refine (up_any _ _ _ (by omega) (by omega)).mono ?_;rintro e w' ⟨rfl,rfl⟩) | go_in)
  go_ret2;exact⟨rfl,zB2⟩
 ·have ev:ceilV a b=0:=by simp [ceilV,h]
  have ee:quoE a b=1:=by simp [quoE,h]
  rw [ev,ee];clear ev ee;go_enter Tryz.func122,Tryz.ntmps122;go_wp2_with (go_at_call 137;refine (Z5w _ _ _ _ h).mono ?_;rintro e w' ⟨rfl,rfl⟩);go_ret2;exact⟨rfl,Below.refl _ _⟩
theorem Z5A (k : Nat) : ∀ (lo hi : Int) (n : Int) (an af : Addr) (w : World),
  w.cell? an=some (.int .i64 n)→w.cell? af=some (.func (.func 121) #[] #[.pointer (some an),.pointer (some af)]) →
  0≤lo→hi≤1000000001→lo<hi→hi-lo≤k→lo*lo≤n→n<hi*hi →
  Calls Tryz.prog 121 #[.int .i64 lo,.int .i64 hi,.pointer (some an),.pointer (some af)] w fun e w'=>e=.returned (.int .i64 (isqrt n.toNat))∧w=w':=by
 induction k with
 | zero=>intro lo hi n an af w _ _ _ _ _ h5;omega
 | succ k ih =>
  intro lo hi n an af w c1 c2 h1 h2 h3 h4 h5 h6;have IH:=Lib.hid ih;clear ih;by_cases h:hi-lo=1
  ·have hr:isqrt n.toNat=lo.toNat:=by
    obtain rfl:hi=lo+1:=by omega
    have hn:0≤n:=by have:=Int.mul_nonneg h1 h1;omega
    apply Z4r
    ·have:((lo.toNat*lo.toNat:Nat):Int)≤(n.toNat:Int):=by
      rw [Int.natCast_mul,Int.toNat_of_nonneg h1,Int.toNat_of_nonneg hn];exact h5
     exact Int.ofNat_le.1 this
    ·have:(n.toNat:Int)<(((lo.toNat+1)*(lo.toNat+1):Nat):Int):=by
      rw [Int.natCast_mul,Int.natCast_add,Int.toNat_of_nonneg h1,Int.toNat_of_nonneg hn];exact h6
     exact Int.ofNat_lt.1 this
   have hd:(hi-lo == 1)=true:=by simp [h]
   have e1:((isqrt n.toNat:Nat):Int)=lo:=by omega
   rw [e1];clear e1 hr h5 h6 h;go_enter Tryz.func121,Tryz.ntmps121;go_wp2;go_ret;exact⟨rfl,rfl⟩
  ·have hd:(hi-lo == 1)=false:=by simp [h]
   obtain⟨m,hm⟩:∃ m,lo+(hi-lo) / 2=m:=⟨_,rfl⟩;have m1:lo<m:=by omega
   have m2:m<hi:=by omega
   have q1:0≤m*m:=Int.mul_nonneg (by omega) (by omega)
   have q2:m*m≤1000000001000000001:=by
    have x:=Int.mul_le_mul (show m≤1000000000 by omega) (show m≤1000000000 by omega) (by omega) (by omega)
    omega
   have hw:IntKind.i64.wrap (m*m)=m*m:=zW2;have H5:=Lib.hid h5;have H6:=Lib.hid h6;clear h h5 h6;by_cases hc:n<m*m
   ·have hcd:decide (n<m*m)=true:=by simp [hc]
    have HC:=Lib.hid hc;clear hc;go_enter Tryz.func121,Tryz.ntmps121;go_wp2_with fail;refine (IH.out _ _ _ _ _ _ c1 c2 h1 (by omega) m1 (by omega) H5.out HC.out).mono ?_
    rintro e w' ⟨rfl,rfl⟩;go_wp2;go_ret;exact⟨rfl,rfl⟩
   ·have hcd:decide (n<m*m)=false:=by simpa using hc
    have HC:=Lib.hid (show m*m≤n by omega)
    clear hc;go_enter Tryz.func121,Tryz.ntmps121;go_wp2_with fail;refine (IH.out _ _ _ _ _ _ c1 c2 (by omega) h2 m2 (by omega) HC.out H6.out).mono ?_
    rintro e w' ⟨rfl,rfl⟩;go_wp2;go_ret;exact⟨rfl,rfl⟩
def badN (n:Int):Bool:=decide (n<0) || decide (1000000000000000000<n)
def rootV (n:Int):Int:=if badN n=true then 0 else isqrt n.toNat
def rootE (n:Int):Int:=if badN n=true then 1 else 0
theorem Z28 (n:Int) (w:World) :
  Calls Tryz.prog 101 #[.int .i64 n] w fun e w'=>e=.returned (.tuple #[.int .i64 (rootV n),.int .i64 (rootE n)])∧Below w.heap.size w w':=by
 cases h:badN n
 ·have e1:rootV n=isqrt n.toNat:=by simp [rootV,h]
  have e2:rootE n=0:=by simp [rootE,h]
  rw [e1,e2];clear e1 e2;have h':0≤n∧n≤1000000000000000000:=by simp [badN] at h;omega
  clear h;obtain⟨h1,h2⟩:=h';have d1:decide (n<0)=false:=by simp;omega
  have d2:decide (1000000000000000000<n)=false:=by simp;omega
  go_enter Tryz.func101,Tryz.ntmps101;go_wp2_with (first | (go_at_call 121;refine (Z5A 1000000001 _ _ n ⟨w.heap.size,0,none⟩ ⟨w.heap.size+1,0,none⟩ _ (by simp) (by simp) (by omega) (by omega) (by omega) (by omega) (by omega) (by omega)).mono ?_;rintro e w' ⟨rfl,rfl⟩))
  go_ret2;exact⟨rfl,zB2⟩
 ·have e1:rootV n=0:=by simp [rootV,h]
  have e2:rootE n=1:=by simp [rootE,h]
  rw [e1,e2];clear e1 e2;have h':n<0∨0≤n∧1000000000000000000<n:=by simp [badN] at h;omega
  clear h;rcases h' with h1 | ⟨h1,h2⟩
  all_goals
   go_enter Tryz.func101,Tryz.ntmps101;go_wp2;go_ret2;exact⟨rfl,zB2⟩
end
def rootUp (s:Int):Int:=if (isqrt s.toNat:Int)*isqrt s.toNat<s then (isqrt s.toNat:Int)+1 else isqrt s.toNat
def distV (ax ay bx by':Int):Int:=rootUp ((ax-bx)*(ax-bx)+(ay-by')*(ay-by'))
def lastsV (speed n:Int):Int:=cdiv (100*n) speed
def growthV (speed part flow n:Int):Int:=cdiv (n*part) 1000+cdiv (lastsV speed n*flow) 100
theorem Z2q {s:Int} (h:0≤s):0≤rootUp s∧s≤rootUp s*rootUp s∧(∀ r:Int,0≤r→s≤r*r→rootUp s≤r):=by
 have ⟨h1,h2⟩:=Z03 s.toNat;have e:(s.toNat:Int)=s:=by omega
 have h1':(isqrt s.toNat:Int)*isqrt s.toNat≤s:=by rw [← e];exact_mod_cast h1
 have h2':s<((isqrt s.toNat:Int)+1)*((isqrt s.toNat:Int)+1):=by rw [← e];exact_mod_cast h2
 unfold rootUp;generalize hr:(isqrt s.toNat:Int)=r at *;have r0:0≤r:=by omega
 split
 ·rename_i hlt
  refine⟨by omega,by omega,fun q hq hs=>?_⟩
  rcases Int.lt_or_le r q with h | h
  ·omega
  ·have:=Int.mul_le_mul h h hq r0;omega
 ·rename_i hlt
  refine⟨r0,by omega,fun q hq hs=>?_⟩
  rcases Int.lt_or_le q r with h | h
  ·have:=Int.mul_le_mul (show q+1≤r by omega) (show q+1≤r by omega) (by omega) r0
   have e2:(q+1)*(q+1)=q*q+2*q+1:=by rw [Int.add_mul,Int.mul_add];omega
   omega
  ·exact h
theorem Z2e {m n:Nat} (h:m≤n*n):isqrt m≤n:=by
 have ⟨h1,_⟩:=Z03 m;have:=sq_lt (a:=isqrt m) (b:=n+1) (by rw [Nat.add_mul,Nat.mul_add];omega)
 omega
theorem sq_bd {a m:Int} (h1:-m≤a) (h2:a≤m):0≤a*a∧a*a≤m*m:=by
 have:=Z00 h1 h2 h1 h2;rcases Int.le_total 0 a with h | h
 ·have:=Int.mul_nonneg h h;omega
 ·have:=Int.mul_nonneg_of_nonpos_of_nonpos h h;omega
theorem Z2H {ax ay bx by':Int} (a1:-300000≤ax) (a2:ax≤300000) (a3:-300000≤ay) (a4:ay≤300000) (b1:-300000≤bx) (b2:bx≤300000) (b3:-300000≤by') (b4:by'≤300000) :
  0≤(ax-bx)*(ax-bx)+(ay-by')*(ay-by')∧(ax-bx)*(ax-bx)+(ay-by')*(ay-by')≤720000000000∧0≤distV ax ay bx by'∧distV ax ay bx by'≤900000:=by
 have h1:=sq_bd (a:=ax-bx) (m:=600000) (by omega) (by omega)
 have h2:=sq_bd (a:=ay-by') (m:=600000) (by omega) (by omega)
 have h3:=Z2q (s:=(ax-bx)*(ax-bx)+(ay-by')*(ay-by')) (by omega)
 refine⟨by omega,by omega,h3.1,h3.2.2 900000 (by omega) (by omega)⟩
theorem Z0j {a b:Int} (ha:0≤a) (hb:1≤b):0≤cdiv a b∧cdiv a b≤a∧a≤cdiv a b*b∧(cdiv a b-1)*b<a:=by
 have e:b*(a / b)+a % b=a:=Int.mul_ediv_add_emod a b;have f1:=Int.emod_nonneg a (b:=b) (by omega)
 have f2:=Int.emod_lt_of_pos a (b:=b) (by omega)
 have q0:=Int.ediv_nonneg (a:=a) (b:=b) ha (by omega)
 unfold cdiv upV;rw [Int.fdiv_eq_ediv_of_nonneg _ (by omega),Int.fmod_eq_emod_of_nonneg _ (by omega)]
 generalize a / b=q at *;generalize a % b=r at *;have qb:q≤b*q:=by have:=Int.mul_le_mul_of_nonneg_right hb q0;rw [Int.one_mul] at this;exact this
 have c:q*b=b*q:=Int.mul_comm q b
 split
 ·refine⟨q0,by omega,by omega,?_⟩
  rw [Int.sub_mul];omega
 ·refine⟨by omega,by omega,?_,?_⟩
  ·rw [Int.add_mul];omega
  ·rw [show q+1-1=q by omega];omega
theorem Z11 {speed n:Int} (h1:0≤n) (h2:n≤900000) (h3:1≤speed):0≤lastsV speed n∧lastsV speed n≤90000000:=by
 have:=Z0j (a:=100*n) (b:=speed) (by omega) h3
 unfold lastsV;omega
theorem Z0N {speed part flow n:Int} (h1:0≤n) (h2:n≤900000) (h3:1≤speed) (p1:0≤part) (p2:part≤500) (f1:0≤flow) (f2:flow≤5000) :
  0≤n*part∧n*part≤450000000∧0≤lastsV speed n*flow∧lastsV speed n*flow≤450000000000∧0≤growthV speed part flow n∧growthV speed part flow n≤1000000000000:=by
 have l:=Z11 h1 h2 h3;have a:=Int.mul_nonneg h1 p1;have b:=Int.mul_le_mul h2 p2 p1 (by omega)
 have c:=Int.mul_nonneg l.1 f1;have d:=Int.mul_le_mul l.2 f2 f1 (by omega)
 have e:=Z0j (a:=n*part) (b:=1000) (by omega) (by omega)
 have f:=Z0j (a:=lastsV speed n*flow) (b:=100) (by omega) (by omega)
 unfold growthV;omega
theorem Z8c (x y:Int):distV x y x y=0:=by
 unfold distV;rw [Int.sub_self,Int.sub_self];rfl
theorem Z3b (speed:Int):lastsV speed 0=0:=by simp [lastsV,cdiv,upV]
theorem Z5l (speed part flow:Int):growthV speed part flow 0=0:=by simp [growthV,Z3b,cdiv,upV]
def legOk (m:Msn):Prop:=1≤m.speed∧m.speed≤20000∧0≤m.part∧m.part≤500∧0≤m.flow∧m.flow≤5000
def nearP (x y:Int):Prop:=-300000≤x∧x≤300000∧-300000≤y∧y≤300000
def waysB (l:List Wy):Bool:=decide (∀ j,j<l.length→wayB j (wy l j)=true)
theorem Z0u {l:List Wy} (h:waysB l=true) {j:Nat} (hj:j<l.length):wayB j (wy l j)=true:=(of_decide_eq_true h) j hj
theorem Z0f {l:List Wy} (h:waysB l=true) {j:Nat} (hj:j<l.length):nearP (wy l j).x (wy l j).y:=by
 have:=ZR (Z0u h hj);unfold nearP;omega
theorem Z0v {l:List Wy} (h:waysB l=true) {j:Nat} (hj:j<l.length):0≤(wy l j).back∧(wy l j).back≤((j-1:Nat):Int)∧(wy l j).back<l.length:=by
 have:=ZR (Z0u h hj);omega
def dLeg (m:Msn) (i j:Nat):Int:=distV (wy m.ways i).x (wy m.ways i).y (wy m.ways j).x (wy m.ways j).y
def tLeg (m:Msn) (i j:Nat):Int:=lastsV m.speed (dLeg m i j)
def gLeg (m:Msn) (i j:Nat):Int:=growthV m.speed m.part m.flow (dLeg m i j)
def grownTo (m:Msn):Nat→Int
 | 0=>m.start
 | k+1=>grownTo m k+(gLeg m k (k+1)+gLeg m (k+1) (wy m.ways (k+1)).back.toNat)
def grownV (m:Msn):Int:=grownTo m (m.ways.length-1)
theorem Z3S {m:Msn} (hw:waysB m.ways=true) {i j:Nat} (hi:i<m.ways.length) (hj:j<m.ways.length):0≤dLeg m i j∧dLeg m i j≤900000:=by
 obtain⟨a1,a2,a3,a4⟩:=Z0f hw hi;obtain⟨b1,b2,b3,b4⟩:=Z0f hw hj;have:=Z2H a1 a2 a3 a4 b1 b2 b3 b4;exact⟨this.2.2.1,this.2.2.2⟩
theorem Z3u {m:Msn} (hm:legOk m) (hw:waysB m.ways=true) {i j:Nat} (hi:i<m.ways.length) (hj:j<m.ways.length):0≤tLeg m i j∧tLeg m i j≤90000000 :=
 Z11 (Z3S hw hi hj).1 (Z3S hw hi hj).2 hm.1
theorem Z01 {m:Msn} (hm:legOk m) (hw:waysB m.ways=true) {i j:Nat} (hi:i<m.ways.length) (hj:j<m.ways.length):0≤gLeg m i j∧gLeg m i j≤1000000000000:=by
 obtain⟨m1,m2,m3,m4,m5,m6⟩:=hm;have d:=Z3S hw hi hj;have:=Z0N (speed:=m.speed) (part:=m.part) (flow:=m.flow) d.1 d.2 m1 m3 m4 m5 m6;exact⟨this.2.2.2.2.1,this.2.2.2.2.2⟩
theorem Z3i {m:Msn} (hm:legOk m) (hs:0≤m.start∧m.start≤100000) (hw:waysB m.ways=true):∀ k:Nat,k<m.ways.length→m.start≤grownTo m k∧grownTo m k≤100000+k*2000000000000
 | 0,_=>by simp [grownTo];omega
 | k + 1, h => by
  have ih:=Z3i hm hs hw k (by omega)
  have g1:=Z01 hm hw (i:=k) (j:=k+1) (by omega) h
  have b:=Z0v hw h;have g2:=Z01 hm hw (i:=k+1) (j:=(wy m.ways (k+1)).back.toNat) h (by omega)
  simp only [grownTo];omega
theorem Z0O {m:Msn} (hm:legOk m) (hs:0≤m.start∧m.start≤100000) (hw:waysB m.ways=true) (i:Nat):∀ k:Nat,i≤k→k<m.ways.length→grownTo m i≤grownTo m k
 | 0, h, _ => by
  obtain rfl:i=0:=by omega
  exact Int.le_refl _
 | k + 1, h, h' => by
  by_cases e:i=k+1
  ·rw [e];exact Int.le_refl _
  ·have ih:=Z0O hm hs hw i k (by omega) (by omega)
   have g1:=Z01 hm hw (i:=k) (j:=k+1) (by omega) h'
   have b:=Z0v hw h';have g2:=Z01 hm hw (i:=k+1) (j:=(wy m.ways (k+1)).back.toNat) h' (by omega)
   simp only [grownTo];omega
def itB (m:Msn) (k:Nat):Nat→Nat
 | 0=>k
 | j+1=>(wy m.ways (itB m k j)).back.toNat
def depF (m:Msn):Nat→Nat→Nat
 | 0,_=>0
 | f+1,k=>if k=0 then 0 else depF m f (wy m.ways k).back.toNat+1
def dep (m:Msn) (k:Nat):Nat:=depF m k k
theorem Z1s (m:Msn) (k j:Nat):itB m k (j+1)=itB m (wy m.ways k).back.toNat j:=by
 induction j with
 | zero=>rfl
 | succ j ih=>show (wy m.ways (itB m k (j+1))).back.toNat=_;rw [ih];rfl
theorem Z5C {m:Msn} (hw:waysB m.ways=true) {k:Nat} (hk:k<m.ways.length) (h0:0<k):(wy m.ways k).back.toNat<k:=by
 have:=Z0v hw hk;omega
theorem Z2J {m : Msn} (hw : waysB m.ways = true) : ∀ (f k : Nat), k ≤ f → k < m.ways.length → itB m k (depF m f k) = 0 ∧ (∀ j, j < depF m f k → 0 < itB m k j) ∧ depF m f k ≤ k ∧ (∀ j, j ≤ depF m f k → itB m k j < m.ways.length)
 | 0, k, hf, hk => by
  obtain rfl:k=0:=by omega
  exact⟨rfl,fun j hj=>by simp [depF] at hj,by simp [depF],fun j hj=>by simp [depF] at hj;subst hj;exact hk⟩
 | f + 1, k, hf, hk => by
  unfold depF;by_cases h0:k=0
  ·subst h0
   rw [if_pos rfl];exact⟨rfl,fun j hj=>by omega,by omega,fun j hj=>by
    obtain rfl:j=0:=by omega
    exact hk⟩
  ·rw [if_neg h0]
   have hb:=Z5C hw hk (by omega)
   obtain⟨i1,i2,i3,i4⟩:=Z2J hw f (wy m.ways k).back.toNat (by omega) (by omega)
   refine⟨by rw [Z1s];exact i1,fun j hj=>?_,by omega,fun j hj=>?_⟩
   ·cases j with
    | zero=>show 0<k;omega
    | succ j=>rw [Z1s];exact i2 j (by omega)
   ·cases j with
    | zero=>exact hk
    | succ j=>rw [Z1s];exact i4 j (by omega)
section
variable {m:Msn} {k:Nat}
theorem Z8f (hw:waysB m.ways=true) (hk:k<m.ways.length):itB m k (dep m k)=0:=(Z2J hw k k (Nat.le_refl _) hk).1
theorem Z8e (hw:waysB m.ways=true) (hk:k<m.ways.length) {j:Nat} (hj:j<dep m k):0<itB m k j:=(Z2J hw k k (Nat.le_refl _) hk).2.1 j hj
theorem Z2I (hw:waysB m.ways=true) (hk:k<m.ways.length):dep m k≤k:=(Z2J hw k k (Nat.le_refl _) hk).2.2.1
theorem Z0m (hw:waysB m.ways=true) (hk:k<m.ways.length) {j:Nat} (hj:j≤dep m k):itB m k j<m.ways.length:=(Z2J hw k k (Nat.le_refl _) hk).2.2.2 j hj
theorem Za3 (hw:waysB m.ways=true) (hk:k<m.ways.length) {j:Nat} (hj:j<dep m k):itB m k (j+1)<itB m k j:=Z5C hw (Z0m hw hk (by omega)) (Z8e hw hk hj)
theorem Z5r (hw:waysB m.ways=true) (hk:k<m.ways.length) {j:Nat} (hj:j≤dep m k) (h:itB m k j=0):j=dep m k:=by
 rcases Nat.lt_or_ge j (dep m k) with h1 | h1
 ·have:=Z8e hw hk h1;omega
 ·omega
end
def onsTo (m:Msn):Nat→Int
 | 0=>m.start
 | k+1=>onsTo m k+gLeg m k (k+1)
def backsTo (m:Msn):Nat→Int
 | 0=>0
 | k+1=>backsTo m k+gLeg m (k+1) (wy m.ways (k+1)).back.toNat
def homeP (m:Msn) (a:Nat):Nat→Int
 | 0=>0
 | j+1=>homeP m a j+gLeg m (itB m a j) (itB m a (j+1))
theorem Z2D (m:Msn):∀ k,grownTo m k=onsTo m k+backsTo m k
 | 0=>by simp [grownTo,onsTo,backsTo]
 | k+1=>by simp only [grownTo,onsTo,backsTo,Z2D m k];omega
theorem Z3f (m:Msn) (a:Nat):∀ j,homeP m a (j+1)=gLeg m a (wy m.ways a).back.toNat+homeP m (wy m.ways a).back.toNat j
 | 0=>by simp [homeP,itB]
 | j + 1 => by
  rw [homeP,Z3f m a j,Z1s,Z1s,homeP];omega
section
variable {m:Msn} (hm:legOk m) (hw:waysB m.ways=true)
include hm hw
theorem Z3q (i:Nat):∀ k,i≤k→k<m.ways.length→backsTo m i≤backsTo m k
 | 0, h, _ => by
  obtain rfl:i=0:=by omega
  exact Int.le_refl _
 | k + 1, h, h' => by
  by_cases e:i=k+1
  ·rw [e];exact Int.le_refl _
  ·have ih:=Z3q i k (by omega) (by omega)
   have b:=Z0v hw h';have g:=Z01 hm hw (i:=k+1) (j:=(wy m.ways (k+1)).back.toNat) h' (by omega)
   simp only [backsTo];omega
theorem Z7P:∀ (f a:Nat),a≤f→a<m.ways.length→homeP m a (depF m f a)≤backsTo m a
 | 0, a, hf, ha => by
  obtain rfl:a=0:=by omega
  simp [depF,homeP,backsTo]
 | f + 1, a, hf, ha => by
  unfold depF;by_cases h0:a=0
  ·subst h0;simp [homeP,backsTo]
  ·rw [if_neg h0,Z3f]
   have hb:=Z5C hw ha (by omega)
   have ih:=Z7P f (wy m.ways a).back.toNat (by omega) (by omega)
   obtain⟨k,rfl⟩:∃ k,a=k+1:=⟨a-1,by omega⟩
   have hmn:=Z3q hm hw (wy m.ways (k+1)).back.toNat k (by omega) (by omega)
   simp only [backsTo];omega
theorem Z8N (hs:0≤m.start∧m.start≤100000) (hg:grownV m≤100000) {a:Nat} (ha:a<m.ways.length):onsTo m a+homeP m a (dep m a)≤100000:=by
 have h1:=Z7P hm hw a a (Nat.le_refl _) ha;have h2:=Z0O hm hs hw a (m.ways.length-1) (by omega) (by omega)
 rw [Z2D m a] at h2;unfold grownV at hg
 change homeP m a (dep m a)≤_ at h1
 omega
end
section
open Go.RowKit
def inB (n lo hi:Int):Bool:=decide (lo≤n∧n≤hi)
theorem ZN {n lo hi:Int} (h:inB n lo hi=true):lo≤n∧n≤hi:=by simpa [inB] using h
theorem Z1t {n lo hi:Int} (h:inB n lo hi=false):n<lo∨lo≤n∧hi<n:=by
 have:¬ (lo≤n∧n≤hi):=by simpa [inB] using h
 omega
theorem ZG (n most:Int) (w:World) :
  Calls Tryz.prog 85 #[.int .i64 n,.int .i64 most] w fun e w'=>e=.returned (.bool (inB n 0 most))∧w=w':=by
 cases h:inB n 0 most
 ·rcases Z1t h with h1 | ⟨h1,h2⟩
  ·have d1:decide (0≤n)=false:=by simp;omega
   clear h;go_enter Tryz.func85,Tryz.ntmps85;go_wp2;go_ret;exact⟨rfl,rfl⟩
  ·have d1:decide (0≤n)=true:=by simp;omega
   have d2:decide (n≤most)=false:=by simp;omega
   clear h;go_enter Tryz.func85,Tryz.ntmps85;go_wp2;go_ret;exact⟨rfl,rfl⟩
 ·obtain⟨h1,h2⟩:=ZN h
  clear h;go_enter Tryz.func85,Tryz.ntmps85;go_wp2;go_ret;exact⟨rfl,rfl⟩
theorem Z7I (k : Nat) (x y fix wait back : Int) (w : World) (h : ¬ (-300000 ≤ x ∧ x ≤ 300000 ∧ -300000 ≤ y ∧ y ≤ 300000)) :
  Calls Tryz.prog 79 #[.int .i64 k,.agg #[.int .i64 x,.int .i64 y,.int .i64 fix,.int .i64 wait,.int .i64 back]] w fun e w'=>e=.returned (.bool false)∧Below w.heap.size w w':=by
 rcases Int.lt_or_le y x with hxy | hxy
 ·by_cases hm:maxI4 x (wrap64 (-x)) y (wrap64 (-y))≤300000
  ·have d1:decide (maxI4 x (wrap64 (-x)) y (wrap64 (-y))≤300000)=true:=by simpa using hm
   have hb:x≤300000∧y≤300000:=by unfold maxI4 at hm;omega
   have d3:decide (-300000≤y)=false:=by simp;omega
   clear h hb hm;go_enter Tryz.func79,Tryz.ntmps79;go_wp2
   all_goals
    go_ret;exact⟨rfl,zB2⟩
  ·have d1:decide (maxI4 x (wrap64 (-x)) y (wrap64 (-y))≤300000)=false:=by simpa using hm
   clear h hm;go_enter Tryz.func79,Tryz.ntmps79;go_wp2
   all_goals
    go_ret;exact⟨rfl,zB2⟩
 ·by_cases hm:maxI4 x (wrap64 (-x)) y (wrap64 (-y))≤300000
  ·have d1:decide (maxI4 x (wrap64 (-x)) y (wrap64 (-y))≤300000)=true:=by simpa using hm
   have hb:x≤300000∧y≤300000:=by unfold maxI4 at hm;omega
   have d3:decide (-300000≤x)=false:=by simp;omega
   clear h hb hm;go_enter Tryz.func79,Tryz.ntmps79;go_wp2
   all_goals
    go_ret;exact⟨rfl,zB2⟩
  ·have d1:decide (maxI4 x (wrap64 (-x)) y (wrap64 (-y))≤300000)=false:=by simpa using hm
   clear h hm;go_enter Tryz.func79,Tryz.ntmps79;go_wp2
   all_goals
    go_ret;exact⟨rfl,zB2⟩
theorem Z6B (x y fix wait back : Int) (w : World) (h1 : -300000 ≤ x) (h2 : x ≤ 300000) (h3 : -300000 ≤ y) (h4 : y ≤ 300000) (hf : inB fix 0 100000 = true) (hw : inB wait 0 100000 = true) (hfw : 0 < fix ∨ wait = 0) :
  Calls Tryz.prog 79 #[.int .i64 0,.agg #[.int .i64 x,.int .i64 y,.int .i64 fix,.int .i64 wait,.int .i64 back]] w fun e w'=>e=.returned (.bool (inB back 0 0))∧Below w.heap.size w w':=by
 have d1:decide (maxI4 x (-x) y (-y)≤300000)=true:=by simp [maxI4];omega
 cases hb:inB back 0 0
 all_goals
  by_cases hfx:0<fix
  ·clear hfw
   go_enter Tryz.func79,Tryz.ntmps79;go_wp2_with (go_at_call 85;refine (ZG _ _ _).mono ?_;rintro e w' ⟨rfl,rfl⟩)
   all_goals
    go_ret;exact⟨rfl,zB2⟩
  ·obtain rfl:wait=0:=by omega
   have d2:decide (0<fix)=false:=by simpa using hfx
   clear hfx hfw;go_enter Tryz.func79,Tryz.ntmps79;go_wp2_with (go_at_call 85;refine (ZG _ _ _).mono ?_;rintro e w' ⟨rfl,rfl⟩)
   all_goals
    go_ret;exact⟨rfl,zB2⟩
theorem Z7H (x y fix wait back : Int) (w : World) (h1 : -300000 ≤ x) (h2 : x ≤ 300000) (h3 : -300000 ≤ y) (h4 : y ≤ 300000) (hf : inB fix 0 100000 = true) (hw : inB wait 0 100000 = true) (hfw : 0 < fix ∨ wait = 0) :
  Calls Tryz.prog 79 #[.int .i64 1,.agg #[.int .i64 x,.int .i64 y,.int .i64 fix,.int .i64 wait,.int .i64 back]] w fun e w'=>e=.returned (.bool (inB back 0 0))∧Below w.heap.size w w':=by
 have d1:decide (maxI4 x (-x) y (-y)≤300000)=true:=by simp [maxI4];omega
 cases hb:inB back 0 0
 all_goals
  by_cases hfx:0<fix
  ·clear hfw
   go_enter Tryz.func79,Tryz.ntmps79;go_wp2_with (go_at_call 85;refine (ZG _ _ _).mono ?_;rintro e w' ⟨rfl,rfl⟩)
   all_goals
    go_ret;exact⟨rfl,zB2⟩
  ·obtain rfl:wait=0:=by omega
   have d2:decide (0<fix)=false:=by simpa using hfx
   clear hfx hfw;go_enter Tryz.func79,Tryz.ntmps79;go_wp2_with (go_at_call 85;refine (ZG _ _ _).mono ?_;rintro e w' ⟨rfl,rfl⟩)
   all_goals
    go_ret;exact⟨rfl,zB2⟩
theorem Z6C (n : Nat) (x y fix wait back : Int) (w : World) (h1 : -300000 ≤ x) (h2 : x ≤ 300000) (h3 : -300000 ≤ y) (h4 : y ≤ 300000) (hf : inB fix 0 100000 = true) (hw : inB wait 0 100000 = true) (hfw : 0 < fix ∨ wait = 0) (hk : n ≤ 1000000) (hn0 : (0 : Int) < n) :
  Calls Tryz.prog 79 #[.int .i64 ((n:Int)+1),.agg #[.int .i64 x,.int .i64 y,.int .i64 fix,.int .i64 wait,.int .i64 back]] w fun e w'=>e=.returned (.bool (inB back 0 (n:Int)))∧Below w.heap.size w w':=by
 have d1:decide (maxI4 x (-x) y (-y)≤300000)=true:=by simp [maxI4];omega
 cases hb:inB back 0 (n:Int)
 all_goals
  by_cases hfx:0<fix
  ·clear hfw
   go_enter Tryz.func79,Tryz.ntmps79;go_wp2_with (go_at_call 85;refine (ZG _ _ _).mono ?_;rintro e w' ⟨rfl,rfl⟩)
   all_goals
    go_ret;exact⟨rfl,zB2⟩
  ·obtain rfl:wait=0:=by omega
   have d2:decide (0<fix)=false:=by simpa using hfx
   clear hfx hfw;go_enter Tryz.func79,Tryz.ntmps79;go_wp2_with (go_at_call 85;refine (ZG _ _ _).mono ?_;rintro e w' ⟨rfl,rfl⟩)
   all_goals
    go_ret;exact⟨rfl,zB2⟩
theorem Z7J (k : Nat) (a : Wy) (w : World) (hk : k ≤ 1000000) :
  Calls Tryz.prog 79 #[.int .i64 k,wyVal a] w fun e w'=>e=.returned (.bool (wayB k a))∧Below w.heap.size w w':=by
 obtain⟨x,y,fix,wait,back⟩:=a;by_cases h:-300000≤x∧x≤300000∧-300000≤y∧y≤300000
 ·obtain⟨h1,h2,h3,h4⟩:=h
  unfold wyVal;have d1:decide (maxI4 x (-x) y (-y)≤300000)=true:=by simp [maxI4];omega
  cases hf:inB fix 0 100000
  ·have e:wayB k ⟨x,y,fix,wait,back⟩=false:=by
    cases e:wayB k ⟨x,y,fix,wait,back⟩
    ·rfl
    ·have:=ZR e;rcases Z1t hf with h | h <;> simp only at this <;> omega
   rw [e];clear e;go_enter Tryz.func79,Tryz.ntmps79;go_wp2_with (go_at_call 85;refine (ZG _ _ _).mono ?_;rintro e w' ⟨rfl,rfl⟩)
   all_goals
    go_ret;exact⟨rfl,zB2⟩
  cases hw:inB wait 0 100000
  ·have e:wayB k ⟨x,y,fix,wait,back⟩=false:=by
    cases e:wayB k ⟨x,y,fix,wait,back⟩
    ·rfl
    ·have:=ZR e;rcases Z1t hw with h | h <;> simp only at this <;> omega
   rw [e];clear e;go_enter Tryz.func79,Tryz.ntmps79;go_wp2_with (go_at_call 85;refine (ZG _ _ _).mono ?_;rintro e w' ⟨rfl,rfl⟩)
   all_goals
    go_ret;exact⟨rfl,zB2⟩
  obtain⟨f1,f2⟩:=ZN hf;obtain⟨w1,w2⟩:=ZN hw;by_cases hfw:0<fix∨wait=0
  ·have hB:∀ m:Int,m=((k-1:Nat):Int)→wayB k ⟨x,y,fix,wait,back⟩=inB back 0 m:=by
    rintro m rfl;unfold wayB inB
    congr 1
    simp only [eq_iff_iff];constructor
    ·rintro ⟨_,_,_,_,_,_,_,_,_,h⟩;exact h
    ·intro h;exact⟨h1,h2,h3,h4,f1,f2,w1,w2,hfw,h⟩
   rcases k with _ | n
   ·rw [hB 0 rfl]
    exact Z6B x y fix wait back w h1 h2 h3 h4 hf hw hfw
   ·by_cases hn:n=0
    ·subst hn
     rw [hB 0 rfl];exact Z7H x y fix wait back w h1 h2 h3 h4 hf hw hfw
    rw [hB (n:Int) (by simp)]
    exact Z6C n x y fix wait back w h1 h2 h3 h4 hf hw hfw (by omega) (by omega)
  ·have e:wayB k ⟨x,y,fix,wait,back⟩=false:=by
    cases e:wayB k ⟨x,y,fix,wait,back⟩
    ·rfl
    ·have:=ZR e;simp only at this;exact absurd this.2.2.2.2.2.2.2.2.1 hfw
   rw [e];clear e;have d2:decide (0<fix)=false:=by simp;omega
   have d3:(wait == 0)=false:=by simp;omega
   clear f1 w1 hfw;go_enter Tryz.func79,Tryz.ntmps79;go_wp2_with (go_at_call 85;refine (ZG _ _ _).mono ?_;rintro e w' ⟨rfl,rfl⟩)
   all_goals
    go_ret;exact⟨rfl,zB2⟩
 ·have e:wayB k ⟨x,y,fix,wait,back⟩=false:=by
   cases e:wayB k ⟨x,y,fix,wait,back⟩
   ·rfl
   ·have:=ZR e;simp only at this;omega
  rw [e];exact Z7I k x y fix wait back w h
end
end Go.Proofs.YtdolkgihppgpcaaGreat
