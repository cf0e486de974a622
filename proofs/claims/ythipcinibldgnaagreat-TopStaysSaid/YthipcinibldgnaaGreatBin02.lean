/- Small words that all walks of this seat share. | Contracts of package hull: compare, isPlace, turn; and of cmp. | How lists of points lie in memory .. -/
import Derived.WalkKit
import Derived.WalkLawsBesides
import Derived.WalkSpells
import Derived.RegionTactic
import Derived.ChangeAlike
import Derived.Deep.QuietTactic
import Derived.BigQuiet
import Derived.Outline
import Derived.Deep.RegionHeld3
import Derived.Laws.EntriesVeiled
import Derived.Lib.Hide
import Derived.LoopTactic
import Derived.Test.YthipcinibldgnaaGreatRows
import Derived.Test.YthipcinibldgnaaGreatBin01
open Go.Value renaming int->O,bool->qB
open Go.Ending renaming returned->qR
open Go.IntKind renaming wrap->qW,i64->qL
open Go.Lib renaming hid->qH
open Nat renaming le_refl->qN
namespace Go.Proofs.YthipcinibldgnaaGreat
section
open Go.RowKit
theorem zB2 {n:Nat} {a b:World} (h:Below n a b:=by repeat (first | exact Below.refl _ _ | assumption | apply Below.drew | refine Below.setCell ?_ (by first | omega | (simp;done) | (simp;omega)) _ | refine Below.alloc ?_ (by first | omega | (simp;done) | (simp;omega)) _ | refine Below.call (by assumption) ?_ (by first | omega | (simp;done) | (simp;omega)))):Below n a b:=h
theorem zW2 {x:Int} (h:-9223372036854775808<=x/\x<=9223372036854775807:=by omega):qW qL x=x:=IntWalk.i64_in x h
theorem Below.call {B:Nat} {a w w':World} (h2:Below w.heap.size w w') (h1:Below B a w) (hB:B<=w.heap.size):Below B a w':=h1.trans (h2.mono hB)
theorem bcell {W w1:World} (hb:Below W.heap.size W w1):(∀ b o,b<W.heap.size->w1.cell? ⟨b,o,none⟩=W.cell? ⟨b,o,none⟩)/\(∀ b o,b<W.heap.size->w1.frozen? ⟨b,o,none⟩=W.frozen? ⟨b,o,none⟩) :=
 ⟨fun b o h=>hb.cell (p:=⟨b,o,none⟩) h,fun b o h=>hb.frozen (p:=⟨b,o,none⟩) h⟩
theorem Zu {a b:Bool} (h:a=b):Ending.returned (qB a)=qR (qB b):=by rw [h]
theorem Z4B (w:World) (row:Option Nat):w.grownBy w.drew row:=⟨rfl,rfl,rfl,qN _,fun _ _ _=>rfl⟩
def maxI4 (x y z t:Int):Int:=max (max x y) (max z t)
@[go_sem] theorem run_max_int4 {P : Program} (w : World) (ts : Array TypeId) (T : TypeId) (k1 k2 k3 k4 : IntKind) (x y z t : Int) :
  (Builtin.max_ ts T #[O k1 x,O k2 y,O k3 z,O k4 t]).run P w=.ok (O k1 (maxI4 x y z t)) w:=by
 have e:maxI4 x y z t=(if t>(if z>(if y>x then y else x) then z else (if y>x then y else x)) then t else (if z>(if y>x then y else x) then z else (if y>x then y else x))):=by
  unfold maxI4;omega
 rw [e];simp [Builtin.max_,Builtin.max2]
theorem Z3K (a:Int) (w:World) :
  Calls Tryz.prog 172 #[O qL a] w fun e w'=>e=qR (qB false)/\w=w':=by
 go_enter Tryz.func172,Tryz.ntmps172;go_wp2;go_ret;exact⟨rfl,rfl⟩
theorem Z1z (a b:Int) (w:World) :
  Calls Tryz.prog 158 #[O qL a,O qL b] w fun e w'=>e=qR (O qL (cmpI a b))/\w=w':=by
 rcases Int.lt_trichotomy a b with h | rfl | h
 ·rw [Zdh h]
  go_enter Tryz.func158,Tryz.ntmps158;go_wp2_with (go_at_call 172;refine (Z3K _ _).mono ?_;rintro e w' ⟨rfl,rfl⟩);go_ret;exact⟨rfl,rfl⟩
 ·rw [Zdj]
  go_enter Tryz.func158,Tryz.ntmps158;go_wp2_with (go_at_call 172;refine (Z3K _ _).mono ?_;rintro e w' ⟨rfl,rfl⟩);go_ret;exact⟨rfl,rfl⟩
 ·rw [Zdi h]
  go_enter Tryz.func158,Tryz.ntmps158;go_wp2_with (go_at_call 172;refine (Z3K _ _).mono ?_;rintro e w' ⟨rfl,rfl⟩);go_ret;exact⟨rfl,rfl⟩
theorem Z9I (b:Nat) (x y:Int) (w:World) (h0:w.cell? ⟨b,0,none⟩=some (O qL x)) (h1:w.cell? ⟨b,1,none⟩=some (O qL y)) :
  Calls Tryz.prog 157 #[.slice (some ⟨b,0,none⟩) 2 2] w fun e w'=>e=qR (O qL (orI x y))/\w=w':=by
 unfold orI;by_cases hx:x=0
 ·subst hx
  rw [if_pos rfl];by_cases hy:y=0
  ·subst hy
   go_enter Tryz.func157,Tryz.ntmps157;go_wp2;refine wp_loop_rounds 3 ?_;rw [rounds_succ];go_wp2;rw [rounds_succ];go_wp2;rw [rounds_succ];go_wp2;go_ret;exact⟨rfl,rfl⟩
  ·have d:(y != 0)=true:=by simp [hy]
   go_enter Tryz.func157,Tryz.ntmps157;go_wp2;refine wp_loop_rounds 2 ?_;rw [rounds_succ];go_wp2;rw [rounds_succ];go_wp2;go_ret;exact⟨rfl,rfl⟩
 ·have d:(x != 0)=true:=by simp [hx]
  rw [if_neg hx];go_enter Tryz.func157,Tryz.ntmps157;go_wp2;refine wp_loop_rounds 1 ?_;rw [rounds_succ];go_wp2;go_ret;exact⟨rfl,rfl⟩
theorem Z41 (ax ay bx by':Int) (w:World) :
  Calls Tryz.prog 113 #[.agg #[O qL ax,O qL ay],.agg #[O qL bx,O qL by']] w fun e w'=>e=qR (O qL (cmpV ax ay bx by'))/\Below w.heap.size w w':=by
 go_enter Tryz.func113,Tryz.ntmps113;go_wp2
 go_region_held3 (fun w'=>w'.cell? ⟨w.heap.size,0,none⟩=some (O qL ax)/\w'.cell? ⟨w.heap.size,1,none⟩=some (O qL ay)/\w'.cell? ⟨w.heap.size+1,0,none⟩=some (O qL bx)/\w'.cell? ⟨w.heap.size+1,1,none⟩=some (O qL by'))
  (go_keep)
  (first | (go_at_call 158;refine (Z1z _ _ _).mono ?_;rintro e w' ⟨rfl,rfl⟩) | (go_at_call 157;refine Calls.mono (Z9I (w.heap.size+1+1) (cmpI ax bx) (cmpI ay by') _ ?c0 ?c1) ?_;(case c0=>simp [go_sem]);(case c1=>simp [go_sem]);rintro e w' ⟨rfl,rfl⟩))
 all_goals go_wp2
 go_ret;exact⟨rfl,zB2⟩
theorem Z1E (ax ay bx by' cx cy:Int) (w:World) (a1:-1000000<=ax) (a2:ax<=1000000) (a3:-1000000<=ay) (a4:ay<=1000000)
  (b1:-1000000<=bx) (b2:bx<=1000000) (b3:-1000000<=by') (b4:by'<=1000000) (c1:-1000000<=cx) (c2:cx<=1000000) (c3:-1000000<=cy) (c4:cy<=1000000) :
  Calls Tryz.prog 66 #[.agg #[O qL ax,O qL ay],.agg #[O qL bx,O qL by'],.agg #[O qL cx,O qL cy]] w fun e w'=>e=qR (O qL (turnV ax ay bx by' cx cy))/\Below w.heap.size w w':=by
 have p:=ZH (a:=bx-ax) (b:=cy-ay) (m:=2000000) (n:=2000000) (by omega) (by omega) (by omega) (by omega)
 have q:=ZH (a:=by'-ay) (b:=cx-ax) (m:=2000000) (n:=2000000) (by omega) (by omega) (by omega) (by omega)
 have c:qW qL ((bx-ax)*(cy-ay))=(bx-ax)*(cy-ay):=zW2;have f:qW qL ((by'-ay)*(cx-ax))=(by'-ay)*(cx-ax):=zW2
 have d:qW qL ((bx-ax)*(cy-ay)-(by'-ay)*(cx-ax))=(bx-ax)*(cy-ay)-(by'-ay)*(cx-ax):=zW2
 clear p q;unfold turnV;go_enter Tryz.func66,Tryz.ntmps66;go_wp2;go_ret;exact⟨rfl,zB2⟩
theorem Z1V (x y : Int) (w : World) :
  Calls Tryz.prog 64 #[.agg #[O qL x,O qL y]] w fun e w'=>e=qR (qB (placeB x y))/\Below w.heap.size w w':=by
 cases h:placeB x y
 ·have a:=Z5R h
  clear h;rcases Int.lt_or_le y x with c | c
  ·by_cases hm:maxI4 x (wrap64 (-x)) y (wrap64 (-y))<=500000
   ·have b:decide (maxI4 x (wrap64 (-x)) y (wrap64 (-y))<=500000)=true:=by simpa using hm
    have d:x<=500000/\y<=500000:=by unfold maxI4 at hm;omega
    have f:decide (-500000<=y)=false:=by simp;omega
    clear a d hm;go_enter Tryz.func64,Tryz.ntmps64;go_wp2
    all_goals
     go_ret;exact⟨rfl,zB2⟩
   ·have b:decide (maxI4 x (wrap64 (-x)) y (wrap64 (-y))<=500000)=false:=by simpa using hm
    clear a hm;go_enter Tryz.func64,Tryz.ntmps64;go_wp2
    all_goals
     go_ret;exact⟨rfl,zB2⟩
  ·by_cases hm:maxI4 x (wrap64 (-x)) y (wrap64 (-y))<=500000
   ·have b:decide (maxI4 x (wrap64 (-x)) y (wrap64 (-y))<=500000)=true:=by simpa using hm
    have d:x<=500000/\y<=500000:=by unfold maxI4 at hm;omega
    have f:decide (-500000<=x)=false:=by simp;omega
    clear a d hm;go_enter Tryz.func64,Tryz.ntmps64;go_wp2
    all_goals
     go_ret;exact⟨rfl,zB2⟩
   ·have b:decide (maxI4 x (wrap64 (-x)) y (wrap64 (-y))<=500000)=false:=by simpa using hm
    clear a hm;go_enter Tryz.func64,Tryz.ntmps64;go_wp2
    all_goals
     go_ret;exact⟨rfl,zB2⟩
 ·obtain⟨j,i,g,k⟩:=Zt h
  clear h;have b:decide (maxI4 x (-x) y (-y)<=500000)=true:=by simp [maxI4];omega
  go_enter Tryz.func64,Tryz.ntmps64;go_wp2
  all_goals
   go_ret;exact⟨rfl,zB2⟩
theorem Z2x (x y:Int) (w:World) (h:placeB x y=false) :
  Calls Tryz.prog 64 #[.agg #[O qL x,O qL y]] w fun e w'=>e=qR (qB false)/\Below w.heap.size w w':=by
 rw [<- h];exact Z1V x y w
theorem Z0r (x y:Int) (w:World) (h:placeB x y=true) :
  Calls Tryz.prog 64 #[.agg #[O qL x,O qL y]] w fun e w'=>e=qR (qB true)/\Below w.heap.size w w':=by
 rw [<- h];exact Z1V x y w
def Z7 (n0 : Nat) (W : World) (v : Value) (l : List Pt) : Prop :=
 l.length<=70368744177663/\∃ a cap,v=.slice a l.length (l.length+cap)/\(l=[]\/∃ b o,a=some ⟨b,o,none⟩/\b<n0 /\
  ∀ j,j<l.length->W.cell? ⟨b,o+j*2,none⟩=some (O qL (nth l j).x)/\W.cell? ⟨b,o+j*2+1,none⟩=some (O qL (nth l j).y))
theorem Z7.below {n0:Nat} {A B:World} (h:Below n0 A B) {v:Value} {l:List Pt} (hp:Z7 n0 A v l):Z7 n0 B v l:=by
 obtain⟨i,a,d,e,c⟩:=hp;refine⟨i,a,d,e,c.imp id ?_⟩;rintro ⟨b,o,g,f,c⟩;exact⟨b,o,g,f,fun j hj=>⟨(h.cell (p:=⟨b,o+j*2,none⟩) f).trans (c j hj).1,(h.cell (p:=⟨b,o+j*2+1,none⟩) f).trans (c j hj).2⟩⟩
theorem Z7.mono {n0 n1:Nat} {W:World} {v:Value} {l:List Pt} (hp:Z7 n0 W v l) (h:n0<=n1):Z7 n1 W v l:=by
 obtain⟨g,a,c,e,d⟩:=hp;refine⟨g,a,c,e,d.imp id ?_⟩;rintro ⟨b,o,f,i,d⟩;exact⟨b,o,f,by omega,d⟩
theorem Z4o (x y : Int) (w : World) :
  Calls Tryz.prog 118 #[.agg #[O qL x,O qL y]] w fun e w'=>e=qR (qB (placeB x y))/\Below w.heap.size w w':=by
 by_cases h1:-500000<=x
 ·by_cases h2:x<=500000
  ·by_cases h3:-500000<=y
   ·by_cases h4:y<=500000
    ·have e:placeB x y=true:=by simp [placeB];omega
     rw [e];clear e;go_enter Tryz.func118,Tryz.ntmps118;go_wp2;go_ret;exact⟨rfl,zB2⟩
    ·have e:placeB x y=false:=by simp [placeB];omega
     have d:decide (y<=500000)=false:=by simpa using h4
     rw [e];clear e h4;go_enter Tryz.func118,Tryz.ntmps118;go_wp2;go_ret;exact⟨rfl,zB2⟩
   ·have e:placeB x y=false:=by simp [placeB];omega
    have d:decide (-500000<=y)=false:=by simpa using h3
    rw [e];clear e h3;go_enter Tryz.func118,Tryz.ntmps118;go_wp2;go_ret;exact⟨rfl,zB2⟩
  ·have e:placeB x y=false:=by simp [placeB];omega
   have d:decide (x<=500000)=false:=by simpa using h2
   rw [e];clear e h2;go_enter Tryz.func118,Tryz.ntmps118;go_wp2;go_ret;exact⟨rfl,zB2⟩
 ·have e:placeB x y=false:=by simp [placeB];omega
  have d:decide (-500000<=x)=false:=by simpa using h1
  rw [e];clear e h1;go_enter Tryz.func118,Tryz.ntmps118;go_wp2;go_ret;exact⟨rfl,zB2⟩
def allPl (l:List Pt):Bool:=decide (∀ j,j<l.length->Z3 (nth l j)=true)
theorem Z8w (v : Value) (l : List Pt) (w : World) (hp : Z7 w.heap.size w v l) :
  Calls Tryz.prog 69 #[v] w fun e w'=>e=qR (qB (allPl l))/\Below w.heap.size w w':=by
 obtain⟨B,a,t,rfl,m⟩:=hp;go_enter Tryz.func69,Tryz.ntmps69;go_wp2
 go_loopw [3] (fun i wr=>∃ k:Nat,k<=l.length/\i=O qL k/\(∀ j,j<k->Z3 (nth l j)=true)/\Below w.heap.size w wr) (fun i _=>l.length-(intOf i).toNat)
 case atStart=>exact⟨0,Nat.zero_le _,rfl,fun j h=>by omega,Below.refl _ _⟩
 case round =>
  obtain⟨k,z,rfl,c,n⟩:=hrel;by_cases hlt:k<l.length
  ·rcases m with rfl | ⟨b,o,rfl,r,m⟩
   ·simp at hlt
   have D:=(n.cell (p:=⟨b,o+k*2,none⟩) r).trans (m k hlt).1;have A:=(n.cell (p:=⟨b,o+k*2+1,none⟩) r).trans (m k hlt).2;have d:=qH c;have s:=qH m;clear c m;have C:=n.size;cases hpl:placeB (nth l k).x (nth l k).y
   ·have q:Hid (allPl l=false):=by
     show allPl l=false
     simp only [allPl,decide_eq_false_iff_not];intro h;have:=h k hlt;rw [Z3,hpl] at this;cases this
    go_wp2_with (go_at_call 118;refine (Z4o _ _ _).mono ?_;rintro e u ⟨rfl,f⟩;have g:=f.size;try simp at g)
    go_ret;exact⟨Zu q.out.symm,zB2⟩
   ·go_wp2_with (go_at_call 118;refine (Z4o _ _ _).mono ?_;rintro e u ⟨rfl,f⟩;have g:=f.size;try simp at g)
    go_roundw
    case rel =>
     refine⟨k+1,by omega,by go_num,fun j hj=>?_,zB2⟩
     by_cases e:j=k
     ·rw [e];exact hpl
     ·exact d.out j (by omega)
    case measure=>simp [intOf];omega
  ·have q:Hid (allPl l=true):=by
    show allPl l=true
    simp only [allPl,decide_eq_true_eq];intro j hj;exact c j (by omega)
   clear c;go_wp2;go_ret;exact⟨Zu q.out.symm,n⟩
def NewI (base:Nat) (v:Value):Prop:=∀ b o n c,v=.slice (some ⟨b,o,none⟩) n c->base<=b
theorem NewI.mono {a b:Nat} {v:Value} (h:NewI a v) (hab:b<=a):NewI b v:=fun x o n c e=>Nat.le_trans hab (h x o n c e)
theorem NewI.nil (a:Nat):NewI a (.slice none 0 0):=fun _ _ _ _ e=>by cases e
structure Wy where
 x:Int
 y:Int
 fix:Int
 wait:Int
 back:Int
deriving DecidableEq
structure Msn where
 ways:List Wy
 home:List Pt
 start:Int
 rocks:List (List Pt)
 speed:Int
 part:Int
 flow:Int
 idle:Int
 drive:Int
 battery:Int
 deadline:Int
def wy (l:List Wy) (i:Nat):Wy:=l.getD i ⟨0,0,0,0,0⟩
def rk (l:List (List Pt)) (i:Nat):List Pt:=l.getD i []
def wyVal (a:Wy):Value:=.agg #[O qL a.x,O qL a.y,O qL a.fix,O qL a.wait,O qL a.back]
def WaysAt (n0 : Nat) (W : World) (v : Value) (l : List Wy) : Prop :=
 l.length<=70368744177663/\∃ a cap,v=.slice a l.length (l.length+cap)/\(l=[]\/∃ b o,a=some ⟨b,o,none⟩/\b<n0 /\
  ∀ j, j < l.length -> W.cell? ⟨b, o + j * 5, none⟩ = some (O qL (wy l j).x) /\ W.cell? ⟨b, o + j * 5 + 1, none⟩ = some (O qL (wy l j).y) /\
   W.cell? ⟨b,o+j*5+2,none⟩=some (O qL (wy l j).fix)/\W.cell? ⟨b,o+j*5+3,none⟩=some (O qL (wy l j).wait)/\W.cell? ⟨b,o+j*5+4,none⟩=some (O qL (wy l j).back))
theorem WaysAt.below {n0:Nat} {A B:World} (h:Below n0 A B) {v:Value} {l:List Wy} (hp:WaysAt n0 A v l):WaysAt n0 B v l:=by
 obtain⟨q,a,d,e,f⟩:=hp;refine⟨q,a,d,e,f.imp id ?_⟩;rintro ⟨b,o,k,c,f⟩;refine⟨b,o,k,c,fun j hj=>?_⟩
 obtain⟨n,g,i,m,r⟩:=f j hj;exact⟨(h.cell (p:=⟨b,o+j*5,none⟩) c).trans n,(h.cell (p:=⟨b,o+j*5+1,none⟩) c).trans g,(h.cell (p:=⟨b,o+j*5+2,none⟩) c).trans i,
  (h.cell (p:=⟨b,o+j*5+3,none⟩) c).trans m,(h.cell (p:=⟨b,o+j*5+4,none⟩) c).trans r⟩
theorem WaysAt.mono {n0 n1:Nat} {W:World} {v:Value} {l:List Wy} (hp:WaysAt n0 W v l) (h:n0<=n1):WaysAt n1 W v l:=by
 obtain⟨g,a,c,e,d⟩:=hp;refine⟨g,a,c,e,d.imp id ?_⟩;rintro ⟨b,o,f,i,d⟩;exact⟨b,o,f,by omega,d⟩
def Z6 (n0 : Nat) (W : World) (v : Value) (l : List (List Pt)) : Prop :=
 l.length<=70368744177663/\∃ a cap,v=.slice a l.length (l.length+cap)/\(l=[]\/∃ b o,a=some ⟨b,o,none⟩/\b<n0 /\
  ∀ j,j<l.length->∃ u,W.cell? ⟨b,o+j,none⟩=some u/\Z7 n0 W u (rk l j))
theorem Z6.below {n0:Nat} {A B:World} (h:Below n0 A B) {v:Value} {l:List (List Pt)} (hp:Z6 n0 A v l):Z6 n0 B v l:=by
 obtain⟨m,a,c,e,f⟩:=hp;refine⟨m,a,c,e,f.imp id ?_⟩;rintro ⟨b,o,i,g,f⟩;refine⟨b,o,i,g,fun j hj=>?_⟩
 obtain⟨u,k,d⟩:=f j hj;exact⟨u,(h.cell (p:=⟨b,o+j,none⟩) g).trans k,d.below h⟩
theorem Z6.mono {n0 n1:Nat} {W:World} {v:Value} {l:List (List Pt)} (hp:Z6 n0 W v l) (h:n0<=n1):Z6 n1 W v l:=by
 obtain⟨k,a,c,e,f⟩:=hp;refine⟨k,a,c,e,f.imp id ?_⟩;rintro ⟨b,o,g,m,f⟩;refine⟨b,o,g,by omega,fun j hj=>?_⟩
 obtain⟨u,i,d⟩:=f j hj;exact⟨u,i,d.mono h⟩
def Zc (m:Msn) (vw vh vr:Value):Array Value :=
 #[vw,vh,O qL m.start,vr,O qL m.speed,O qL m.part,O qL m.flow,O qL m.idle,O qL m.drive,O qL m.battery,O qL m.deadline]
def MsnAt (n0:Nat) (W:World) (m:Msn) (vw vh vr:Value):Prop:=WaysAt n0 W vw m.ways/\Z7 n0 W vh m.home/\Z6 n0 W vr m.rocks
theorem MsnAt.below {n0:Nat} {A B:World} (h:Below n0 A B) {m:Msn} {vw vh vr:Value} (hp:MsnAt n0 A m vw vh vr):MsnAt n0 B m vw vh vr :=
 ⟨hp.1.below h,hp.2.1.below h,hp.2.2.below h⟩
theorem MsnAt.mono {n0 n1:Nat} {W:World} {m:Msn} {vw vh vr:Value} (hp:MsnAt n0 W m vw vh vr) (h:n0<=n1):MsnAt n1 W m vw vh vr :=
 ⟨hp.1.mono h,hp.2.1.mono h,hp.2.2.mono h⟩
def wayB (k:Nat) (a:Wy):Bool:=decide (-300000<=a.x/\a.x<=300000/\-300000<=a.y/\a.y<=300000/\0<=a.fix/\a.fix<=100000/\0<=a.wait/\a.wait<=100000/\(0<a.fix\/a.wait=0)/\0<=a.back/\a.back<=((k-1:Nat):Int))
theorem ZP {k:Nat} {a:Wy} (h:wayB k a=true):-300000<=a.x/\a.x<=300000/\-300000<=a.y/\a.y<=300000/\0<=a.fix/\a.fix<=100000/\0<=a.wait/\a.wait<=100000/\(0<a.fix\/a.wait=0)/\0<=a.back/\a.back<=((k-1:Nat):Int):=by
 simpa [wayB] using h
theorem Z8D (n:Int) (w:World) (h1:-1000000000000<=n) (h2:n<=1000000000000) :
  Calls Tryz.prog 183 #[O qL n] w fun e w'=>e=qR (qB true)/\w=w':=by
 go_enter Tryz.func183,Tryz.ntmps183;go_wp2;go_ret;exact⟨rfl,rfl⟩
theorem Za7 (n:Int) (w:World) (h:n < -1000000000000\/1000000000000<n) :
  Calls Tryz.prog 183 #[O qL n] w fun e w'=>e=qR (qB false)/\w=w':=by
 rcases h with h | h
 ·have b:decide (-1000000000000<=n)=false:=by simp;omega
  go_enter Tryz.func183,Tryz.ntmps183;go_wp2;go_ret;exact⟨rfl,rfl⟩
 ·have a:decide (-1000000000000<=n)=true:=by simp;omega
  have b:decide (n<=1000000000000)=false:=by simp;omega
  go_enter Tryz.func183,Tryz.ntmps183;go_wp2;go_ret;exact⟨rfl,rfl⟩
theorem Z4y (n:Int) (w:World) :
  Calls Tryz.prog 183 #[O qL n] w fun e w'=>e=qR (qB (wideB n))/\w=w':=by
 cases h:wideB n
 ·exact Za7 n w (Z6v h)
 ·exact Z8D n w (Z1D h).1 (Z1D h).2
theorem Z75 (a b q r q' r':Int) (w:World) (hq:qW qL (a.tdiv b)=q) (hr:a.tmod b=r) (h5:¬ b=0)
  (q1:-1000000000000000000<=q) (q2:q<=1000000000000000000) (r1:-1000000000000<r) (r2:r<1000000000000) (h3:-1000000000000<=b) (h4:b<=1000000000000)
  (hc:(r=0\/(r<0/\b<0)\/(0<r/\0<b))/\q=q'/\r=r'\/((r<0/\0<b)\/(0<r/\b<0))/\q-1=q'/\r+b=r') :
  Calls Tryz.prog 184 #[O qL a,O qL b] w fun e w'=>e=qR (.agg #[O qL q',O qL r'])/\Below w.heap.size w w':=by
 rcases hc with⟨h | ⟨k,j⟩ | ⟨k,j⟩,d,c⟩ | ⟨⟨k,j⟩ | ⟨k,j⟩,d,c⟩
 ·subst h d c
  go_enter Tryz.func184,Tryz.ntmps184;go_wp2
  go_region
  all_goals go_wp2
  exact bodyPost_ret (v:=.agg #[O qL _,O qL _]) (by simp [results,Tryz.results184,go_sem]) rfl ⟨rfl,zB2⟩
 ·subst d c
  have g:(r != 0)=true:=by rw [bne_iff_ne];omega
  have i:decide (r<0)=true:=by simp;omega
  have f:decide (b<0)=true:=by simp;omega
  go_enter Tryz.func184,Tryz.ntmps184;go_wp2
  go_region
  all_goals go_wp2
  exact bodyPost_ret (v:=.agg #[O qL _,O qL _]) (by simp [results,Tryz.results184,go_sem]) rfl ⟨rfl,zB2⟩
 ·subst d c
  have g:(r != 0)=true:=by rw [bne_iff_ne];omega
  have i:decide (r<0)=false:=by simp;omega
  have f:decide (b<0)=false:=by simp;omega
  go_enter Tryz.func184,Tryz.ntmps184;go_wp2
  go_region
  all_goals go_wp2
  exact bodyPost_ret (v:=.agg #[O qL _,O qL _]) (by simp [results,Tryz.results184,go_sem]) rfl ⟨rfl,zB2⟩
 ·subst d c
  have g:(r != 0)=true:=by rw [bne_iff_ne];omega
  have i:decide (r<0)=true:=by simp;omega
  have f:decide (b<0)=false:=by simp;omega
  go_enter Tryz.func184,Tryz.ntmps184;go_wp2
  go_region
  all_goals go_wp2
  exact bodyPost_ret (v:=.agg #[O qL _,O qL _]) (by simp [results,Tryz.results184,go_sem]) rfl ⟨rfl,zB2⟩
 ·subst d c
  have g:(r != 0)=true:=by rw [bne_iff_ne];omega
  have i:decide (r<0)=false:=by simp;omega
  have f:decide (b<0)=true:=by simp;omega
  go_enter Tryz.func184,Tryz.ntmps184;go_wp2
  go_region
  all_goals go_wp2
  exact bodyPost_ret (v:=.agg #[O qL _,O qL _]) (by simp [results,Tryz.results184,go_sem]) rfl ⟨rfl,zB2⟩
theorem Z8N (a b:Int) (w:World) (h1:-1000000000000000000<=a) (h2:a<=1000000000000000000) (h3:-1000000000000<=b) (h4:b<=1000000000000) (h5:¬ b=0) :
  Calls Tryz.prog 184 #[O qL a,O qL b] w fun e w'=>e=qR (.agg #[O qL (a.fdiv b),O qL (a.fmod b)])/\Below w.heap.size w w':=by
 have d:=Z4P a b h1 h2;have m:=Z9e a b h3 h4 h5;exact Z75 a b _ _ _ _ w (zW2) rfl h5 d.1 d.2 m.1 m.2 h3 h4 (Z15 a b h5)
theorem up_any (q r:Int) (w:World) (h1:-1000000000000000001<=q) (h2:q<=1000000000000000000) :
  Calls Tryz.prog 171 #[.agg #[O qL q,O qL r]] w fun e w'=>e=qR (O qL (upV q r))/\w.alloc (.cells #[O qL q,O qL r] 217)=w':=by
 by_cases hr:r=0
 ·subst hr
  have a:upV q 0=q:=rfl;rw [a];go_enter Tryz.func171,Tryz.ntmps171;go_wp2;go_ret;exact⟨rfl,rfl⟩
 ·have b:(r == 0)=false:=by simp [hr]
  have a:upV q r=q+1:=by simp [upV,hr]
  rw [a];clear a;go_enter Tryz.func171,Tryz.ntmps171;go_wp2;go_ret;exact⟨rfl,rfl⟩
def badQ (a b:Int):Bool:=!wideB a || !wideB b || decide (b=0)
theorem Z93 {a b:Int} (h:badQ a b=false):wideB a=true/\wideB b=true/\(b == 0)=false:=by
 simp [badQ] at h;simp [h]
theorem Zb6 {a b:Int} (h:badQ a b=true):wideB a=false\/wideB a=true/\(wideB b=false\/wideB b=true/\(b == 0)=true):=by
 cases h1:wideB a <;> cases h2:wideB b <;> simp [badQ,h1,h2] at h ⊢;exact h
def ceilV (a b:Int):Int:=if badQ a b=true then 0 else cdiv a b
def quoE (a b:Int):Int:=if badQ a b=true then 1 else 0
theorem Z7e (a b:Int) (f:Value) (w:World) (h:badQ a b=true) :
  Calls Tryz.prog 170 #[O qL a,O qL b,f] w fun e w'=>e=qR (.tuple #[O qL 0,O qL 1])/\w=w':=by
 rcases Zb6 h with d | ⟨d,c | ⟨c,g⟩⟩
 all_goals
  clear h;go_enter Tryz.func170,Tryz.ntmps170;go_wp2_with (go_at_call 183;refine (Z4y _ _).mono ?_;rintro e w' ⟨rfl,rfl⟩);go_ret2;exact⟨rfl,rfl⟩
theorem Zca (a b:Int) (w:World) :
  Calls Tryz.prog 156 #[O qL a,O qL b] w fun e w'=>e=qR (.tuple #[O qL (ceilV a b),O qL (quoE a b)])/\Below w.heap.size w w':=by
 cases h:badQ a b
 ·have f:ceilV a b=upV (a.fdiv b) (a.fmod b):=by simp [ceilV,cdiv,h]
  have d:quoE a b=0:=by simp [quoE,h]
  rw [f,d];clear f d;obtain⟨l,j,k⟩:=Z93 h;clear h;have m:=Z1D l;have n:=Z1D j;have c:¬ b=0:=by simpa using k
  have p:=Zaw a b (by omega) (by omega) c
  go_enter Tryz.func156,Tryz.ntmps156;go_wp2_with (first | (go_at_call 183;refine (Z4y _ _).mono ?_;rintro e w' ⟨rfl,rfl⟩) | (go_at_call 184;refine (Z8N _ _ _ (by omega) (by omega) (by omega) (by omega) c).mono ?_;rintro e o ⟨rfl,g⟩;have i:=g.size;try simp at i) | (go_at_call 171;refine (up_any _ _ _ (by omega) (by omega)).mono ?_;rintro e w' ⟨rfl,rfl⟩) | go_in)
  go_ret2;exact⟨rfl,zB2⟩
 ·have f:ceilV a b=0:=by simp [ceilV,h]
  have d:quoE a b=1:=by simp [quoE,h]
  rw [f,d];clear f d;go_enter Tryz.func156,Tryz.ntmps156;go_wp2_with (go_at_call 170;refine (Z7e _ _ _ _ h).mono ?_;rintro e w' ⟨rfl,rfl⟩);go_ret2;exact⟨rfl,Below.refl _ _⟩
theorem Z7g (k : Nat) : ∀ (lo hi : Int) (n : Int) (an af : Addr) (w : World),
  w.cell? an=some (O qL n)->w.cell? af=some (.func (.func 155) #[] #[.pointer (some an),.pointer (some af)]) ->
  0<=lo->hi<=1000000001->lo<hi->hi-lo<=k->lo*lo<=n->n<hi*hi ->
  Calls Tryz.prog 155 #[O qL lo,O qL hi,.pointer (some an),.pointer (some af)] w fun e w'=>e=qR (O qL (isqrt n.toNat))/\w=w':=by
 induction k with
 | zero=>intro lo hi n an af w _ _ _ _ _ h5;omega
 | succ k ih =>
  intro lo hi n an af w c1 c2 h1 h2 h3 h4 h5 h6;have f:=qH ih;clear ih;by_cases h:hi-lo=1
  ·have i:isqrt n.toNat=lo.toNat:=by
    obtain rfl:hi=lo+1:=by omega
    have c:0<=n:=by have:=Int.mul_nonneg h1 h1;omega
    apply Z2T
    ·have:((lo.toNat*lo.toNat:Nat):Int)<=(n.toNat:Int):=by
      rw [Int.natCast_mul,Int.toNat_of_nonneg h1,Int.toNat_of_nonneg c];exact h5
     exact Int.ofNat_le.1 this
    ·have:(n.toNat:Int)<(((lo.toNat+1)*(lo.toNat+1):Nat):Int):=by
      rw [Int.natCast_mul,Int.natCast_add,Int.toNat_of_nonneg h1,Int.toNat_of_nonneg c];exact h6
     exact Int.ofNat_lt.1 this
   have g:(hi-lo == 1)=true:=by simp [h]
   have d:((isqrt n.toNat:Nat):Int)=lo:=by omega
   rw [d];clear d i h5 h6 h;go_enter Tryz.func155,Tryz.ntmps155;go_wp2;go_ret;exact⟨rfl,rfl⟩
  ·have g:(hi-lo == 1)=false:=by simp [h]
   obtain⟨m,r⟩:∃ m,lo+(hi-lo) / 2=m:=⟨_,rfl⟩;have p:lo<m:=by omega
   have j:m<hi:=by omega
   have t:0<=m*m:=Int.mul_nonneg (by omega) (by omega)
   have q:m*m<=1000000001000000001:=by
    have x:=Int.mul_le_mul (show m<=1000000000 by omega) (show m<=1000000000 by omega) (by omega) (by omega)
    omega
   have s:qW qL (m*m)=m*m:=zW2;have o:=qH h5;have l:=qH h6;clear h h5 h6;by_cases hc:n<m*m
   ·have b:decide (n<m*m)=true:=by simp [hc]
    have a:=qH hc;clear hc;go_enter Tryz.func155,Tryz.ntmps155;go_wp2_with fail;refine (f.out _ _ _ _ _ _ c1 c2 h1 (by omega) p (by omega) o.out a.out).mono ?_
    rintro e w' ⟨rfl,rfl⟩;go_wp2;go_ret;exact⟨rfl,rfl⟩
   ·have b:decide (n<m*m)=false:=by simpa using hc
    have a:=qH (show m*m<=n by omega)
    clear hc;go_enter Tryz.func155,Tryz.ntmps155;go_wp2_with fail;refine (f.out _ _ _ _ _ _ c1 c2 (by omega) h2 j (by omega) a.out l.out).mono ?_
    rintro e w' ⟨rfl,rfl⟩;go_wp2;go_ret;exact⟨rfl,rfl⟩
def badN (n:Int):Bool:=decide (n<0) || decide (1000000000000000000<n)
def rootV (n:Int):Int:=if badN n=true then 0 else isqrt n.toNat
def rootE (n:Int):Int:=if badN n=true then 1 else 0
theorem Z33 (n:Int) (w:World) :
  Calls Tryz.prog 109 #[O qL n] w fun e w'=>e=qR (.tuple #[O qL (rootV n),O qL (rootE n)])/\Below w.heap.size w w':=by
 cases h:badN n
 ·have b:rootV n=isqrt n.toNat:=by simp [rootV,h]
  have a:rootE n=0:=by simp [rootE,h]
  rw [b,a];clear b a;have c:0<=n/\n<=1000000000000000000:=by simp [badN] at h;omega
  clear h;obtain⟨d,f⟩:=c;have g:decide (n<0)=false:=by simp;omega
  have i:decide (1000000000000000000<n)=false:=by simp;omega
  go_enter Tryz.func109,Tryz.ntmps109;go_wp2_with (first | (go_at_call 155;refine (Z7g 1000000001 _ _ n ⟨w.heap.size,0,none⟩ ⟨w.heap.size+1,0,none⟩ _ (by simp) (by simp) (by omega) (by omega) (by omega) (by omega) (by omega) (by omega)).mono ?_;rintro e w' ⟨rfl,rfl⟩))
  go_ret2;exact⟨rfl,zB2⟩
 ·have b:rootV n=0:=by simp [rootV,h]
  have a:rootE n=1:=by simp [rootE,h]
  rw [b,a];clear b a;have c:n<0\/0<=n/\1000000000000000000<n:=by simp [badN] at h;omega
  clear h;rcases c with d | ⟨d,f⟩
  all_goals
   go_enter Tryz.func109,Tryz.ntmps109;go_wp2;go_ret2;exact⟨rfl,zB2⟩
end
def rootUp (s:Int):Int:=if (isqrt s.toNat:Int)*isqrt s.toNat<s then (isqrt s.toNat:Int)+1 else isqrt s.toNat
def distV (ax ay bx by':Int):Int:=rootUp ((ax-bx)*(ax-bx)+(ay-by')*(ay-by'))
def lastsV (speed n:Int):Int:=cdiv (100*n) speed
def growthV (speed part flow n:Int):Int:=cdiv (n*part) 1000+cdiv (lastsV speed n*flow) 100
theorem Z3t {s:Int} (h:0<=s):0<=rootUp s/\s<=rootUp s*rootUp s/\(∀ r:Int,0<=r->s<=r*r->rootUp s<=r):=by
 have ⟨h1,h2⟩:=Z07 s.toNat;have e:(s.toNat:Int)=s:=by omega
 have b:(isqrt s.toNat:Int)*isqrt s.toNat<=s:=by rw [<- e];exact_mod_cast h1
 have c:s<((isqrt s.toNat:Int)+1)*((isqrt s.toNat:Int)+1):=by rw [<- e];exact_mod_cast h2
 unfold rootUp;generalize f:(isqrt s.toNat:Int)=r at *;have a:0<=r:=by omega
 split
 ·rename_i hlt
  refine⟨by omega,by omega,fun q hq hs=>?_⟩
  rcases Int.lt_or_le r q with h | h
  ·omega
  ·have:=Int.mul_le_mul h h hq a;omega
 ·rename_i hlt
  refine⟨a,by omega,fun q hq hs=>?_⟩
  rcases Int.lt_or_le q r with h | h
  ·have:=Int.mul_le_mul (show q+1<=r by omega) (show q+1<=r by omega) (by omega) a
   have d:(q+1)*(q+1)=q*q+2*q+1:=by rw [Int.add_mul,Int.mul_add];omega
   omega
  ·exact h
theorem Z29 {m n:Nat} (h:m<=n*n):isqrt m<=n:=by
 have ⟨h1,_⟩:=Z07 m;have:=sq_lt (a:=isqrt m) (b:=n+1) (by rw [Nat.add_mul,Nat.mul_add];omega)
 omega
theorem sq_bd {a m:Int} (h1:-m<=a) (h2:a<=m):0<=a*a/\a*a<=m*m:=by
 have:=ZH h1 h2 h1 h2;rcases Int.le_total 0 a with h | h
 ·have:=Int.mul_nonneg h h;omega
 ·have:=Int.mul_nonneg_of_nonpos_of_nonpos h h;omega
theorem Z3W {ax ay bx by':Int} (a1:-300000<=ax) (a2:ax<=300000) (a3:-300000<=ay) (a4:ay<=300000) (b1:-300000<=bx) (b2:bx<=300000) (b3:-300000<=by') (b4:by'<=300000) :
  0<=(ax-bx)*(ax-bx)+(ay-by')*(ay-by')/\(ax-bx)*(ax-bx)+(ay-by')*(ay-by')<=720000000000/\0<=distV ax ay bx by'/\distV ax ay bx by'<=900000:=by
 have c:=sq_bd (a:=ax-bx) (m:=600000) (by omega) (by omega)
 have d:=sq_bd (a:=ay-by') (m:=600000) (by omega) (by omega)
 have b:=Z3t (s:=(ax-bx)*(ax-bx)+(ay-by')*(ay-by')) (by omega)
 refine⟨by omega,by omega,b.1,b.2.2 900000 (by omega) (by omega)⟩
theorem Z0u {a b:Int} (ha:0<=a) (hb:1<=b):0<=cdiv a b/\cdiv a b<=a/\a<=cdiv a b*b/\(cdiv a b-1)*b<a:=by
 have e:b*(a / b)+a % b=a:=Int.mul_ediv_add_emod a b;have f:=Int.emod_nonneg a (b:=b) (by omega)
 have h:=Int.emod_lt_of_pos a (b:=b) (by omega)
 have d:=Int.ediv_nonneg (a:=a) (b:=b) ha (by omega)
 unfold cdiv upV;rw [Int.fdiv_eq_ediv_of_nonneg _ (by omega),Int.fmod_eq_emod_of_nonneg _ (by omega)]
 generalize a / b=q at *;generalize a % b=r at *;have g:q<=b*q:=by have:=Int.mul_le_mul_of_nonneg_right hb d;rw [Int.one_mul] at this;exact this
 have c:q*b=b*q:=Int.mul_comm q b
 split
 ·refine⟨d,by omega,by omega,?_⟩
  rw [Int.sub_mul];omega
 ·refine⟨by omega,by omega,?_,?_⟩
  ·rw [Int.add_mul];omega
  ·rw [show q+1-1=q by omega];omega
theorem Z1J {speed n:Int} (h1:0<=n) (h2:n<=900000) (h3:1<=speed):0<=lastsV speed n/\lastsV speed n<=90000000:=by
 have:=Z0u (a:=100*n) (b:=speed) (by omega) h3
 unfold lastsV;omega
theorem Z14 {speed part flow n:Int} (h1:0<=n) (h2:n<=900000) (h3:1<=speed) (p1:0<=part) (p2:part<=500) (f1:0<=flow) (f2:flow<=5000) :
  0<=n*part/\n*part<=450000000/\0<=lastsV speed n*flow/\lastsV speed n*flow<=450000000000/\0<=growthV speed part flow n/\growthV speed part flow n<=1000000000000:=by
 have l:=Z1J h1 h2 h3;have a:=Int.mul_nonneg h1 p1;have b:=Int.mul_le_mul h2 p2 p1 (by omega)
 have c:=Int.mul_nonneg l.1 f1;have d:=Int.mul_le_mul l.2 f2 f1 (by omega)
 have e:=Z0u (a:=n*part) (b:=1000) (by omega) (by omega)
 have f:=Z0u (a:=lastsV speed n*flow) (b:=100) (by omega) (by omega)
 unfold growthV;omega
theorem ZaJ (x y:Int):distV x y x y=0:=by
 unfold distV;rw [Int.sub_self,Int.sub_self];rfl
theorem Z4w (speed:Int):lastsV speed 0=0:=by simp [lastsV,cdiv,upV]
theorem Z70 (speed part flow:Int):growthV speed part flow 0=0:=by simp [growthV,Z4w,cdiv,upV]
def legOk (m:Msn):Prop:=1<=m.speed/\m.speed<=20000/\0<=m.part/\m.part<=500/\0<=m.flow/\m.flow<=5000
def nearP (x y:Int):Prop:=-300000<=x/\x<=300000/\-300000<=y/\y<=300000
def waysB (l:List Wy):Bool:=decide (∀ j,j<l.length->wayB j (wy l j)=true)
theorem Z0b {l:List Wy} (h:waysB l=true) {j:Nat} (hj:j<l.length):wayB j (wy l j)=true:=(of_decide_eq_true h) j hj
theorem Z0c {l:List Wy} (h:waysB l=true) {j:Nat} (hj:j<l.length):nearP (wy l j).x (wy l j).y:=by
 have:=ZP (Z0b h hj);unfold nearP;omega
theorem Z0M {l:List Wy} (h:waysB l=true) {j:Nat} (hj:j<l.length):0<=(wy l j).back/\(wy l j).back<=((j-1:Nat):Int)/\(wy l j).back<l.length:=by
 have:=ZP (Z0b h hj);omega
def dLeg (m:Msn) (i j:Nat):Int:=distV (wy m.ways i).x (wy m.ways i).y (wy m.ways j).x (wy m.ways j).y
def tLeg (m:Msn) (i j:Nat):Int:=lastsV m.speed (dLeg m i j)
def gLeg (m:Msn) (i j:Nat):Int:=growthV m.speed m.part m.flow (dLeg m i j)
def grownTo (m:Msn):Nat->Int
 | 0=>m.start
 | k+1=>grownTo m k+(gLeg m k (k+1)+gLeg m (k+1) (wy m.ways (k+1)).back.toNat)
def grownV (m:Msn):Int:=grownTo m (m.ways.length-1)
theorem Z2F {m:Msn} (hw:waysB m.ways=true) {i j:Nat} (hi:i<m.ways.length) (hj:j<m.ways.length):0<=dLeg m i j/\dLeg m i j<=900000:=by
 obtain⟨e,d,g,b⟩:=Z0c hw hi;obtain⟨h,c,f,a⟩:=Z0c hw hj;have:=Z3W e d g b h c f a;exact⟨this.2.2.1,this.2.2.2⟩
theorem Z3i {m:Msn} (hm:legOk m) (hw:waysB m.ways=true) {i j:Nat} (hi:i<m.ways.length) (hj:j<m.ways.length):0<=tLeg m i j/\tLeg m i j<=90000000 :=
 Z1J (Z2F hw hi hj).1 (Z2F hw hi hj).2 hm.1
theorem ZW {m:Msn} (hm:legOk m) (hw:waysB m.ways=true) {i j:Nat} (hi:i<m.ways.length) (hj:j<m.ways.length):0<=gLeg m i j/\gLeg m i j<=1000000000000:=by
 obtain⟨f,g,e,a,b,c⟩:=hm;have d:=Z2F hw hi hj;have:=Z14 (speed:=m.speed) (part:=m.part) (flow:=m.flow) d.1 d.2 f e a b c;exact⟨this.2.2.2.2.1,this.2.2.2.2.2⟩
theorem Z2D {m:Msn} (hm:legOk m) (hs:0<=m.start/\m.start<=100000) (hw:waysB m.ways=true):∀ k:Nat,k<m.ways.length->m.start<=grownTo m k/\grownTo m k<=100000+k*2000000000000
 | 0,_=>by simp [grownTo];omega
 | k + 1, h => by
  have ih:=Z2D hm hs hw k (by omega)
  have g1:=ZW hm hw (i:=k) (j:=k+1) (by omega) h
  have b:=Z0M hw h;have g2:=ZW hm hw (i:=k+1) (j:=(wy m.ways (k+1)).back.toNat) h (by omega)
  simp only [grownTo];omega
theorem Z1u {m:Msn} (hm:legOk m) (hs:0<=m.start/\m.start<=100000) (hw:waysB m.ways=true) (i:Nat):∀ k:Nat,i<=k->k<m.ways.length->grownTo m i<=grownTo m k
 | 0, h, _ => by
  obtain rfl:i=0:=by omega
  exact Int.le_refl _
 | k + 1, h, h' => by
  by_cases e:i=k+1
  ·rw [e];exact Int.le_refl _
  ·have a:=Z1u hm hs hw i k (by omega) (by omega)
   have c:=ZW hm hw (i:=k) (j:=k+1) (by omega) h'
   have b:=Z0M hw h';have d:=ZW hm hw (i:=k+1) (j:=(wy m.ways (k+1)).back.toNat) h' (by omega)
   simp only [grownTo];omega
def itB (m:Msn) (k:Nat):Nat->Nat
 | 0=>k
 | j+1=>(wy m.ways (itB m k j)).back.toNat
def depF (m:Msn):Nat->Nat->Nat
 | 0,_=>0
 | f+1,k=>if k=0 then 0 else depF m f (wy m.ways k).back.toNat+1
def dep (m:Msn) (k:Nat):Nat:=depF m k k
theorem Z28 (m:Msn) (k j:Nat):itB m k (j+1)=itB m (wy m.ways k).back.toNat j:=by
 induction j with
 | zero=>rfl
 | succ j ih=>show (wy m.ways (itB m k (j+1))).back.toNat=_;rw [ih];rfl
theorem Z7h {m:Msn} (hw:waysB m.ways=true) {k:Nat} (hk:k<m.ways.length) (h0:0<k):(wy m.ways k).back.toNat<k:=by
 have:=Z0M hw hk;omega
theorem Z3Y {m : Msn} (hw : waysB m.ways = true) : ∀ (f k : Nat), k <= f -> k < m.ways.length -> itB m k (depF m f k) = 0 /\ (∀ j, j < depF m f k -> 0 < itB m k j) /\ depF m f k <= k /\ (∀ j, j <= depF m f k -> itB m k j < m.ways.length)
 | 0, k, hf, hk => by
  obtain rfl:k=0:=by omega
  exact⟨rfl,fun j hj=>by simp [depF] at hj,by simp [depF],fun j hj=>by simp [depF] at hj;subst hj;exact hk⟩
 | f + 1, k, hf, hk => by
  unfold depF;by_cases h0:k=0
  ·subst h0
   rw [if_pos rfl];exact⟨rfl,fun j hj=>by omega,by omega,fun j hj=>by
    obtain rfl:j=0:=by omega
    exact hk⟩
  ·rw [if_neg h0]
   have d:=Z7h hw hk (by omega)
   obtain⟨c,b,e,a⟩:=Z3Y hw f (wy m.ways k).back.toNat (by omega) (by omega)
   refine⟨by rw [Z28];exact c,fun j hj=>?_,by omega,fun j hj=>?_⟩
   ·cases j with
    | zero=>show 0<k;omega
    | succ j=>rw [Z28];exact b j (by omega)
   ·cases j with
    | zero=>exact hk
    | succ j=>rw [Z28];exact a j (by omega)
section
variable {m:Msn} {k:Nat}
theorem Z78 (hw:waysB m.ways=true) (hk:k<m.ways.length):itB m k (dep m k)=0:=(Z3Y hw k k (qN _) hk).1
theorem ZaK (hw:waysB m.ways=true) (hk:k<m.ways.length) {j:Nat} (hj:j<dep m k):0<itB m k j:=(Z3Y hw k k (qN _) hk).2.1 j hj
theorem Z2V (hw:waysB m.ways=true) (hk:k<m.ways.length):dep m k<=k:=(Z3Y hw k k (qN _) hk).2.2.1
theorem Z0o (hw:waysB m.ways=true) (hk:k<m.ways.length) {j:Nat} (hj:j<=dep m k):itB m k j<m.ways.length:=(Z3Y hw k k (qN _) hk).2.2.2 j hj
theorem ZcZ (hw:waysB m.ways=true) (hk:k<m.ways.length) {j:Nat} (hj:j<dep m k):itB m k (j+1)<itB m k j:=Z7h hw (Z0o hw hk (by omega)) (ZaK hw hk hj)
theorem Z77 (hw:waysB m.ways=true) (hk:k<m.ways.length) {j:Nat} (hj:j<=dep m k) (h:itB m k j=0):j=dep m k:=by
 rcases Nat.lt_or_ge j (dep m k) with a | a
 ·have:=ZaK hw hk a;omega
 ·omega
end
def onsTo (m:Msn):Nat->Int
 | 0=>m.start
 | k+1=>onsTo m k+gLeg m k (k+1)
def backsTo (m:Msn):Nat->Int
 | 0=>0
 | k+1=>backsTo m k+gLeg m (k+1) (wy m.ways (k+1)).back.toNat
def homeP (m:Msn) (a:Nat):Nat->Int
 | 0=>0
 | j+1=>homeP m a j+gLeg m (itB m a j) (itB m a (j+1))
theorem Z3P (m:Msn):∀ k,grownTo m k=onsTo m k+backsTo m k
 | 0=>by simp [grownTo,onsTo,backsTo]
 | k+1=>by simp only [grownTo,onsTo,backsTo,Z3P m k];omega
theorem Z4A (m:Msn) (a:Nat):∀ j,homeP m a (j+1)=gLeg m a (wy m.ways a).back.toNat+homeP m (wy m.ways a).back.toNat j
 | 0=>by simp [homeP,itB]
 | j + 1 => by
  rw [homeP,Z4A m a j,Z28,Z28,homeP];omega
section
variable {m:Msn} (hm:legOk m) (hw:waysB m.ways=true)
include hm hw
theorem Z4M (i:Nat):∀ k,i<=k->k<m.ways.length->backsTo m i<=backsTo m k
 | 0, h, _ => by
  obtain rfl:i=0:=by omega
  exact Int.le_refl _
 | k + 1, h, h' => by
  by_cases e:i=k+1
  ·rw [e];exact Int.le_refl _
  ·have a:=Z4M i k (by omega) (by omega)
   have b:=Z0M hw h';have g:=ZW hm hw (i:=k+1) (j:=(wy m.ways (k+1)).back.toNat) h' (by omega)
   simp only [backsTo];omega
theorem Zaf:∀ (f a:Nat),a<=f->a<m.ways.length->homeP m a (depF m f a)<=backsTo m a
 | 0, a, hf, ha => by
  obtain rfl:a=0:=by omega
  simp [depF,homeP,backsTo]
 | f + 1, a, hf, ha => by
  unfold depF;by_cases h0:a=0
  ·subst h0;simp [homeP,backsTo]
  ·rw [if_neg h0,Z4A]
   have c:=Z7h hw ha (by omega)
   have d:=Zaf f (wy m.ways a).back.toNat (by omega) (by omega)
   obtain⟨k,rfl⟩:∃ k,a=k+1:=⟨a-1,by omega⟩
   have b:=Z4M hm hw (wy m.ways (k+1)).back.toNat k (by omega) (by omega)
   simp only [backsTo];omega
theorem Zbv (hs:0<=m.start/\m.start<=100000) (hg:grownV m<=100000) {a:Nat} (ha:a<m.ways.length):onsTo m a+homeP m a (dep m a)<=100000:=by
 have b:=Zaf hm hw a a (qN _) ha;have c:=Z1u hm hs hw a (m.ways.length-1) (by omega) (by omega)
 rw [Z3P m a] at c;unfold grownV at hg
 change homeP m a (dep m a)<=_ at b
 omega
end
section
open Go.RowKit
def inB (n lo hi:Int):Bool:=decide (lo<=n/\n<=hi)
theorem ZQ {n lo hi:Int} (h:inB n lo hi=true):lo<=n/\n<=hi:=by simpa [inB] using h
theorem Z1r {n lo hi:Int} (h:inB n lo hi=false):n<lo\/lo<=n/\hi<n:=by
 have:¬ (lo<=n/\n<=hi):=by simpa [inB] using h
 omega
theorem ZZ (n lo hi:Int) (w:World) :
  Calls Tryz.prog 68 #[O qL n,O qL lo,O qL hi] w fun e w'=>e=qR (qB (inB n lo hi))/\w=w':=by
 cases h:inB n lo hi
 ·rcases Z1r h with a | ⟨a,c⟩
  ·have b:decide (lo<=n)=false:=by simp;omega
   clear h;go_enter Tryz.func68,Tryz.ntmps68;go_wp2;go_ret;exact⟨rfl,rfl⟩
  ·have b:decide (lo<=n)=true:=by simp;omega
   have d:decide (n<=hi)=false:=by simp;omega
   clear h;go_enter Tryz.func68,Tryz.ntmps68;go_wp2;go_ret;exact⟨rfl,rfl⟩
 ·obtain⟨a,c⟩:=ZQ h
  clear h;go_enter Tryz.func68,Tryz.ntmps68;go_wp2;go_ret;exact⟨rfl,rfl⟩
theorem ZaI (a b q r q':Int) (w:World) (hq:qW qL (a.tdiv b)=q) (hr:a-q*b=r) (hm:qW qL (q*b)=q*b) (h5:¬ b=0)
  (q1:-5000000000000000000<=q) (q2:q<=5000000000000000000) (r1:-10000000000000<r) (r2:r<10000000000000)
  (hc:(r=0\/(r<0/\b<0)\/(0<r/\0<b))/\q=q'\/((r<0/\0<b)\/(0<r/\b<0))/\q-1=q') :
  Calls Tryz.prog 159 #[O qL a,O qL b] w fun e w'=>e=qR (O qL q')/\w=w':=by
 have k:qW qL r=r:=zW2;rcases hc with⟨h | ⟨f,d⟩ | ⟨f,d⟩,c⟩ | ⟨⟨f,d⟩ | ⟨f,d⟩,c⟩
 ·subst c
  have i:(r != 0)=false:=by simp [h]
  clear h;go_enter Tryz.func159,Tryz.ntmps159;go_wp2;go_ret;exact⟨rfl,rfl⟩
 all_goals
  subst c;have i:(r != 0)=true:=by rw [bne_iff_ne];omega
  first | have j:decide (r<0)=true:=(by simp;omega) | have j:decide (r<0)=false:=(by simp;omega)
  first | have g:decide (b<0)=true:=(by simp;omega) | have g:decide (b<0)=false:=(by simp;omega)
  go_enter Tryz.func159,Tryz.ntmps159;go_wp2;go_ret;exact⟨rfl,rfl⟩
theorem Zc0 (a b:Int) (w:World) (h1:-1000000000000000000<=a) (h2:a<=1000000000000000000) (h3:-1000000000000<=b) (h4:b<=1000000000000) (h5:¬ b=0) :
  Calls Tryz.prog 159 #[O qL a,O qL b] w fun e w'=>e=qR (O qL (a.fdiv b))/\w=w':=by
 have d:=Z4P a b h1 h2;have m:=Z9e a b h3 h4 h5;have x:a.tmod b+b*a.tdiv b=a:=Int.tmod_add_mul_tdiv a b;have y:a.tdiv b*b=b*a.tdiv b:=Int.mul_comm _ _;have z:a-a.tdiv b*b=a.tmod b:=by omega
 refine ZaI a b _ _ _ w (zW2) z (zW2) h5 (by omega) (by omega) (by omega) (by omega) ?_
 rcases Z15 a b h5 with h | h
 ·exact Or.inl ⟨h.1,h.2.1⟩
 ·exact Or.inr ⟨h.1,h.2.1⟩
theorem Z6G (a b:Int) (w:World) (h1:-1000000000000000000<=a) (h2:a<=1000000000000000000) (h3:-1000000000000<=b) (h4:b<=1000000000000) (h5:¬ b=0) :
  Calls Tryz.prog 119 #[O qL a,O qL b] w fun e w'=>e=qR (O qL (cdiv a b))/\w=w':=by
 have f:=Zaw (-a) b (by omega) (by omega) h5
 rw [<- Zcb a b h5];go_enter Tryz.func119,Tryz.ntmps119;go_wp2_with (go_at_call 159;refine (Zc0 _ _ _ (by omega) (by omega) h3 h4 h5).mono ?_;rintro e w' ⟨rfl,rfl⟩)
 go_ret;exact⟨rfl,rfl⟩
def RootRel (n:Int) (a b:Value):Prop:=∃ lo hi:Int,0<=lo/\lo<hi/\hi<=1000000001/\lo*lo<=n/\n<hi*hi/\a=O qL lo/\b=O qL hi
theorem Zbt {n lo : Int} (h1 : 0 <= lo) (h5 : lo * lo <= n) (h6 : n < (lo + 1) * (lo + 1)) : ((isqrt n.toNat : Nat) : Int) = lo := by
 have a:0<=n:=by have:=Int.mul_nonneg h1 h1;omega
 have b:isqrt n.toNat=lo.toNat:=by
  apply Z2T
  ·have:((lo.toNat*lo.toNat:Nat):Int)<=(n.toNat:Int):=by
    rw [Int.natCast_mul,Int.toNat_of_nonneg h1,Int.toNat_of_nonneg a];exact h5
   exact Int.ofNat_le.1 this
  ·have:(n.toNat:Int)<(((lo.toNat+1)*(lo.toNat+1):Nat):Int):=by
    rw [Int.natCast_mul,Int.natCast_add,Int.toNat_of_nonneg h1,Int.toNat_of_nonneg a];exact h6
   exact Int.ofNat_lt.1 this
 omega
theorem Z5K (n : Int) (w : World) (h1 : 0 <= n) (h2 : n <= 1000000000000000000) :
  Calls Tryz.prog 160 #[O qL n] w fun e w'=>e=qR (O qL (isqrt n.toNat))/\w=w':=by
 go_enter Tryz.func160,Tryz.ntmps160;go_wp2
 go_loop [3,4] (fun a b=>RootRel n a b) (fun a b=>(intOf b-intOf a).toNat)
 case atStart=>exact⟨0,1000000001,by omega,by omega,by omega,by omega,by omega,rfl,rfl⟩
 case round =>
  obtain⟨c,f,l,q,r,h,g,rfl,rfl⟩:=hrel;by_cases hlt:1<f-c
  ·obtain⟨m,i⟩:∃ m,(c+f) / 2=m:=⟨_,rfl⟩
   have v:c<m:=by omega
   have s:m<f:=by omega
   have u:0<=m*m:=Int.mul_nonneg (by omega) (by omega)
   have p:m*m<=1000000001000000001:=by
    have x:=Int.mul_le_mul (show m<=1000000000 by omega) (show m<=1000000000 by omega) (by omega) (by omega)
    omega
   have t:qW qL (m*m)=m*m:=zW2;have o:=qH h;have k:=qH g;clear h g;by_cases hc:m*m<=n
   ·go_wp2
    go_round
    case rel=>exact⟨m,f,by omega,by omega,by omega,hc,k.out,by rw [i],rfl⟩
    case measure=>simp [intOf];omega
   ·go_wp2
    go_round
    case rel=>exact⟨c,m,by omega,by omega,by omega,o.out,by omega,rfl,by rw [i]⟩
    case measure=>simp [intOf];omega
  ·have e:f=c+1:=by omega
   have j:n<(c+1)*(c+1):=by rw [<- e];exact g
   have E:=qH (Zbt l h j);have d:decide (1<f-c)=false:=by simp;omega
   clear j e h g;go_wp2;go_ret;exact⟨congrArg (fun x=>Ending.returned (O qL x)) E.out.symm,rfl⟩
theorem ZO (n most:Int) (w:World) :
  Calls Tryz.prog 130 #[O qL n,O qL most] w fun e w'=>e=qR (qB (inB n 0 most))/\w=w':=by
 cases h:inB n 0 most
 ·rcases Z1r h with a | ⟨a,c⟩
  ·have b:decide (0<=n)=false:=by simp;omega
   clear h;go_enter Tryz.func130,Tryz.ntmps130;go_wp2;go_ret;exact⟨rfl,rfl⟩
  ·have b:decide (0<=n)=true:=by simp;omega
   have d:decide (n<=most)=false:=by simp;omega
   clear h;go_enter Tryz.func130,Tryz.ntmps130;go_wp2;go_ret;exact⟨rfl,rfl⟩
 ·obtain⟨a,c⟩:=ZQ h
  clear h;go_enter Tryz.func130,Tryz.ntmps130;go_wp2;go_ret;exact⟨rfl,rfl⟩
theorem Za9 (k : Nat) (x y fix wait back : Int) (w : World) (h : ¬ (-300000 <= x /\ x <= 300000 /\ -300000 <= y /\ y <= 300000)) :
  Calls Tryz.prog 124 #[O qL k,.agg #[O qL x,O qL y,O qL fix,O qL wait,O qL back]] w fun e w'=>e=qR (qB false)/\Below w.heap.size w w':=by
 rcases Int.lt_or_le y x with c | c
 ·by_cases hm:maxI4 x (wrap64 (-x)) y (wrap64 (-y))<=300000
  ·have b:decide (maxI4 x (wrap64 (-x)) y (wrap64 (-y))<=300000)=true:=by simpa using hm
   have a:x<=300000/\y<=300000:=by unfold maxI4 at hm;omega
   have d:decide (-300000<=y)=false:=by simp;omega
   clear h a hm;go_enter Tryz.func124,Tryz.ntmps124;go_wp2
   all_goals
    go_ret;exact⟨rfl,zB2⟩
  ·have b:decide (maxI4 x (wrap64 (-x)) y (wrap64 (-y))<=300000)=false:=by simpa using hm
   clear h hm;go_enter Tryz.func124,Tryz.ntmps124;go_wp2
   all_goals
    go_ret;exact⟨rfl,zB2⟩
 ·by_cases hm:maxI4 x (wrap64 (-x)) y (wrap64 (-y))<=300000
  ·have b:decide (maxI4 x (wrap64 (-x)) y (wrap64 (-y))<=300000)=true:=by simpa using hm
   have a:x<=300000/\y<=300000:=by unfold maxI4 at hm;omega
   have d:decide (-300000<=x)=false:=by simp;omega
   clear h a hm;go_enter Tryz.func124,Tryz.ntmps124;go_wp2
   all_goals
    go_ret;exact⟨rfl,zB2⟩
  ·have b:decide (maxI4 x (wrap64 (-x)) y (wrap64 (-y))<=300000)=false:=by simpa using hm
   clear h hm;go_enter Tryz.func124,Tryz.ntmps124;go_wp2
   all_goals
    go_ret;exact⟨rfl,zB2⟩
theorem Z8E (x y fix wait back : Int) (w : World) (h1 : -300000 <= x) (h2 : x <= 300000) (h3 : -300000 <= y) (h4 : y <= 300000) (hf : inB fix 0 100000 = true) (hw : inB wait 0 100000 = true) (hfw : 0 < fix \/ wait = 0) :
  Calls Tryz.prog 124 #[O qL 0,.agg #[O qL x,O qL y,O qL fix,O qL wait,O qL back]] w fun e w'=>e=qR (qB (inB back 0 0))/\Below w.heap.size w w':=by
 have a:decide (maxI4 x (-x) y (-y)<=300000)=true:=by simp [maxI4];omega
 cases hb:inB back 0 0
 all_goals
  by_cases hfx:0<fix
  ·clear hfw
   go_enter Tryz.func124,Tryz.ntmps124;go_wp2_with (go_at_call 130;refine (ZO _ _ _).mono ?_;rintro e w' ⟨rfl,rfl⟩)
   all_goals
    go_ret;exact⟨rfl,zB2⟩
  ·obtain rfl:wait=0:=by omega
   have b:decide (0<fix)=false:=by simpa using hfx
   clear hfx hfw;go_enter Tryz.func124,Tryz.ntmps124;go_wp2_with (go_at_call 130;refine (ZO _ _ _).mono ?_;rintro e w' ⟨rfl,rfl⟩)
   all_goals
    go_ret;exact⟨rfl,zB2⟩
theorem Za8 (x y fix wait back : Int) (w : World) (h1 : -300000 <= x) (h2 : x <= 300000) (h3 : -300000 <= y) (h4 : y <= 300000) (hf : inB fix 0 100000 = true) (hw : inB wait 0 100000 = true) (hfw : 0 < fix \/ wait = 0) :
  Calls Tryz.prog 124 #[O qL 1,.agg #[O qL x,O qL y,O qL fix,O qL wait,O qL back]] w fun e w'=>e=qR (qB (inB back 0 0))/\Below w.heap.size w w':=by
 have a:decide (maxI4 x (-x) y (-y)<=300000)=true:=by simp [maxI4];omega
 cases hb:inB back 0 0
 all_goals
  by_cases hfx:0<fix
  ·clear hfw
   go_enter Tryz.func124,Tryz.ntmps124;go_wp2_with (go_at_call 130;refine (ZO _ _ _).mono ?_;rintro e w' ⟨rfl,rfl⟩)
   all_goals
    go_ret;exact⟨rfl,zB2⟩
  ·obtain rfl:wait=0:=by omega
   have b:decide (0<fix)=false:=by simpa using hfx
   clear hfx hfw;go_enter Tryz.func124,Tryz.ntmps124;go_wp2_with (go_at_call 130;refine (ZO _ _ _).mono ?_;rintro e w' ⟨rfl,rfl⟩)
   all_goals
    go_ret;exact⟨rfl,zB2⟩
theorem Z8F (n : Nat) (x y fix wait back : Int) (w : World) (h1 : -300000 <= x) (h2 : x <= 300000) (h3 : -300000 <= y) (h4 : y <= 300000) (hf : inB fix 0 100000 = true) (hw : inB wait 0 100000 = true) (hfw : 0 < fix \/ wait = 0) (hk : n <= 1000000) (hn0 : (0 : Int) < n) :
  Calls Tryz.prog 124 #[O qL ((n:Int)+1),.agg #[O qL x,O qL y,O qL fix,O qL wait,O qL back]] w fun e w'=>e=qR (qB (inB back 0 (n:Int)))/\Below w.heap.size w w':=by
 have a:decide (maxI4 x (-x) y (-y)<=300000)=true:=by simp [maxI4];omega
 cases hb:inB back 0 (n:Int)
 all_goals
  by_cases hfx:0<fix
  ·clear hfw
   go_enter Tryz.func124,Tryz.ntmps124;go_wp2_with (go_at_call 130;refine (ZO _ _ _).mono ?_;rintro e w' ⟨rfl,rfl⟩)
   all_goals
    go_ret;exact⟨rfl,zB2⟩
  ·obtain rfl:wait=0:=by omega
   have b:decide (0<fix)=false:=by simpa using hfx
   clear hfx hfw;go_enter Tryz.func124,Tryz.ntmps124;go_wp2_with (go_at_call 130;refine (ZO _ _ _).mono ?_;rintro e w' ⟨rfl,rfl⟩)
   all_goals
    go_ret;exact⟨rfl,zB2⟩
theorem Zaa (k : Nat) (a : Wy) (w : World) (hk : k <= 1000000) :
  Calls Tryz.prog 124 #[O qL k,wyVal a] w fun e w'=>e=qR (qB (wayB k a))/\Below w.heap.size w w':=by
 obtain⟨x,y,d,b,c⟩:=a;by_cases h:-300000<=x/\x<=300000/\-300000<=y/\y<=300000
 ·obtain⟨i,g,f,j⟩:=h
  unfold wyVal;have s:decide (maxI4 x (-x) y (-y)<=300000)=true:=by simp [maxI4];omega
  cases hf:inB d 0 100000
  ·have e:wayB k ⟨x,y,d,b,c⟩=false:=by
    cases e:wayB k ⟨x,y,d,b,c⟩
    ·rfl
    ·have:=ZP e;rcases Z1r hf with h | h <;> simp only at this <;> omega
   rw [e];clear e;go_enter Tryz.func124,Tryz.ntmps124;go_wp2_with (go_at_call 130;refine (ZO _ _ _).mono ?_;rintro e w' ⟨rfl,rfl⟩)
   all_goals
    go_ret;exact⟨rfl,zB2⟩
  cases hw:inB b 0 100000
  ·have e:wayB k ⟨x,y,d,b,c⟩=false:=by
    cases e:wayB k ⟨x,y,d,b,c⟩
    ·rfl
    ·have:=ZP e;rcases Z1r hw with h | h <;> simp only at this <;> omega
   rw [e];clear e;go_enter Tryz.func124,Tryz.ntmps124;go_wp2_with (go_at_call 130;refine (ZO _ _ _).mono ?_;rintro e w' ⟨rfl,rfl⟩)
   all_goals
    go_ret;exact⟨rfl,zB2⟩
  obtain⟨o,q⟩:=ZQ hf;obtain⟨p,r⟩:=ZQ hw;by_cases hfw:0<d\/b=0
  ·have l:∀ m:Int,m=((k-1:Nat):Int)->wayB k ⟨x,y,d,b,c⟩=inB c 0 m:=by
    rintro m rfl;unfold wayB inB
    congr 1
    simp only [eq_iff_iff];constructor
    ·rintro ⟨_,_,_,_,_,_,_,_,_,h⟩;exact h
    ·intro h;exact⟨i,g,f,j,o,q,p,r,hfw,h⟩
   rcases k with _ | n
   ·rw [l 0 rfl]
    exact Z8E x y d b c w i g f j hf hw hfw
   ·by_cases hn:n=0
    ·subst hn
     rw [l 0 rfl];exact Za8 x y d b c w i g f j hf hw hfw
    rw [l (n:Int) (by simp)]
    exact Z8F n x y d b c w i g f j hf hw hfw (by omega) (by omega)
  ·have e:wayB k ⟨x,y,d,b,c⟩=false:=by
    cases e:wayB k ⟨x,y,d,b,c⟩
    ·rfl
    ·have:=ZP e;simp only at this;exact absurd this.2.2.2.2.2.2.2.2.1 hfw
   rw [e];clear e;have u:decide (0<d)=false:=by simp;omega
   have t:(b == 0)=false:=by simp;omega
   clear o p hfw;go_enter Tryz.func124,Tryz.ntmps124;go_wp2_with (go_at_call 130;refine (ZO _ _ _).mono ?_;rintro e w' ⟨rfl,rfl⟩)
   all_goals
    go_ret;exact⟨rfl,zB2⟩
 ·have e:wayB k ⟨x,y,d,b,c⟩=false:=by
   cases e:wayB k ⟨x,y,d,b,c⟩
   ·rfl
   ·have:=ZP e;simp only at this;omega
  rw [e];exact Za9 k x y d b c w h
end
end Go.Proofs.YthipcinibldgnaaGreat
