/- Plain geometry: points, the area of a triangle, the order of places. No program here. | Plain mathematics of layer 1: quotients, roots. No program .. -/
open Nat renaming le_refl->qN
namespace Go.Proofs.YthipcinibldgnaaGreat
structure Pt where
 x:Int
 y:Int
deriving DecidableEq
theorem Pt.ext' {a b:Pt} (h1:a.x=b.x) (h2:a.y=b.y):a=b:=by cases a;cases b;simp_all
def nth (l:List Pt) (i:Nat):Pt:=l.getD i ⟨0,0⟩
def turnV (ax ay bx by' cx cy:Int):Int:=(bx-ax)*(cy-ay)-(by'-ay)*(cx-ax)
def Z5 (a b c:Pt):Int:=turnV a.x a.y b.x b.y c.x c.y
def cmpI (a b:Int):Int:=if a<b then -1 else if b<a then 1 else 0
theorem Zdh {a b:Int} (h:a<b):cmpI a b=-1:=by simp [cmpI,h]
theorem Zdi {a b:Int} (h:b<a):cmpI a b=1:=by simp [cmpI,show ¬ a<b by omega,h]
theorem Zdj (a:Int):cmpI a a=0:=by simp [cmpI]
def orI (x y:Int):Int:=if x=0 then y else x
def cmpV (ax ay bx by':Int):Int:=orI (cmpI ax bx) (cmpI ay by')
def cmpP (a b:Pt):Int:=cmpV a.x a.y b.x b.y
def placeB (x y:Int):Bool:=decide (-500000<=x/\x<=500000/\-500000<=y/\y<=500000)
theorem Zt {x y:Int} (h:placeB x y=true):-500000<=x/\x<=500000/\-500000<=y/\y<=500000:=by simpa [placeB] using h
theorem Z5R {x y:Int} (h:placeB x y=false):x < -500000\/500000<x\/y < -500000\/500000<y:=by
 have:¬ (-500000<=x/\x<=500000/\-500000<=y/\y<=500000):=by simpa [placeB] using h
 omega
def Z3 (p:Pt):Bool:=placeB p.x p.y
theorem ZH {a b m n:Int} (h1:-m<=a) (h2:a<=m) (h3:-n<=b) (h4:b<=n):-(m*n)<=a*b/\a*b<=m*n:=by
 have d:0<=m:=by omega
 have g:0<=n:=by omega
 have e:a*b<=m*n/\-(a*b)<=m*n:=by
  rcases Int.le_total 0 a with f | f <;> rcases Int.le_total 0 b with c | c
  ·have x:=Int.mul_le_mul h2 h4 c d;have y:=Int.mul_nonneg f c;omega
  ·have x:=Int.mul_le_mul h2 (show -b<=n by omega) (by omega) d;have y:=Int.mul_nonneg f (show 0<=-b by omega);rw [Int.mul_neg] at x y;omega
  ·have x:=Int.mul_le_mul (show -a<=m by omega) h4 c d;have y:=Int.mul_nonneg (show 0<=-a by omega) c;rw [Int.neg_mul] at x y;omega
  ·have x:=Int.mul_le_mul (show -a<=m by omega) (show -b<=n by omega) (by omega) d;have y:=Int.mul_nonneg (show 0<=-a by omega) (show 0<=-b by omega);rw [Int.neg_mul_neg] at x y;omega
 omega
def isqrt:Nat->Nat
 | 0=>0
 | n+1=>if (isqrt n+1)*(isqrt n+1)<=n+1 then isqrt n+1 else isqrt n
theorem Z07 (n : Nat) : isqrt n * isqrt n <= n /\ n < (isqrt n + 1) * (isqrt n + 1) := by
 induction n with
 | zero=>simp [isqrt]
 | succ n ih =>
  obtain⟨a,b⟩:=ih;unfold isqrt;by_cases h:(isqrt n+1)*(isqrt n+1)<=n+1
  ·rw [if_pos h]
   refine⟨h,?_⟩;have e:(isqrt n+1+1)*(isqrt n+1+1)=(isqrt n+1)*(isqrt n+1)+2*(isqrt n+1)+1:=by
    rw [Nat.add_mul,Nat.mul_add];omega
   omega
  ·rw [if_neg h]
   exact⟨by omega,by omega⟩
theorem sq_lt {a b:Nat} (h:a*a<b*b):a<b:=by
 rcases Nat.lt_or_ge a b with c | c
 ·exact c
 ·have:=Nat.mul_le_mul c c;omega
theorem Z2T {n r:Nat} (h1:r*r<=n) (h2:n<(r+1)*(r+1)):isqrt n=r:=by
 have ⟨a,b⟩:=Z07 n;have x:=sq_lt (a:=isqrt n) (b:=r+1) (by omega)
 have y:=sq_lt (a:=r) (b:=isqrt n+1) (by omega)
 omega
def wideB (n:Int):Bool:=decide (-1000000000000<=n/\n<=1000000000000)
theorem Z1D {n:Int} (h:wideB n=true):-1000000000000<=n/\n<=1000000000000:=by simpa [wideB] using h
theorem Z6v {n:Int} (h:wideB n=false):n < -1000000000000\/1000000000000<n:=by
 have:¬ (-1000000000000<=n/\n<=1000000000000):=by simpa [wideB] using h
 omega
theorem Z7j {n:Int} (h1:-1000000000000<=n) (h2:n<=1000000000000):wideB n=true:=by simp [wideB];omega
def upV (q r:Int):Int:=if r=0 then q else q+1
def cdiv (a b:Int):Int:=upV (a.fdiv b) (a.fmod b)
theorem Z15 (a b:Int) (hb:b≠0) :
  (a.tmod b=0\/(a.tmod b<0/\b<0)\/(0<a.tmod b/\0<b))/\a.tdiv b=a.fdiv b/\a.tmod b=a.fmod b \/
  ((a.tmod b<0/\0<b)\/(0<a.tmod b/\b<0))/\a.tdiv b-1=a.fdiv b/\a.tmod b+b=a.fmod b:=by
 have f:=Int.tdiv_eq_ediv (a:=a) (b:=b);have e:=Int.fdiv_eq_ediv (a:=a) (b:=b);have c:=Int.tmod_eq_emod (a:=a) (b:=b);have d:=Int.fmod_eq_emod (a:=a) (b:=b);have g:=Int.emod_nonneg a hb;have i:=Int.emod_lt a hb;rw [f,e,c,d];simp only [Int.dvd_iff_emod_eq_zero];generalize a % b=r at *;generalize a / b=q at *;rcases Int.lt_or_gt_of_ne hb with h | h
 ·have hs:Int.sign b=-1:=Int.sign_eq_neg_one_of_neg h
  rw [hs]
  repeat' split
  all_goals omega
 ·have hs:Int.sign b=1:=Int.sign_eq_one_of_pos h
  rw [hs]
  repeat' split
  all_goals omega
theorem Z4P (a b:Int) (h1:-1000000000000000000<=a) (h2:a<=1000000000000000000):-1000000000000000000<=a.tdiv b/\a.tdiv b<=1000000000000000000:=by
 have h:=Int.natAbs_tdiv a b;have c:a.natAbs.div b.natAbs<=a.natAbs:=Nat.div_le_self a.natAbs b.natAbs;rw [<- h] at c;omega
theorem Z9e (a b:Int) (h3:-1000000000000<=b) (h4:b<=1000000000000) (hb:b≠0):-1000000000000<a.tmod b/\a.tmod b<1000000000000:=by
 have h:=Int.natAbs_tmod a b;have c:=Nat.mod_lt a.natAbs (y:=b.natAbs) (by omega)
 rw [<- h] at c;omega
theorem Zaw (a b:Int) (h1:-1000000000000000000<=a) (h2:a<=1000000000000000000) (hb:b≠0):-1000000000000000001<=a.fdiv b/\a.fdiv b<=1000000000000000000:=by
 rcases Z15 a b hb with h | h
 ·have:=Z4P a b h1 h2;omega
 ·have:=Z4P a b h1 h2;omega
theorem Z5n {a b:Int} (hb:b≠0):a.fmod b=0↔a % b=0:=by
 have c:=Int.fmod_eq_emod (a:=a) (b:=b);have d:=Int.emod_nonneg a hb;have e:=Int.emod_lt a hb;rw [c];simp only [Int.dvd_iff_emod_eq_zero]
 split <;> omega
theorem Zcb (a b:Int) (hb:b≠0):-((-a).fdiv b)=cdiv a b:=by
 have e:=Int.neg_fdiv (a:=a) (b:=b);have h:=Z5n (a:=a) hb;unfold cdiv upV;rw [e];simp only [Int.dvd_iff_emod_eq_zero];by_cases h':a % b=0
 ·rw [if_pos (Or.inr h'),if_pos (h.2 h')];omega
 ·rw [if_neg (by omega),if_neg (by omega)];omega
def Btw (a b x:Pt):Prop:=(a.x<=x.x\/b.x<=x.x)/\(x.x<=a.x\/x.x<=b.x)/\(a.y<=x.y\/b.y<=x.y)/\(x.y<=a.y\/x.y<=b.y)
instance (a b x:Pt):Decidable (Btw a b x):=by unfold Btw;infer_instance
def LexLt (a b:Pt):Prop:=a.x<b.x\/a.x=b.x/\a.y<b.y
instance (a b:Pt):Decidable (LexLt a b):=by unfold LexLt;infer_instance
theorem LexLt.trans {a b c:Pt} (h:LexLt a b) (k:LexLt b c):LexLt a c:=by unfold LexLt at *;omega
theorem LexLt.irrefl {a:Pt} (h:LexLt a a):False:=by unfold LexLt at h;omega
theorem LexLt.ne {a b:Pt} (h:LexLt a b):a≠b:=fun e=>by subst e;exact h.irrefl
theorem LexLt.tri (a b:Pt):LexLt a b\/a=b\/LexLt b a:=by
 by_cases h:a=b
 ·exact .inr (.inl h)
 ·have:¬ (a.x=b.x/\a.y=b.y):=fun e=>h (Pt.ext' e.1 e.2)
  unfold LexLt;omega
def crs (ux uy vx vy:Int):Int:=ux*vy-uy*vx
def dt (ux uy vx vy:Int):Int:=ux*vx+uy*vy
def HP (dx dy vx vy:Int):Prop:=0<crs dx dy vx vy\/crs dx dy vx vy=0/\dt dx dy vx vy<0
theorem sq_nn (a:Int):0<=a*a:=by
 rcases Int.le_total 0 a with h | h
 ·exact Int.mul_nonneg h h
 ·have:=Int.mul_nonneg (show 0<=-a by omega) (show 0<=-a by omega);rwa [Int.neg_mul_neg] at this
theorem Z0p {x y:Int} (h:¬ (x=0/\y=0)):0<x*x+y*y:=by
 have a:=sq_nn (x);have b:=sq_nn (y);rcases Int.lt_or_le 0 (x*x+y*y) with c | c
 ·exact c
 ·have d:x*x=0:=by omega
  have e:y*y=0:=by omega
  exact absurd ⟨by rcases Int.mul_eq_zero.1 d with k | k <;> exact k,by rcases Int.mul_eq_zero.1 e with k | k <;> exact k⟩ h
theorem HP.ne {dx dy vx vy:Int} (h:HP dx dy vx vy):¬ (dx=0/\dy=0):=by
 rintro ⟨rfl,rfl⟩;unfold HP crs dt at h;simp at h
theorem Z0Z {a b:Int} (ha:0<a) (h:0<a*b):0<b:=by
 rcases Int.lt_or_le 0 b with c | c
 ·exact c
 ·have:=Int.mul_nonneg (Int.le_of_lt ha) (show 0<=-b by omega)
  rw [Int.mul_neg] at this;omega
theorem Z06 {a b:Int} (ha:0<a) (h:0<=a*b):0<=b:=by
 rcases Int.lt_or_le b 0 with c | c
 ·have:=Int.mul_pos ha (show 0 < -b by omega)
  rw [Int.mul_neg] at this;omega
 ·exact c
theorem Z6f (dx dy ux uy vx vy:Int):(dx*dx+dy*dy)*crs ux uy vx vy=dt dx dy ux uy*crs dx dy vx vy-crs dx dy ux uy*dt dx dy vx vy:=by unfold crs dt;grind
theorem Z8H {p1 q1 p2 q2 p3 q3 : Int} (h1 : 0 < q1 \/ q1 = 0 /\ p1 < 0) (h2 : 0 < q2 \/ q2 = 0 /\ p2 < 0) (h3 : 0 < q3 \/ q3 = 0 /\ p3 < 0)
  (a:0<p1*q2-q1*p2) (b:0<=p2*q3-q2*p3):0<p1*q3-q1*p3:=by
 have d:q2*(p1*q3-q1*p3)=q3*(p1*q2-q1*p2)+q1*(p2*q3-q2*p3):=by grind
 rcases h2 with h2 | ⟨rfl,h2⟩
 ·refine Z0Z h2 ?_
  rw [d];rcases h3 with h3 | ⟨rfl,h3⟩
  ·have x:=Int.mul_pos h3 a
   have y:=Int.mul_nonneg (show 0<=q1 by omega) b
   omega
  ·have f:0<p2*0-q2*p3:=by have:=Int.mul_pos h2 (show 0 < -p3 by omega);rw [Int.mul_neg] at this;omega
   rcases h1 with h1 | ⟨rfl,h1⟩
   ·have:=Int.mul_pos h1 f;omega
   ·have:=Int.mul_pos (show 0 < -p1 by omega) h2
    rw [Int.neg_mul] at this;omega
 ·have e:0<q1:=by
   rcases h1 with h1 | ⟨rfl,h1⟩
   ·exact h1
   ·simp at a
  have c:q3=0:=by
   rcases h3 with h3 | ⟨rfl,h3⟩
   ·have:=Int.mul_pos (show 0 < -p2 by omega) h3
    rw [Int.neg_mul] at this;omega
   ·rfl
  subst c;have:=Int.mul_pos e (show 0 < -p3 by omega)
  rw [Int.mul_neg] at this;omega
theorem Z5i {dx dy ux uy vx vy wx wy:Int} (hu:HP dx dy ux uy) (hv:HP dx dy vx vy) (hw:HP dx dy wx wy) (a:0<crs ux uy vx vy) (b:0<=crs vx vy wx wy):0<crs ux uy wx wy:=by
 have c:=Z0p hu.ne;refine Z0Z c ?_;rw [Z6f];have d:=Int.mul_pos c a;have e:=Int.mul_nonneg (Int.le_of_lt c) b;rw [Z6f] at d e;exact Z8H hu hv hw d e
theorem Z3b {dx dy ux uy vx vy : Int} (hu : HP dx dy ux uy) (hv : HP dx dy vx vy) (a : crs ux uy vx vy = 0) : 0 < dt ux uy vx vy := by
 have i:=Z0p hu.ne;have e:(dx*dx+dy*dy)*crs ux uy vx vy=0:=by rw [a,Int.mul_zero]
 have f:(dx*dx+dy*dy)*dt ux uy vx vy=dt dx dy ux uy*dt dx dy vx vy+crs dx dy ux uy*crs dx dy vx vy:=by unfold crs dt;grind
 rw [Z6f] at e;refine Z0Z i ?_;rw [f];unfold HP at hu hv;generalize dt dx dy ux uy=p1 at *;generalize crs dx dy ux uy=q1 at *;generalize dt dx dy vx vy=p2 at *;generalize crs dx dy vx vy=q2 at *;clear f;rcases hu with hu | ⟨rfl,hu⟩
 ·have c:0<q2:=by
   rcases hv with hv | ⟨rfl,hv⟩
   ·exact hv
   ·have:=Int.mul_pos hu (show 0 < -p2 by omega)
    rw [Int.mul_neg] at this;omega
  have h:=Int.mul_pos hu c;have d:q1*q2*(p1*p2)=(q1*p2)*(q1*p2)+(p1*q2-q1*p2)*(q1*p2):=by grind
  rw [e,Int.zero_mul,Int.add_zero] at d;have:=sq_nn (q1*p2);have:=Z06 h (b:=p1*p2) (by omega)
  omega
 ·have c:q2=0:=by
   rcases hv with hv | ⟨rfl,hv⟩
   ·have:=Int.mul_pos (show 0 < -p1 by omega) hv
    rw [Int.neg_mul] at this;omega
   ·rfl
  subst c;have g:p2<0:=by omega
  have:=Int.mul_pos (show 0 < -p1 by omega) (show 0 < -p2 by omega)
  rw [Int.neg_mul_neg] at this;omega
theorem Z6s {ux uy vx vy : Int} (hc : crs ux uy vx vy = 0) (hd : 0 < dt ux uy vx vy) :
  ((0<=ux/\ux<=vx\/vx<=ux/\ux<=0)/\(0<=uy/\uy<=vy\/vy<=uy/\uy<=0))\/((0<=vx/\vx<=ux\/ux<=vx/\vx<=0)/\(0<=vy/\vy<=uy\/uy<=vy/\vy<=0)):=by
 have i:0<ux*ux+uy*uy:=Z0p fun h=>by rw [h.1,h.2] at hd;unfold dt at hd;simp at hd
 have l:dt ux uy vx vy*ux=(ux*ux+uy*uy)*vx:=by unfold dt crs at *;grind
 have k:dt ux uy vx vy*uy=(ux*ux+uy*uy)*vy:=by unfold dt crs at *;grind
 generalize dt ux uy vx vy=m at *;generalize ux*ux+uy*uy=n at *;clear hc;have j:∀ u v:Int,m*u=n*v->(m<=n->(0<=v/\v<=u\/u<=v/\v<=0))/\(n<=m->(0<=u/\u<=v\/v<=u/\u<=0)):=by
  intro u v e;constructor
  ·intro h
   rcases Int.le_total 0 u with g | g
   ·left
    have a:0<=n*v:=by rw [<- e];exact Int.mul_nonneg (Int.le_of_lt hd) g
    have b:=Z06 i a;have c:=Int.mul_le_mul_of_nonneg_right h g;have d:0<=n*(u-v):=by rw [Int.mul_sub];omega
    have:=Z06 i d;omega
   ·right
    have a:0<=n*(-v):=by rw [Int.mul_neg,<- e];have:=Int.mul_nonneg (Int.le_of_lt hd) (show 0<=-u by omega);rw [Int.mul_neg] at this;exact this
    have b:=Z06 i a;have c:=Int.mul_le_mul_of_nonneg_right h (show 0<=-u by omega)
    rw [Int.mul_neg,Int.mul_neg] at c;have d:0<=n*(v-u):=by rw [Int.mul_sub];omega
    have:=Z06 i d;omega
  ·intro h
   rcases Int.le_total 0 v with f | f
   ·left
    have a:0<=m*u:=by rw [e];exact Int.mul_nonneg (Int.le_of_lt i) f
    have b:=Z06 hd a;have c:=Int.mul_le_mul_of_nonneg_right h f;have d:0<=m*(v-u):=by rw [Int.mul_sub];omega
    have:=Z06 hd d;omega
   ·right
    have a:0<=m*(-u):=by rw [Int.mul_neg,e];have:=Int.mul_nonneg (Int.le_of_lt i) (show 0<=-v by omega);rw [Int.mul_neg] at this;exact this
    have b:=Z06 hd a;have c:=Int.mul_le_mul_of_nonneg_right h (show 0<=-v by omega)
    rw [Int.mul_neg,Int.mul_neg] at c;have d:0<=m*(u-v):=by rw [Int.mul_sub];omega
    have:=Z06 hd d;omega
 rcases Int.le_total m n with h | h
 ·exact .inr ⟨(j _ _ l).1 h,(j _ _ k).1 h⟩
 ·exact .inl ⟨(j _ _ l).2 h,(j _ _ k).2 h⟩
def Nx (l:List Pt) (s t:Pt):Prop:=t ∈ l/\(t=s->∀ x,x ∈ l->x=s)/\∀ x,x ∈ l->0<=Z5 s t x/\(Z5 s t x=0->Btw s t x)
theorem Nx.congr {l m:List Pt} (h:∀ x,x ∈ l↔x ∈ m) {s t:Pt} (k:Nx l s t):Nx m s t :=
 ⟨(h t).1 k.1,fun e x hx=>k.2.1 e x ((h x).2 hx),fun x hx=>k.2.2 x ((h x).2 hx)⟩
theorem Z21 (a b c:Pt):Z5 a c b=-Z5 a b c:=by unfold Z5 turnV;grind
theorem Z9c (a b c:Pt):Z5 c b a=-Z5 a b c:=by unfold Z5 turnV;grind
theorem Z9d (a c:Pt):Z5 a a c=0:=by unfold Z5 turnV;grind
theorem Z1F (a c:Pt):Z5 a c a=0:=by unfold Z5 turnV;grind
theorem Z22 (a c:Pt):Z5 a c c=0:=by unfold Z5 turnV;grind
theorem Btw.l (a b:Pt):Btw a b a:=by unfold Btw;omega
theorem Btw.r (a b:Pt):Btw a b b:=by unfold Btw;omega
theorem Btw.anti {a b c:Pt} (h:Btw a b c) (k:Btw a c b):b=c:=by
 unfold Btw at *;exact Pt.ext' (by omega) (by omega)
theorem Btw.anti' {a b c:Pt} (h:Btw a b c) (k:Btw c b a):a=c:=by
 unfold Btw at *;exact Pt.ext' (by omega) (by omega)
theorem Nx.unique {l:List Pt} {s t u:Pt} (h:Nx l s t) (k:Nx l s u):t=u:=by
 have a:=h.2.2 u k.1;have b:=k.2.2 t h.1;rw [Z21] at b;exact (a.2 (by omega)).anti (b.2 (by omega))
theorem Nx.inj {l:List Pt} {s u t:Pt} (hs:s ∈ l) (hu:u ∈ l) (h:Nx l s t) (k:Nx l u t):s=u:=by
 have a:=h.2.2 u hu;have b:=k.2.2 s hs;rw [Z9c] at b;exact (a.2 (by omega)).anti' (b.2 (by omega))
structure HullOf (l h:List Pt):Prop where
 none:l=[]->h=[]
 some:l≠[]->1<=h.length
 first:l≠[]->nth h 0 ∈ l/\∀ x,x ∈ l->¬ LexLt x (nth h 0)
 next:∀ i,i<h.length->Nx l (nth h i) (nth h ((i+1) % h.length))
 back:∀ i,0<i->i<h.length->nth h i≠nth h 0
theorem HullOf.congr {l m h:List Pt} (e:∀ x,x ∈ l↔x ∈ m) (k:HullOf l h):HullOf m h:=by
 have b:∀ l:List Pt,l=[]↔∀ x,x ∉ l:=fun l=>⟨fun h=>by rw [h];simp,List.eq_nil_iff_forall_not_mem.2⟩
 have a:l=[]↔m=[]:=by
  rw [b,b];exact⟨fun h x hx=>h x ((e x).2 hx),fun h x hx=>h x ((e x).1 hx)⟩
 refine⟨fun h=>k.none (a.2 h),fun h=>k.some fun h'=>h (a.1 h'),fun h=>?_,fun i hi=>(k.next i hi).congr e,k.back⟩
 have:=k.first fun h'=>h (a.1 h')
 exact⟨(e _).1 this.1,fun x hx=>this.2 x ((e x).2 hx)⟩
theorem Zaz {l m:List Pt} (h:l.length=m.length) (e:∀ i,i<l.length->nth l i=nth m i):l=m:=by
 refine List.ext_getElem h fun i h1 h2=>?_
 have:=e i h1
 simpa [nth,List.getD_eq_getElem?_getD,List.getElem?_eq_getElem h1,List.getElem?_eq_getElem h2] using this
theorem HullOf.unique {l h k:List Pt} (a:HullOf l h) (b:HullOf l k):h=k:=by
 by_cases hl:l=[]
 ·rw [a.none hl,b.none hl]
 have f:nth h 0=nth k 0:=by
  rcases LexLt.tri (nth h 0) (nth k 0) with c | c | c
  ·exact absurd c ((b.first hl).2 _ (a.first hl).1)
  ·exact c
  ·exact absurd c ((a.first hl).2 _ (b.first hl).1)
 have d:∀ i,i<h.length->i<k.length->nth h i=nth k i:=fun i=>by
  induction i with
  | zero=>exact fun _ _=>f
  | succ i ih =>
   intro h1 h2;have x:=a.next i (by omega)
   have y:=b.next i (by omega)
   rw [Nat.mod_eq_of_lt (by omega)] at x y
   rw [ih (by omega) (by omega)] at x
   exact x.unique y
 have j:=a.some hl;have g:=b.some hl;have e:h.length=k.length:=by
  rcases Nat.lt_trichotomy h.length k.length with c | c | c
  ·have x:=a.next (h.length-1) (by omega)
   have y:=b.next (h.length-1) (by omega)
   rw [show h.length-1+1=h.length by omega] at x y
   rw [Nat.mod_self,d _ (by omega) (by omega)] at x
   rw [Nat.mod_eq_of_lt c] at y;exact absurd ((y.unique x).trans f) (b.back _ (by omega) c)
  ·exact c
  ·have x:=a.next (k.length-1) (by omega)
   have y:=b.next (k.length-1) (by omega)
   rw [show k.length-1+1=k.length by omega] at x y
   rw [Nat.mod_self,<- d _ (by omega) (by omega)] at y
   rw [Nat.mod_eq_of_lt c] at x;exact absurd ((x.unique y).trans f.symm) (a.back _ (by omega) c)
 exact Zaz e fun i hi=>d i hi (by omega)
def Ext (l:List Pt) (s:Pt):Prop:=∃ dx dy:Int,∀ x,x ∈ l->x≠s->HP dx dy (x.x-s.x) (x.y-s.y)
theorem ZaA {l:List Pt} {s:Pt} (h:∀ x,x ∈ l->¬ LexLt x s):Ext l s:=by
 refine⟨0,-1,fun x hx hne=>?_⟩
 have a:=h x hx;rcases LexLt.tri s x with b | b | b
 ·unfold HP crs dt;unfold LexLt at b;omega
 ·exact absurd b.symm hne
 ·exact absurd b a
theorem Nx.ext {l : List Pt} {s t : Pt} (h : Nx l s t) : Ext l t := by
 by_cases e:t=s
 ·exact⟨1,1,fun x hx hne=>absurd (h.2.1 e x hx) (by rw [<- e];exact hne)⟩
 ·refine⟨t.x-s.x,t.y-s.y,fun x hx hne=>?_⟩
  obtain⟨a,b⟩:=h.2.2 x hx;have c:crs (t.x-s.x) (t.y-s.y) (x.x-t.x) (x.y-t.y)=Z5 s t x:=by unfold crs Z5 turnV;grind
  unfold HP;rw [c];by_cases z:Z5 s t x=0
  ·right
   refine⟨z,?_⟩;have r:=b z;have f:¬ (x.x=t.x/\x.y=t.y):=fun e=>hne (Pt.ext' e.1 e.2)
   have m:¬ (t.x=s.x/\t.y=s.y):=fun e'=>e (Pt.ext' e'.1 e'.2)
   unfold Z5 turnV at z;unfold Btw at r;unfold dt;generalize D:t.x-s.x=p at *;generalize C:t.y-s.y=q at *;generalize E:x.x-t.x=u at *;generalize w:x.y-t.y=v at *;have F:p*v=q*u:=by
    have o:x.y-s.y=v+q:=by omega
    have n:x.x-s.x=u+p:=by omega
    rw [o,n] at z
    grind
   have H:p*u<=0:=by
    rcases Int.le_total 0 p with d | d
    ·have:=Int.mul_nonneg d (show 0<=-u by omega);rw [Int.mul_neg] at this;omega
    ·have:=Int.mul_nonneg (show 0<=-p by omega) (show 0<=u by omega);rw [Int.neg_mul] at this;omega
   have A:q*v<=0:=by
    rcases Int.le_total 0 q with d | d
    ·have:=Int.mul_nonneg d (show 0<=-v by omega);rw [Int.mul_neg] at this;omega
    ·have:=Int.mul_nonneg (show 0<=-q by omega) (show 0<=v by omega);rw [Int.neg_mul] at this;omega
   rcases Int.lt_or_le (p*u+q*v) 0 with g | g
   ·exact g
   ·exfalso
    have k:=Z0p (x:=p) (y:=q) (by omega)
    have j:(p*p+q*q)*u=(p*u+q*v)*p:=by grind
    have i:(p*p+q*q)*v=(p*u+q*v)*q:=by grind
    rw [show p*u+q*v=0 by omega,Int.zero_mul] at j i
    have B:u=0:=(Int.mul_eq_zero.1 j).resolve_left (by omega)
    have G:v=0:=(Int.mul_eq_zero.1 i).resolve_left (by omega)
    omega
  ·left;omega
def wrapStep (s t p:Pt):Pt:=if t=s\/Z5 s t p<0\/Z5 s t p=0/\Btw s p t then p else t
def nextTo (l:List Pt) (s:Pt):Nat->Pt
 | 0=>s
 | k+1=>wrapStep s (nextTo l s k) (nth l k)
def nextP (l:List Pt) (s:Pt):Pt:=nextTo l s l.length
theorem nth_mem' {l:List Pt} {k:Nat} (h:k<l.length):nth l k ∈ l:=by
 simp only [nth,List.getD_eq_getElem?_getD,List.getElem?_eq_getElem h,Option.getD_some];exact List.getElem_mem h
theorem mem_nth' {l:List Pt} {x:Pt} (h:x ∈ l):∃ k,k<l.length/\nth l k=x:=by
 obtain⟨k,a,e⟩:=List.mem_iff_getElem.1 h;exact⟨k,a,by simp [nth,List.getD_eq_getElem?_getD,List.getElem?_eq_getElem a,e]⟩
def Kept (l:List Pt) (s t:Pt) (k:Nat):Prop:=(t=s/\∀ j,j<k->nth l j=s)\/(t≠s/\(∃ j,j<k/\nth l j=t)/\∀ j,j<k->0<=Z5 s t (nth l j)/\(Z5 s t (nth l j)=0->Btw s t (nth l j)))
theorem Za5 {l : List Pt} {s t : Pt} {k : Nat} (he : Ext l s) (hk : k < l.length) (h : Kept l s t k) : Kept l s (wrapStep s t (nth l k)) (k + 1) := by
 obtain⟨I,H,he⟩:=he;have n:=nth_mem' hk;generalize i:nth l k=p at *;unfold wrapStep;rcases h with⟨rfl,h⟩ | ⟨d,⟨D,B,m⟩,h⟩
 ·rw [if_pos (.inl rfl)]
  by_cases e:p=t
  ·left
   refine⟨e,fun j hj=>?_⟩
   by_cases ej:j=k
   ·rw [ej,i,e]
   ·exact h j (by omega)
  ·right
   refine⟨e,⟨k,by omega,i⟩,fun j hj=>?_⟩
   by_cases ej:j=k
   ·rw [ej,i,Z22];exact⟨Int.le_refl _,fun _=>Btw.r _ _⟩
   ·rw [h j (by omega),Z1F];exact⟨Int.le_refl _,fun _=>Btw.l _ _⟩
 ·have w:t ∈ l:=by rw [<- m];exact nth_mem' (by omega)
  have o:=he t w d
  split
  ·rename_i c
   have f:p≠s:=fun e=>by
    subst e;rcases c with c | c | c
    ·exact d c
    ·rw [Z1F] at c;omega
    ·have:=c.2;unfold Btw at this;exact d (Pt.ext' (by omega) (by omega))
   have g:=he p n f
   right
   refine⟨f,⟨k,by omega,i⟩,fun j hj=>?_⟩
   by_cases ej:j=k
   ·rw [ej,i,Z22];exact⟨Int.le_refl _,fun _=>Btw.r _ _⟩
   ·obtain⟨z,F⟩:=h j (by omega)
    have q:nth l j ∈ l:=nth_mem' (by omega)
    generalize nth l j=x at *;by_cases hxs:x=s
    ·rw [hxs,Z1F];exact⟨Int.le_refl _,fun _=>Btw.l _ _⟩
    have E:=he x q hxs;rcases c with c | c | ⟨c,G⟩
    ·exact absurd c d
    ·have a:0<Z5 s p t:=by rw [Z21];omega
     have:=Z5i g o E a z
     change 0<Z5 s p x at this
     exact⟨Int.le_of_lt this,fun e=>by omega⟩
    ·
     have u:=Z3b o g c;have v:dt (t.x-s.x) (t.y-s.y) (p.x-s.x) (p.y-s.y)*Z5 s t x=((t.x-s.x)*(t.x-s.x)+(t.y-s.y)*(t.y-s.y))*Z5 s p x:=by
      unfold Z5 turnV dt at *;grind
     have A:0<(t.x-s.x)*(t.x-s.x)+(t.y-s.y)*(t.y-s.y):=Z0p fun e=>d (Pt.ext' (by omega) (by omega))
     refine⟨Z06 A (by rw [<- v];exact Int.mul_nonneg (Int.le_of_lt u) z),fun e=>?_⟩
     rw [e,Int.mul_zero] at v;have:=F ((Int.mul_eq_zero.1 v).resolve_left (by omega))
     unfold Btw at *;omega
  ·rename_i c
   right
   refine⟨d,⟨D,by omega,m⟩,fun j hj=>?_⟩
   by_cases ej:j=k
   ·rw [ej,i]
    have C:¬ Z5 s t p<0:=fun h=>c (.inr (.inl h))
    refine⟨by omega,fun e=>?_⟩
    by_cases f:p=s
    ·rw [f];exact Btw.l _ _
    have g:=he p n f;have u:=Z3b o g e;rcases Z6s e u with b | b
    ·exact absurd (.inr (.inr ⟨e,by unfold Btw;omega⟩)) c
    ·unfold Btw;omega
   ·exact h j (by omega)
theorem Za4 {l:List Pt} {s:Pt} (he:Ext l s):∀ k,k<=l.length->Kept l s (nextTo l s k) k
 | 0,_=>.inl ⟨rfl,fun j h=>by omega⟩
 | k+1,h=>Za5 he (by omega) (Za4 he k (by omega))
theorem Z7D {l:List Pt} {s:Pt} (he:Ext l s) (hs:s ∈ l):Nx l s (nextP l s):=by
 rcases Za4 he l.length (qN _) with⟨a,d⟩ | ⟨a,⟨j,g,f⟩,d⟩
 ·change nextP l s=s at a
  rw [a];have b:∀ x,x ∈ l->x=s:=fun x hx=>by obtain⟨k,c,rfl⟩:=mem_nth' hx;exact d k c
  exact⟨hs,fun _=>b,fun x hx=>by rw [b x hx,Z9d];exact⟨Int.le_refl _,fun _=>Btw.l _ _⟩⟩
 ·change nextP l s≠s at a
  change nth l j=nextP l s at f
  refine⟨by rw [<- f];exact nth_mem' g,fun e=>absurd e a,fun x hx=>?_⟩
  obtain⟨k,c,rfl⟩:=mem_nth' hx;exact d k c
def walkP (l:List Pt) (s:Pt):Nat->Pt
 | 0=>s
 | k+1=>nextP l (walkP l s k)
theorem Z2u {l:List Pt} {s:Pt} (hs:s ∈ l) (hf:∀ x,x ∈ l->¬ LexLt x s):∀ k,walkP l s k ∈ l/\Ext l (walkP l s k)
 | 0=>⟨hs,ZaA hf⟩
 | k + 1 => by
  obtain⟨a,b⟩:=Z2u hs hf k;have:=Z7D b a;exact⟨this.1,this.ext⟩
theorem Z6w {l:List Pt} {s:Pt} (hs:s ∈ l) (hf:∀ x,x ∈ l->¬ LexLt x s) (k:Nat):Nx l (walkP l s k) (walkP l s (k+1)) :=
 Z7D (Z2u hs hf k).2 (Z2u hs hf k).1
theorem Z7B:∀ {l m:List Pt},l.Nodup->(∀ x,x ∈ l->x ∈ m)->l.length<=m.length
 | [],_,_,_=>Nat.zero_le _
 | a :: l, m, hn, h => by
  have hn':=List.nodup_cons.1 hn;have ham:=h a (by simp)
  have:=Z7B (l:=l) (m:=m.erase a) hn'.2 fun x hx=>by
   have hne:x≠a:=fun e=>hn'.1 (e ▸ hx)
   exact (List.mem_erase_of_ne hne).2 (h x (List.mem_cons_of_mem _ hx))
  rw [List.length_erase_of_mem ham] at this;have:0<m.length:=List.length_pos_of_mem ham;simp only [List.length_cons];omega
theorem pigeon {m:List Pt} (f:Nat->Pt) (h:∀ k,f k ∈ m):∃ i j,i<j/\j<=m.length/\f i=f j:=by
 apply Classical.byContradiction
 intro hn;have c:((List.range (m.length+1)).map f).Nodup:=by
  rw [List.nodup_iff_pairwise_ne,List.pairwise_map];refine List.Pairwise.imp_of_mem ?_ List.pairwise_lt_range;intro a b ha hb hab e;exact hn ⟨a,b,hab,by have:=List.mem_range.1 hb;omega,e⟩
 have:=Z7B c (m:=m) fun x hx=>by
  obtain⟨i,_,rfl⟩:=List.mem_map.1 hx;exact h i
 simp at this;omega
theorem Z97 {l:List Pt} {s:Pt} (hs:s ∈ l) (hf:∀ x,x ∈ l->¬ LexLt x s):∃ n,1<=n/\n<=l.length/\walkP l s n=s:=by
 obtain⟨i,j,d,f,e⟩:=pigeon (walkP l s) fun k=>(Z2u hs hf k).1
 have c:∀ i j,i<j->walkP l s i=walkP l s j->walkP l s (j-i)=s:=fun i=>by
  induction i with
  | zero=>intro j _ e;exact e.symm
  | succ i ih =>
   intro j f e;have a:=Z6w hs hf i;have b:=Z6w hs hf (j-1);rw [show j-1+1=j by omega,<- e] at b
   have:=ih (j-1) (by omega) (a.inj (Z2u hs hf i).1 (Z2u hs hf (j-1)).1 b)
   rwa [show j-(i+1)=j-1-i by omega]
 exact⟨j-i,by omega,by omega,c i j d e⟩
theorem Z9Z {p:Nat->Prop}:∀ n,p n->∃ m,m<=n/\p m/\∀ k,k<m->¬ p k:=fun n=>by
 induction n using Nat.strongRecOn with
 | ind n ih =>
  intro hn;by_cases h:∃ k,k<n/\p k
  ·obtain⟨k,hk,pk⟩:=h
   obtain⟨m,h1,h2,h3⟩:=ih k hk pk;exact⟨m,by omega,h2,h3⟩
  ·exact⟨n,qN _,hn,fun k hk pk=>h ⟨k,hk,pk⟩⟩
theorem Z8b {l:List Pt} {s:Pt} (hs:s ∈ l) (hf:∀ x,x ∈ l->¬ LexLt x s):∃ n,1<=n/\n<=l.length/\walkP l s n=s/\∀ k,1<=k->k<n->walkP l s k≠s:=by
 obtain⟨n,g,h,f⟩:=Z97 hs hf;obtain⟨m,a,⟨b,c⟩,d⟩:=Z9Z (p:=fun k=>1<=k/\walkP l s k=s) n ⟨g,f⟩
 exact⟨m,b,by omega,c,fun k k1 k2 e=>d k k2 ⟨k1,e⟩⟩
theorem Z1q (f:Nat->Pt) {n k:Nat} (h:k<n):nth ((List.range n).map f) k=f k:=by
 simp [nth,List.getD_eq_getElem?_getD,h]
theorem Zad {l:List Pt} {s:Pt} {n:Nat} (hs:s ∈ l) (hf:∀ x,x ∈ l->¬ LexLt x s) (h1:1<=n) (hr:walkP l s n=s) (hb:∀ k,1<=k->k<n->walkP l s k≠s):HullOf l ((List.range n).map (walkP l s)):=by
 refine⟨fun h=>by rw [h] at hs;simp at hs,fun _=>by simp;omega,fun _=>?_,fun i hi=>?_,fun i h0 hi=>?_⟩
 ·rw [Z1q _ (by omega)];exact⟨hs,hf⟩
 ·simp only [List.length_map,List.length_range] at hi ⊢
  rw [Z1q _ hi,Z1q _ (Nat.mod_lt _ (by omega))]
  have:=Z6w hs hf i;by_cases e:i+1=n
  ·rw [e,Nat.mod_self]
   rw [e,hr] at this;exact this
  ·rw [Nat.mod_eq_of_lt (by omega)];exact this
 ·simp only [List.length_map,List.length_range] at hi
  rw [Z1q _ hi,Z1q _ (by omega)]
  exact hb i h0 hi
def leastTo (l:List Pt):Nat->Pt
 | 0=>nth l 0
 | k+1=>if LexLt (nth l k) (leastTo l k) then nth l k else leastTo l k
theorem Z3I {l:List Pt} (h1:1<=l.length):∀ k,k<=l.length->leastTo l k ∈ l
 | 0,_=>nth_mem' (by omega)
 | k + 1, h => by
  simp only [leastTo]
  split
  ·exact nth_mem' (by omega)
  ·exact Z3I h1 k (by omega)
theorem Z4t {l:List Pt}:∀ k j,j<k->¬ LexLt (nth l j) (leastTo l k)
 | 0,j,h=>by omega
 | k + 1, j, h => by
  simp only [leastTo];by_cases e:j=k
  ·subst e
   split
   ·exact fun h=>h.irrefl
   ·assumption
  ·have ih:=Z4t (l:=l) k j (by omega)
   split
   ·rename_i h';exact fun h''=>ih (h''.trans h')
   ·exact ih
def leastP (l:List Pt):Pt:=leastTo l l.length
theorem Z4u {l:List Pt} (h1:1<=l.length):leastP l ∈ l:=Z3I h1 _ (qN _)
theorem Z5Y {l:List Pt}:∀ x,x ∈ l->¬ LexLt x (leastP l):=fun x hx=>by
 obtain⟨j,hj,rfl⟩:=mem_nth' hx;exact Z4t _ j hj
theorem Z1W (l:List Pt):∃ h,HullOf l h/\h.length<=l.length:=by
 by_cases hl:l=[]
 ·exact⟨[],⟨fun _=>rfl,fun h=>absurd hl h,fun h=>absurd hl h,fun i hi=>by simp at hi,fun i _ hi=>by simp at hi⟩,by simp⟩
 ·have e:1<=l.length:=List.length_pos_iff.2 hl
  obtain⟨n,a,b,c,d⟩:=Z8b (Z4u e) Z5Y;exact⟨_,Zad (Z4u e) Z5Y a c d,by simpa using b⟩
noncomputable def hullP (l:List Pt):List Pt:=Classical.choose (Z1W l)
theorem Z0C (l:List Pt):HullOf l (hullP l):=(Classical.choose_spec (Z1W l)).1
theorem Z2c (l:List Pt):(hullP l).length<=l.length:=(Classical.choose_spec (Z1W l)).2
theorem Z3a {l h:List Pt} (k:HullOf l h):h=hullP l:=k.unique (Z0C l)
theorem Z6W {l m:List Pt} (e:∀ x,x ∈ l↔x ∈ m):hullP l=hullP m:=Z3a ((Z0C l).congr e)
theorem Zae {l:List Pt} {x:Pt} (h:x ∈ hullP l):x ∈ l:=by
 obtain⟨k,a,rfl⟩:=mem_nth' h;have e:=Z0C l;by_cases h0:k=0
 ·subst h0
  by_cases hl:l=[]
  ·rw [e.none hl] at a;simp at a
  ·exact (e.first hl).1
 ·have:=e.next (k-1) (by omega)
  rw [show k-1+1=k by omega,Nat.mod_eq_of_lt a] at this
  exact this.1
theorem Z1t {a b:Pt} (h:LexLt a b):HP 0 (-1) (b.x-a.x) (b.y-a.y):=by
 unfold HP crs dt;unfold LexLt at h;omega
theorem half_trans' {p1 q1 p2 q2 p3 q3:Int} (h1:0<q1\/q1=0/\p1<0) (h2:0<q2\/q2=0/\p2<0) (h3:0<q3\/q3=0/\p3<0)
  (a:0<=p1*q2-q1*p2) (b:0<p2*q3-q2*p3):0<p1*q3-q1*p3:=by
 have c:q2*(p1*q3-q1*p3)=q3*(p1*q2-q1*p2)+q1*(p2*q3-q2*p3):=by grind
 rcases h2 with h2 | ⟨rfl,h2⟩
 ·refine Z0Z h2 ?_
  rw [c];rcases h1 with h1 | ⟨rfl,h1⟩
  ·have x:=Int.mul_pos h1 b
   have y:=Int.mul_nonneg (show 0<=q3 by omega) a
   omega
  ·have:=Int.mul_pos (show 0 < -p1 by omega) h2
   rw [Int.neg_mul] at this;omega
 ·rcases h3 with h3 | ⟨rfl,h3⟩
  ·have:=Int.mul_pos (show 0 < -p2 by omega) h3
   rw [Int.neg_mul] at this;omega
  ·simp at b
theorem hp_trans' {dx dy ux uy vx vy wx wy:Int} (hu:HP dx dy ux uy) (hv:HP dx dy vx vy) (hw:HP dx dy wx wy) (a:0<=crs ux uy vx vy) (b:0<crs vx vy wx wy):0<crs ux uy wx wy:=by
 have c:=Z0p hu.ne;refine Z0Z c ?_;rw [Z6f];have d:=Int.mul_nonneg (Int.le_of_lt c) a;have e:=Int.mul_pos c b;rw [Z6f] at d e;exact half_trans' hu hv hw d e
theorem Z9X {a b y:Pt} (h:Z5 a b y=0) (h1:LexLt a y) (h2:LexLt y b):Btw a b y:=by
 have j:=Z1t h1;have i:=Z1t (h1.trans h2);have e:crs (b.x-a.x) (b.y-a.y) (y.x-a.x) (y.y-a.y)=0:=h;rcases Z6s e (Z3b i j e) with k | k
 ·
  unfold crs at e;have d:=h1.trans h2;unfold LexLt at h1 h2 d;unfold Btw;by_cases c:a.x<b.x
  ·have g:y.x=b.x:=by omega
   rw [g] at e;have f:(b.x-a.x)*(y.y-b.y)=0:=by grind
   have:y.y-b.y=0:=(Int.mul_eq_zero.1 f).resolve_left (by omega)
   omega
  ·omega
 ·unfold Btw;omega
def keepN (l:List Pt) (x:Pt):Nat->Nat
 | 0=>0
 | n+1=>if 0<n/\Z5 (nth l (n-1)) (nth l n) x<=0 then keepN l x n else n+1
theorem Z0S (l:List Pt) (x:Pt):∀ n,keepN l x n<=n
 | 0=>qN _
 | n+1=>by simp only [keepN];split;exact Nat.le_succ_of_le (Z0S l x n);exact qN _
theorem Z61 (l:List Pt) (x:Pt):∀ n,1<=n->1<=keepN l x n
 | 0,h=>by omega
 | n + 1, _ => by
  simp only [keepN]
  split
  ·exact Z61 l x n (by omega)
  ·omega
theorem Z4x (l:List Pt) (x:Pt):∀ n,2<=keepN l x n->0<Z5 (nth l (keepN l x n-2)) (nth l (keepN l x n-1)) x
 | 0,h=>by simp [keepN] at h
 | n + 1, h => by
  simp only [keepN] at h ⊢
  split
  ·rename_i c;rw [if_pos c] at h;exact Z4x l x n h
  ·rename_i c
   rw [if_neg c] at h;have:¬ Z5 (nth l (n-1)) (nth l n) x<=0:=fun h'=>c ⟨by omega,h'⟩
   rw [show n+1-2=n-1 by omega,Nat.add_sub_cancel]
   omega
theorem Z62 (l:List Pt) (x:Pt):∀ n,keepN l x n<n->Z5 (nth l (keepN l x n-1)) (nth l (keepN l x n)) x<=0
 | 0,h=>by omega
 | n + 1, h => by
  simp only [keepN] at h ⊢;by_cases c:0<n/\Z5 (nth l (n-1)) (nth l n) x<=0
  ·rw [if_pos c] at h ⊢
   by_cases e:keepN l x n=n
   ·rw [e];exact c.2
   ·exact Z62 l x n (by have:=Z0S l x n;omega)
  ·rw [if_neg c] at h;omega
def pushP (l:List Pt) (x:Pt):List Pt:=l.take (keepN l x l.length)++[x]
def chainTo (s:List Pt):Nat->List Pt
 | 0=>[]
 | k+1=>pushP (chainTo s k) (nth s k)
def chainP (s:List Pt):List Pt:=chainTo s s.length
theorem Z5O (l:List Pt) (x:Pt):(pushP l x).length=keepN l x l.length+1:=by
 simp only [pushP,List.length_append,List.length_take,List.length_singleton];have:=Z0S l x l.length;omega
theorem Z6M {l:List Pt} {x:Pt} {i:Nat} (h:i<keepN l x l.length):nth (pushP l x) i=nth l i:=by
 have:=Z0S l x l.length;unfold pushP nth;rw [List.getD_eq_getElem?_getD,List.getD_eq_getElem?_getD,List.getElem?_append_left (by rw [List.length_take];omega),List.getElem?_take_of_lt h]
theorem Z6N {l:List Pt} {x:Pt}:nth (pushP l x) (keepN l x l.length)=x:=by
 have:=Z0S l x l.length;simp [pushP,nth,List.getD_eq_getElem?_getD,Nat.min_eq_left this]
theorem Z0L (s:List Pt):∀ k,(chainTo s k).length<=k
 | 0=>qN _
 | k + 1 => by
  simp only [chainTo];rw [Z5O];have:=Z0S (chainTo s k) (nth s k) (chainTo s k).length;have:=Z0L s k;omega
def Inc (s:List Pt):Prop:=∀ i j,i<j->j<s.length->LexLt (nth s i) (nth s j)
structure ChainI (s:List Pt) (k:Nat) (L:List Pt):Prop where
 pos:1<=L.length
 first:nth L 0=nth s 0
 last:nth L (L.length-1)=nth s (k-1)
 inc:∀ i,i+1<L.length->LexLt (nth L i) (nth L (i+1))
 mem:∀ i,i<L.length->∃ j,j<k/\nth s j=nth L i
 left:∀ i,i+1<L.length->∀ j,j<k->0<=Z5 (nth L i) (nth L (i+1)) (nth s j)/\(Z5 (nth L i) (nth L (i+1)) (nth s j)=0->Btw (nth L i) (nth L (i+1)) (nth s j))
theorem ChainI.inc' {s L:List Pt} {k:Nat} (h:ChainI s k L):∀ d i,i+d+1<L.length->LexLt (nth L i) (nth L (i+d+1)):=fun d=>by
 induction d with
 | zero=>exact fun i hi=>h.inc i hi
 | succ d ih=>exact fun i hi=>(ih i (by omega)).trans (h.inc (i+d+1) (by omega))
theorem ChainI.strict {s L:List Pt} {k:Nat} (h:ChainI s k L) {i:Nat} (hi:i+2<L.length):0<Z5 (nth L i) (nth L (i+1)) (nth L (i+2)):=by
 obtain⟨j,g,e⟩:=h.mem (i+2) hi;have a:=h.left i (by omega) j g
 rw [e] at a;rcases Int.lt_or_le 0 (Z5 (nth L i) (nth L (i+1)) (nth L (i+2))) with c | c
 ·exact c
 ·have b:=a.2 (by omega)
  have f:=h.inc i (by omega)
  have d:=h.inc (i+1) (by omega)
  rw [show i+1+1=i+2 by omega] at d
  have l:=Z9X (a:=nth L i) (b:=nth L (i+2)) (y:=nth L (i+1)) (by rw [Z21];omega) f d
  exact absurd (b.anti l) d.ne
theorem Z8U {s L : List Pt} {k : Nat} (hs : Inc s) (h1 : 1 <= k) (hk : k < s.length) (h : ChainI s k L) : ChainI s (k + 1) (pushP L (nth s k)) := by
 have N:∀ j,j<k->LexLt (nth s j) (nth s k):=fun j f=>hs j k f hk
 generalize g:nth s k=x at *;have X:=Z61 L x L.length h.pos;have W:=Z0S L x L.length;have K:=Z4x L x L.length;have R:=Z62 L x L.length;have V:=Z5O L x;have m:∀ i,i<keepN L x L.length->nth (pushP L x) i=nth L i:=fun i hi=>Z6M hi
 have D:nth (pushP L x) (keepN L x L.length)=x:=Z6N;generalize pushP L x=M at *;generalize keepN L x L.length=n at *;have F:∀ i,i<L.length->LexLt (nth L i) x:=fun i hi=>by
  obtain⟨j,f,e⟩:=h.mem i hi;rw [<- e];exact N j f
 have H:∀ d i,i+d+2=n->0<Z5 (nth L i) (nth L (i+1)) x:=fun d=>by
  induction d with
  | zero =>
   intro i hi;have:=K (by omega)
   rw [show n-2=i by omega,show n-1=i+1 by omega] at this
   exact this
  | succ d ih =>
   intro i hi;have a:=ih (i+1) (by omega)
   have b:=h.strict (i:=i) (by omega)
   have u:=Z1t (h.inc i (by omega))
   have v:=Z1t (h.inc (i+1) (by omega))
   have w:=Z1t (F (i+1) (by omega))
   have S:0<crs ((nth L (i+1)).x-(nth L i).x) ((nth L (i+1)).y-(nth L i).y) ((nth L (i+1+1)).x-(nth L (i+1)).x) ((nth L (i+1+1)).y-(nth L (i+1)).y):=by
    have e:crs ((nth L (i+1)).x-(nth L i).x) ((nth L (i+1)).y-(nth L i).y) ((nth L (i+1+1)).x-(nth L (i+1)).x) ((nth L (i+1+1)).y-(nth L (i+1)).y)=Z5 (nth L i) (nth L (i+1)) (nth L (i+2)):=by unfold crs Z5 turnV;grind
    rw [e];exact b
   have c:=Z5i u v w S (Int.le_of_lt a);have e:crs ((nth L (i+1)).x-(nth L i).x) ((nth L (i+1)).y-(nth L i).y) (x.x-(nth L (i+1)).x) (x.y-(nth L (i+1)).y)=Z5 (nth L i) (nth L (i+1)) x:=by unfold crs Z5 turnV;grind
   rw [e] at c;exact c
 have I:∀ j,j<k->0<=Z5 (nth L (n-1)) x (nth s j)/\(Z5 (nth L (n-1)) x (nth s j)=0->Btw (nth L (n-1)) x (nth s j)):=fun j f=>by
  have J:=F (n-1) (by omega)
  have Q:=N j f;rcases LexLt.tri (nth s j) (nth L (n-1)) with c | c | c
  ·
   have A:2<=n:=by
    rcases Nat.lt_or_ge n 2 with t | t
    ·have e:n-1=0:=by omega
     rw [e,h.first] at c
     by_cases e0:j=0
     ·subst e0;exact absurd c (fun h=>h.irrefl)
     ·exact absurd (c.trans (hs 0 j (by omega) (by omega))) (fun h=>h.irrefl)
    ·exact t
   have P:=K A;have B:=(h.left (n-2) (by omega) j f).1
   have o:=Z1t (h.inc (n-2) (by omega))
   rw [show n-2+1=n-1 by omega] at B o
   have E:=Z1t J;have G:=Z1t c;generalize nth L (n-2)=p at *;generalize nth L (n-1)=q at *;generalize nth s j=y at *;have a:crs (q.x-y.x) (q.y-y.y) (q.x-p.x) (q.y-p.y)=Z5 p q y:=by unfold crs Z5 turnV;grind
   have b:crs (q.x-p.x) (q.y-p.y) (x.x-q.x) (x.y-q.y)=Z5 p q x:=by unfold crs Z5 turnV;grind
   have r:=hp_trans' G o E (by omega) (by omega)
   have e:crs (q.x-y.x) (q.y-y.y) (x.x-q.x) (x.y-q.y)=Z5 q x y:=by unfold crs Z5 turnV;grind
   rw [e] at r;exact⟨Int.le_of_lt r,fun h=>by omega⟩
  ·rw [c,Z1F];exact⟨Int.le_refl _,fun _=>Btw.l _ _⟩
  ·have A:n<L.length:=by
    rcases Nat.lt_or_ge n L.length with t | t
    ·exact t
    ·have e:n-1=L.length-1:=by omega
     rw [e,h.last] at c;by_cases e0:j=k-1
     ·subst e0;exact absurd c (fun h=>h.irrefl)
     ·exact absurd (c.trans (hs j (k-1) (by omega) (by omega))) (fun h=>h.irrefl)
   have P:=R A;have B:=(h.left (n-1) (by omega) j f).1
   have o:=Z1t (h.inc (n-1) (by omega))
   rw [show n-1+1=n by omega] at B o
   have E:=Z1t J;have G:=Z1t c;refine⟨?_,fun e=>Z9X e c Q⟩
   generalize nth L (n-1)=q at *;generalize nth L n=r at *;generalize nth s j=y at *;by_cases z:Z5 q r x=0
   ·have T:=Z3b o E z
    have U:dt (r.x-q.x) (r.y-q.y) (x.x-q.x) (x.y-q.y)*Z5 q r y=((r.x-q.x)*(r.x-q.x)+(r.y-q.y)*(r.y-q.y))*Z5 q x y:=by
     unfold Z5 turnV dt at *;grind
    have A:0<(r.x-q.x)*(r.x-q.x)+(r.y-q.y)*(r.y-q.y):=Z0p fun e=>by unfold HP crs dt at o;omega
    exact Z06 A (by rw [<- U];exact Int.mul_nonneg (Int.le_of_lt T) B)
   ·have a:0<Z5 q x r:=by rw [Z21];omega
    have:=Z5i E o G a B
    change 0<Z5 q x y at this
    exact Int.le_of_lt this
 refine⟨by omega,?_,?_,fun i hi=>?_,fun i hi=>?_,fun i hi j f=>?_⟩
 ·rw [m 0 (by omega)];exact h.first
 ·rw [show M.length-1=n by omega,D,Nat.add_sub_cancel]
  exact g.symm
 ·by_cases e:i+1=n
  ·rw [e,D,m i (by omega)];exact F i (by omega)
  ·rw [m i (by omega),m (i+1) (by omega)];exact h.inc i (by omega)
 ·by_cases e:i=n
  ·exact⟨k,by omega,by rw [e,D,g]⟩
  ·rw [m i (by omega)]
   obtain⟨j,f,C⟩:=h.mem i (by omega)
   exact⟨j,by omega,C⟩
 ·by_cases e:i+1=n
  ·rw [e,D,m i (by omega)]
   by_cases C:j=k
   ·rw [C,g,Z22];exact⟨Int.le_refl _,fun _=>Btw.r _ _⟩
   ·rw [show i=n-1 by omega];exact I j (by omega)
  ·rw [m i (by omega),m (i+1) (by omega)]
   by_cases C:j=k
   ·have:=H (n-i-2) i (by omega)
    rw [C,g];exact⟨Int.le_of_lt this,fun h=>by omega⟩
   ·exact h.left i (by omega) j (by omega)
theorem Z1A {s:List Pt} (hs:Inc s):∀ k,1<=k->k<=s.length->ChainI s k (chainTo s k)
 | 0,h,_=>by omega
 | k + 1, _, hk => by
  by_cases e:k=0
  ·subst e
   have e1:chainTo s 1=[nth s 0]:=by simp [chainTo,pushP,keepN]
   rw [e1];exact⟨by simp,rfl,rfl,fun i hi=>by simp at hi,fun i hi=>⟨0,by omega,by simp at hi;subst hi;rfl⟩,fun i hi=>by simp at hi⟩
  ·exact Z8U hs (by omega) (by omega) (Z1A hs k (by omega) (by omega))
def ng (a:Pt):Pt:=⟨-a.x,-a.y⟩
theorem Z0j (l:List Pt) (i:Nat):nth (l.map ng) i=ng (nth l i):=by
 by_cases h:i<l.length
 ·simp [nth,List.getD_eq_getElem?_getD,h]
 ·simp [nth,List.getD_eq_getElem?_getD,List.getElem?_eq_none (Nat.le_of_not_lt h),ng]
theorem Z9a (a b c:Pt):Z5 (ng a) (ng b) (ng c)=Z5 a b c:=by unfold Z5 turnV ng;grind
theorem btw_ng {a b c:Pt}:Btw (ng a) (ng b) (ng c)↔Btw a b c:=by simp only [Btw,ng];omega
theorem Z9W {a b:Pt}:LexLt (ng a) (ng b)↔LexLt b a:=by simp only [LexLt,ng];omega
theorem Z7C {a b:Pt} (h:ng a=ng b):a=b:=by
 unfold ng at h;simp only [Pt.mk.injEq] at h;exact Pt.ext' (by omega) (by omega)
theorem Z7J (l:List Pt) (x:Pt):∀ n,keepN (l.map ng) (ng x) n=keepN l x n
 | 0=>rfl
 | n+1=>by simp only [keepN,Z0j,Z9a,Z7J l x n]
theorem ZcJ (l:List Pt) (x:Pt):pushP (l.map ng) (ng x)=(pushP l x).map ng:=by
 simp [pushP,Z7J,List.map_take]
theorem Z2K (s:List Pt):∀ k,chainTo (s.map ng) k=(chainTo s k).map ng
 | 0=>rfl
 | k+1=>by simp only [chainTo,Z0j,Z2K s k,ZcJ]
theorem Z0G {s:List Pt} {i:Nat} (h:i<s.length):nth s.reverse i=nth s (s.length-1-i):=by
 simp [nth,List.getD_eq_getElem?_getD,List.getElem?_reverse h]
def twoP (s:List Pt):List Pt:=(chainP s).dropLast++(chainP s.reverse).dropLast
theorem Z2Q {l:List Pt} {i:Nat} (h:i+1<l.length):nth l.dropLast i=nth l i:=by
 simp [nth,List.getD_eq_getElem?_getD,show i<l.length-1 by omega,List.getElem?_eq_getElem (show i<l.length by omega)]
theorem Z5X {l m:List Pt} {i:Nat} (h:i<l.length):nth (l++m) i=nth l i:=by
 simp [nth,List.getD_eq_getElem?_getD,List.getElem?_append,h]
theorem Z9Q {l m:List Pt} {i:Nat} (h:l.length<=i):nth (l++m) i=nth m (i-l.length):=by
 simp [nth,List.getD_eq_getElem?_getD,List.getElem?_append,show ¬ i<l.length by omega]
theorem Zbe {s : List Pt} (hs : Inc s) (h2 : 2 <= s.length) : HullOf s (twoP s) := by
 have b:=Z1A hs s.length (by omega) (qN _)
 have E:Inc (s.reverse.map ng):=fun i j hij f=>by
  simp only [List.length_map,List.length_reverse] at f;rw [Z0j,Z0j,Z9W,Z0G (by omega),Z0G (by omega)]
  exact hs _ _ (by omega) (by omega)
 have a:=Z1A E s.length (by omega) (by simp)
 rw [Z2K] at a;have G:chainTo s s.length=chainP s:=rfl;have F:chainTo s.reverse s.length=chainP s.reverse:=by unfold chainP;rw [List.length_reverse]
 rw [G] at b;rw [F] at a;unfold twoP;generalize chainP s=A at *;generalize chainP s.reverse=B at *;have o:nth s 0≠nth s (s.length-1):=(hs 0 (s.length-1) (by omega) (by omega)).ne
 have n:(B.map ng).length=B.length:=by simp
 have m:nth B 0=nth s (s.length-1):=by
  have:=a.first
  rw [Z0j,Z0j,Z0G (by omega)] at this
  exact Z7C this
 have g:nth B (B.length-1)=nth s 0:=by
  have:=a.last;rw [n,Z0j,Z0j,Z0G (by omega)] at this
  have:=Z7C this
  rwa [show s.length-1-(s.length-1)=0 by omega] at this
 have l:∀ i,i+1<B.length->LexLt (nth B (i+1)) (nth B i):=fun i hi=>by
  have:=a.inc i (by rw [n];exact hi)
  rwa [Z0j,Z0j,Z9W] at this
 have y:∀ i,i<B.length->nth B i ∈ s:=fun i hi=>by
  obtain⟨j,f,e⟩:=a.mem i (by rw [n];exact hi)
  rw [Z0j,Z0j] at e;rw [<- Z7C e,Z0G f];exact nth_mem' (by omega)
 have u:∀ i,i+1<B.length->∀ x,x ∈ s->0<=Z5 (nth B i) (nth B (i+1)) x/\(Z5 (nth B i) (nth B (i+1)) x=0->Btw (nth B i) (nth B (i+1)) x):=fun i hi x hx=>by
  obtain⟨j,f,rfl⟩:=mem_nth' hx;have:=a.left i (by rw [n];exact hi) (s.length-1-j) (by omega)
  rwa [Z0j,Z0j,Z0j,Z9a,btw_ng,Z0G (by omega),show s.length-1-(s.length-1-j)=j by omega] at this
 have v:∀ i,i<A.length->nth A i ∈ s:=fun i hi=>by
  obtain⟨j,f,e⟩:=b.mem i hi;rw [<- e];exact nth_mem' f
 have z:∀ i,i+1<A.length->∀ x,x ∈ s->0<=Z5 (nth A i) (nth A (i+1)) x/\(Z5 (nth A i) (nth A (i+1)) x=0->Btw (nth A i) (nth A (i+1)) x):=fun i hi x hx=>by
  obtain⟨j,f,rfl⟩:=mem_nth' hx;exact b.left i hi j f
 have K:2<=A.length:=by
  rcases Nat.lt_or_ge A.length 2 with h | h
  ·have:=b.last
   rw [show A.length-1=0 by have:=b.pos;omega,b.first] at this
   exact absurd this o
  ·exact h
 have J:2<=B.length:=by
  rcases Nat.lt_or_ge B.length 2 with h | h
  ·have D:=a.pos
   rw [n] at D;rw [show B.length-1=0 by omega,m] at g
   exact absurd g.symm o
  ·exact h
 have q:∀ i,i+1<A.length->nth (A.dropLast++B.dropLast) i=nth A i:=fun i hi=>by
  rw [Z5X (by simp;omega),Z2Q hi]
 have r:∀ i,i+1<B.length->nth (A.dropLast++B.dropLast) (A.length-1+i)=nth B i:=fun i hi=>by
  rw [Z9Q (by simp),List.length_dropLast,show A.length-1+i-(A.length-1)=i by omega,Z2Q hi]
 have C:(A.dropLast++B.dropLast).length=A.length-1+(B.length-1):=by simp
 have t:nth (A.dropLast++B.dropLast) 0=nth s 0:=by rw [q 0 (by omega),b.first]
 have I:∀ x,x ∈ s->x=nth s 0\/LexLt (nth s 0) x:=fun x hx=>by
  obtain⟨j,f,rfl⟩:=mem_nth' hx;by_cases e:j=0
  ·left;rw [e]
  ·right;exact hs 0 j (by omega) f
 generalize A.dropLast++B.dropLast=H at *;refine⟨fun h=>by rw [h] at h2;simp at h2,fun _=>by omega,fun _=>?_,fun i hi=>?_,fun i h0 hi=>?_⟩
 ·rw [t]
  exact⟨nth_mem' (by omega),fun x hx h=>by rcases I x hx with e | e;exact (e ▸ h).irrefl;exact (h.trans e).irrefl⟩
 ·by_cases c:i+1<A.length
  ·have w:nth H ((i+1) % H.length)=nth A (i+1):=by
    rw [Nat.mod_eq_of_lt (by omega)]
    by_cases c2:i+2<A.length
    ·exact q (i+1) c2
    ·have:=r 0 (by omega)
     rw [show i+1=A.length-1+0 by omega,this,m,Nat.add_zero,b.last]
   rw [w,q i c];exact⟨v _ c,fun e=>absurd e (Ne.symm (b.inc i c).ne),z i c⟩
  ·obtain⟨k,rfl⟩:∃ k,i=A.length-1+k:=⟨i-(A.length-1),by omega⟩
   have w:nth H ((A.length-1+k+1) % H.length)=nth B (k+1):=by
    by_cases c2:k+2<B.length
    ·rw [Nat.mod_eq_of_lt (by omega)]
     exact r (k+1) c2
    ·rw [show A.length-1+k+1=H.length by omega,Nat.mod_self,t,show k+1=B.length-1 by omega,g]
   rw [w,r k (by omega)]
   exact⟨y _ (by omega),fun e=>absurd e (l k (by omega)).ne,u k (by omega)⟩
 ·rw [t]
  by_cases c:i+1<A.length
  ·rw [q i c]
   have:=b.inc' (i-1) 0 (by omega)
   rw [b.first,show 0+(i-1)+1=i by omega] at this
   exact Ne.symm this.ne
  ·obtain⟨k,rfl⟩:∃ k,i=A.length-1+k:=⟨i-(A.length-1),by omega⟩
   rw [r k (by omega)]
   have p:∀ d k,k+d+1<B.length->LexLt (nth B (k+d+1)) (nth B k):=fun d=>by
    induction d with
    | zero=>exact fun k hk=>l k hk
    | succ d ih=>exact fun k hk=>(l (k+d+1) (by omega)).trans (ih k (by omega))
   have:=p (B.length-1-k-1) k (by omega)
   rw [show k+(B.length-1-k-1)+1=B.length-1 by omega,g] at this
   exact Ne.symm this.ne
theorem Z7x (a:Pt):HullOf [a] [a]:=by
 refine⟨fun h=>by simp at h,fun _=>by simp,fun _=>⟨by simp [nth],fun x hx h=>?_⟩,fun i hi=>?_,fun i h0 hi=>?_⟩
 ·simp only [List.mem_singleton] at hx
  subst hx;exact h.irrefl
 ·simp only [List.length_singleton] at hi ⊢
  obtain rfl:i=0:=by omega
  refine⟨by simp [nth],fun _ x hx=>by simpa [nth] using hx,fun x hx=>?_⟩
  simp only [List.mem_singleton] at hx;subst hx;simp only [nth,Nat.zero_add,Nat.mod_self]
  show 0<=Z5 x x x/\(_->Btw x x x)
  rw [Z9d];exact⟨Int.le_refl _,fun _=>Btw.l _ _⟩
 ·simp only [List.length_singleton] at hi;omega
theorem Z9G {a b:Pt} (h:LexLt a b):HullOf [a,b] [a,b]:=by
 refine⟨fun h=>by simp at h,fun _=>by simp,fun _=>⟨by simp [nth],fun x hx k=>?_⟩,fun i hi=>?_,fun i h0 hi=>?_⟩
 ·simp only [List.mem_cons,List.not_mem_nil,or_false] at hx
  have c:LexLt x a:=k;rcases hx with rfl | rfl
  ·exact c.irrefl
  ·exact (c.trans h).irrefl
 ·simp only [List.length_cons,List.length_nil] at hi
  obtain rfl | rfl:i=0\/i=1:=by omega
  ·show Nx [a,b] a b
   refine⟨by simp,fun e=>absurd e.symm h.ne,fun x hx=>?_⟩
   simp only [List.mem_cons,List.not_mem_nil,or_false] at hx;rcases hx with rfl | rfl
   ·rw [Z1F];exact⟨Int.le_refl _,fun _=>Btw.l _ _⟩
   ·rw [Z22];exact⟨Int.le_refl _,fun _=>Btw.r _ _⟩
  ·have e:(1+1) % [a,b].length=0:=by simp
   rw [e]
   show Nx [a,b] b a
   refine⟨by simp,fun e=>absurd e h.ne,fun x hx=>?_⟩
   simp only [List.mem_cons,List.not_mem_nil,or_false] at hx;rcases hx with rfl | rfl
   ·rw [Z22];exact⟨Int.le_refl _,fun _=>Btw.r _ _⟩
   ·rw [Z1F];exact⟨Int.le_refl _,fun _=>Btw.l _ _⟩
 ·simp only [List.length_cons,List.length_nil] at hi
  obtain rfl:i=1:=by omega
  exact Ne.symm h.ne
def goHull (s:List Pt):List Pt:=if s.length<3 then s else twoP s
theorem Zan {s:List Pt} (hs:Inc s):HullOf s (goHull s):=by
 unfold goHull
 split
 ·match s with
  | []=>exact⟨fun _=>rfl,fun h=>absurd rfl h,fun h=>absurd rfl h,fun i hi=>by simp at hi,fun i _ hi=>by simp at hi⟩
  | [a]=>exact Z7x a
  | [a,b]=>exact Z9G (hs 0 1 (by omega) (by simp))
  | a::b::c::r=>rename_i h;simp at h;omega
 ·exact Zbe hs (by omega)
def hturn (a b:Pt) (X Y W:Int):Int:=(b.x-a.x)*(Y-a.y*W)-(b.y-a.y)*(X-a.x*W)
theorem Z13 (a b p:Pt):hturn a b p.x p.y 1=Z5 a b p:=by unfold hturn Z5 turnV;rw [Int.mul_one,Int.mul_one]
theorem Z1s (a b:Pt) (s t X Y W X' Y' W':Int):hturn a b (s*X+t*X') (s*Y+t*Y') (s*W+t*W')=s*hturn a b X Y W+t*hturn a b X' Y' W':=by
 unfold hturn;grind
theorem Z1b (a b:Pt) (s X Y W:Int):hturn a b (s*X) (s*Y) (s*W)=s*hturn a b X Y W:=by unfold hturn;grind
theorem Z2e (a b:Pt):Z5 a b a=0:=by unfold Z5 turnV;grind
theorem Z2d (a b:Pt):Z5 a b b=0:=by unfold Z5 turnV;grind
theorem Zbf (a b c:Pt):Z5 b a c=-Z5 a b c:=by unfold Z5 turnV;grind
theorem Z73 (A B : Nat -> Int) : ∀ n : Nat, (∀ i, i < n -> 0 <= A i) -> (∃ i, i < n /\ B i < 0) -> ∃ i, i < n /\ B i < 0 /\ ∀ j, j < n -> 0 <= -(B i) * A j + A i * B j
 | 0,_,h=>by obtain⟨i,h,_⟩:=h;omega
 | n + 1, hA, hB => by
  by_cases hn:∃ i,i<n/\B i<0
  ·obtain ⟨i, hi, hb, hall⟩ := Z73 A B n (fun i h => hA i (by omega)) hn
   by_cases hc:0<=-(B i)*A n+A i*B n
   ·refine⟨i,by omega,hb,fun j hj=>?_⟩
    by_cases e:j=n
    ·rw [e];exact hc
    ·exact hall j (by omega)
   ·have hAn:=hA n (by omega)
    have hAi:=hA i (by omega)
    have hbn:B n<0:=by
     rcases Int.lt_or_le (B n) 0 with h | h
     ·exact h
     ·have:=Int.mul_nonneg (show 0<=-(B i) by omega) hAn
      have:=Int.mul_nonneg hAi h;omega
    refine⟨n,by omega,hbn,fun j hj=>?_⟩
    by_cases e:j=n
    ·rw [e]
     have:-(B n)*A n+A n*B n=0:=by grind
     omega
    ·have r:=hall j (by omega)
     have b:=hA j (by omega)
     rcases Int.lt_or_le (B j) 0 with a | a
     ·have g:A n*-(B i)<=A i*-(B n):=by
       have:-(B i)*A n+A i*B n<0:=by omega
       have c:-(B i)*A n=A n*-(B i):=by grind
       have d:A i*-(B n)=-(A i*B n):=by grind
       omega
      have c:A i*-(B j)<=A j*-(B i):=by
       have c:-(B i)*A j=A j*-(B i):=by grind
       have d:A i*-(B j)=-(A i*B j):=by grind
       omega
      have m:=Int.mul_le_mul_of_nonneg_right g (show 0<=-(B j) by omega)
      have o:=Int.mul_le_mul_of_nonneg_right c (show 0<=-(B n) by omega)
      have f:A n*-(B j)*-(B i)<=A j*-(B n)*-(B i):=by
       have k:A n*-(B i)*-(B j)=A n*-(B j)*-(B i):=by grind
       have l:A i*-(B n)*-(B j)=A i*-(B j)*-(B n):=by grind
       have q:A j*-(B i)*-(B n)=A j*-(B n)*-(B i):=by grind
       omega
      have p:=Int.le_of_mul_le_mul_right f (show 0 < -(B i) by omega)
      have k:-(B n)*A j=A j*-(B n):=by grind
      have l:A n*-(B j)=-(A n*B j):=by grind
      omega
     ·have:=Int.mul_nonneg (show 0<=-(B n) by omega) b
      have:=Int.mul_nonneg hAn a;omega
  ·have hbn:B n<0:=by
    obtain⟨i,hi,hb⟩:=hB;by_cases e:i=n
    ·rw [<- e];exact hb
    ·exact absurd ⟨i,by omega,hb⟩ hn
   refine⟨n,by omega,hbn,fun j hj=>?_⟩
   by_cases e:j=n
   ·rw [e]
    have:-(B n)*A n+A n*B n=0:=by grind
    omega
   ·have a:0<=B j:=by
     rcases Int.lt_or_le (B j) 0 with h | h
     ·exact absurd ⟨j,by omega,h⟩ hn
     ·exact h
    have:=Int.mul_nonneg (show 0<=-(B n) by omega) (hA j (by omega))
    have:=Int.mul_nonneg (hA n (by omega)) a
    omega
structure Conv (P:Nat->Pt) (n:Nat):Prop where
 n3:3<=n
 left:∀ i,i<n->∀ k,k<n->k≠i->k≠(i+1) % n->0<Z5 (P i) (P ((i+1) % n)) (P k)
def hs (P:Nat->Pt) (n i:Nat) (X Y W:Int):Int:=hturn (P i) (P ((i+1) % n)) X Y W
def SegH (a b:Pt) (X Y W:Int):Prop:=∃ K s t:Int,0<K/\0<=s/\0<=t/\K*X=s*a.x+t*b.x/\K*Y=s*a.y+t*b.y/\K*W=s+t
theorem nx_lt {n i:Nat} (h:3<=n):(i+1) % n<n:=Nat.mod_lt _ (by omega)
theorem Z9P {n i:Nat} (h:i<n):(i+1) % n=if i+1=n then 0 else i+1:=by
 split
 ·rename_i e;rw [e,Nat.mod_self]
 ·rw [Nat.mod_eq_of_lt (by omega)]
theorem Conv.on_side {P:Nat->Pt} {n:Nat} (h:Conv P n) {X Y W:Int} (hin:∀ j,j<n->0<=hs P n j X Y W) {i:Nat} (hi:i<n) (h0:hs P n i X Y W=0):SegH (P i) (P ((i+1) % n)) X Y W:=by
 have n3:=h.n3;have b:=nx_lt (i:=i) n3;have z:=nx_lt (i:=(i+1) % n) n3;have o:=Z9P hi;have m:=Z9P b;obtain⟨p,l,a⟩:∃ p,p<n/\(p+1) % n=i:=by
  rcases Nat.eq_zero_or_pos i with e | e
  ·exact⟨n-1,by omega,by rw [show n-1+1=n by omega,Nat.mod_self];omega⟩
  ·exact⟨i-1,by omega,by rw [show i-1+1=i by omega,Nat.mod_eq_of_lt hi]⟩
 have g:=Z9P l;have k:i≠(i+1) % n/\i≠((i+1) % n+1) % n/\(i+1) % n≠p/\(i+1) % n≠(p+1) % n:=by
  clear h0 hin b z;rw [a] at g ⊢
  revert o m g
  generalize (i+1) % n=q;generalize (q+1) % n=r;intro o m g
  split at o <;> split at m <;> split at g <;> omega
 have v:=h.left _ b i hi k.1 k.2.1;have w:=h.left p l ((i+1) % n) b k.2.2.1 k.2.2.2;have C:=hin _ b;have u:=hin p l;unfold hs at *;rw [a] at w u;generalize P i=c at *;generalize P ((i+1) % n)=d at *;generalize P (((i+1) % n+1) % n)=e at *;generalize P p=f at *;clear o m g k b z a l hi hin h n3;have B:Z5 d e c*X=hturn d e X Y W*c.x+(Z5 d e c*W-hturn d e X Y W)*d.x:=by
  unfold Z5 turnV hturn at *;grind
 have A:Z5 d e c*Y=hturn d e X Y W*c.y+(Z5 d e c*W-hturn d e X Y W)*d.y:=by
  unfold Z5 turnV hturn at *;grind
 refine⟨Z5 d e c,hturn d e X Y W,Z5 d e c*W-hturn d e X Y W,v,C,?_,B,A,by omega⟩
 have s:Z5 d e c*hturn f c X Y W=(Z5 d e c*W-hturn d e X Y W)*Z5 f c d:=by
  have:=Z1b f c (Z5 d e c) X Y W;rw [<- this,B,A];unfold Z5 turnV hturn;grind
 have D:=Int.mul_nonneg (Int.le_of_lt v) u;rw [s] at D;rcases Int.lt_or_le (Z5 d e c*W-hturn d e X Y W) 0 with t | t
 ·have:=Int.mul_neg_of_neg_of_pos t w
  omega
 ·exact t
end Go.Proofs.YthipcinibldgnaaGreat
