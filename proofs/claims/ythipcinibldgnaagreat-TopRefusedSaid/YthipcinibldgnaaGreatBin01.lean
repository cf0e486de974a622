/- Plain geometry: points, the area of a triangle, the order of places. No program here. | Plain mathematics of layer 1: quotients, roots. No program .. -/
open Nat renaming le_refl->qN
namespace Go.Proofs.YthipcinibldgnaaGreat
structure Pt where
 x:Int
 y:Int
deriving DecidableEq
theorem Pt.ext' {a b:Pt} (h1:a.x=b.x) (h2:a.y=b.y):a=b:=by cases a;cases b;simp_all
def nth (l:List Pt) (i:Nat):Pt:=l.getD i ⟨0,0⟩
def turnV (ax ay bx by' cx cy:Int):Int:=(bx-ax)*(cy-ay)-(by'-ay)*(cx-ax)
def Z5 (a b c:Pt):Int:=turnV a.x a.y b.x b.y c.x c.y
def cmpI (a b:Int):Int:=if a<b then -1 else if b<a then 1 else 0
theorem ZcC {a b:Int} (h:a<b):cmpI a b=-1:=by simp [cmpI,h]
theorem ZcD {a b:Int} (h:b<a):cmpI a b=1:=by simp [cmpI,show ¬ a<b by omega,h]
theorem ZcE (a:Int):cmpI a a=0:=by simp [cmpI]
def orI (x y:Int):Int:=if x=0 then y else x
def cmpV (ax ay bx by':Int):Int:=orI (cmpI ax bx) (cmpI ay by')
def cmpP (a b:Pt):Int:=cmpV a.x a.y b.x b.y
def placeB (x y:Int):Bool:=decide (-500000<=x/\x<=500000/\-500000<=y/\y<=500000)
theorem Zt {x y:Int} (h:placeB x y=true):-500000<=x/\x<=500000/\-500000<=y/\y<=500000:=by simpa [placeB] using h
theorem Z5z {x y:Int} (h:placeB x y=false):x < -500000\/500000<x\/y < -500000\/500000<y:=by
 have:¬ (-500000<=x/\x<=500000/\-500000<=y/\y<=500000):=by simpa [placeB] using h
 omega
def Z3 (p:Pt):Bool:=placeB p.x p.y
theorem ZX {a b m n:Int} (h1:-m<=a) (h2:a<=m) (h3:-n<=b) (h4:b<=n):-(m*n)<=a*b/\a*b<=m*n:=by
 have hm:0<=m:=by omega
 have hn:0<=n:=by omega
 have e:a*b<=m*n/\-(a*b)<=m*n:=by
  rcases Int.le_total 0 a with ha | ha <;> rcases Int.le_total 0 b with hb | hb
  ·have x:=Int.mul_le_mul h2 h4 hb hm;have y:=Int.mul_nonneg ha hb;omega
  ·have x:=Int.mul_le_mul h2 (show -b<=n by omega) (by omega) hm;have y:=Int.mul_nonneg ha (show 0<=-b by omega);rw [Int.mul_neg] at x y;omega
  ·have x:=Int.mul_le_mul (show -a<=m by omega) h4 hb hm;have y:=Int.mul_nonneg (show 0<=-a by omega) hb;rw [Int.neg_mul] at x y;omega
  ·have x:=Int.mul_le_mul (show -a<=m by omega) (show -b<=n by omega) (by omega) hm;have y:=Int.mul_nonneg (show 0<=-a by omega) (show 0<=-b by omega);rw [Int.neg_mul_neg] at x y;omega
 omega
def isqrt:Nat->Nat
 | 0=>0
 | n+1=>if (isqrt n+1)*(isqrt n+1)<=n+1 then isqrt n+1 else isqrt n
theorem Z02 (n : Nat) : isqrt n * isqrt n <= n /\ n < (isqrt n + 1) * (isqrt n + 1) := by
 induction n with
 | zero=>simp [isqrt]
 | succ n ih =>
  obtain⟨h1,h2⟩:=ih;unfold isqrt;by_cases h:(isqrt n+1)*(isqrt n+1)<=n+1
  ·rw [if_pos h]
   refine⟨h,?_⟩;have e:(isqrt n+1+1)*(isqrt n+1+1)=(isqrt n+1)*(isqrt n+1)+2*(isqrt n+1)+1:=by
    rw [Nat.add_mul,Nat.mul_add];omega
   omega
  ·rw [if_neg h]
   exact⟨by omega,by omega⟩
theorem sq_lt {a b:Nat} (h:a*a<b*b):a<b:=by
 rcases Nat.lt_or_ge a b with h' | h'
 ·exact h'
 ·have:=Nat.mul_le_mul h' h';omega
theorem Z2F {n r:Nat} (h1:r*r<=n) (h2:n<(r+1)*(r+1)):isqrt n=r:=by
 have ⟨a,b⟩:=Z02 n;have x:=sq_lt (a:=isqrt n) (b:=r+1) (by omega)
 have y:=sq_lt (a:=r) (b:=isqrt n+1) (by omega)
 omega
def wideB (n:Int):Bool:=decide (-1000000000000<=n/\n<=1000000000000)
theorem Z1q {n:Int} (h:wideB n=true):-1000000000000<=n/\n<=1000000000000:=by simpa [wideB] using h
theorem Z6f {n:Int} (h:wideB n=false):n < -1000000000000\/1000000000000<n:=by
 have:¬ (-1000000000000<=n/\n<=1000000000000):=by simpa [wideB] using h
 omega
theorem Z73 {n:Int} (h1:-1000000000000<=n) (h2:n<=1000000000000):wideB n=true:=by simp [wideB];omega
def upV (q r:Int):Int:=if r=0 then q else q+1
def cdiv (a b:Int):Int:=upV (a.fdiv b) (a.fmod b)
theorem Z0X (a b:Int) (hb:b≠0) :
  (a.tmod b=0\/(a.tmod b<0/\b<0)\/(0<a.tmod b/\0<b))/\a.tdiv b=a.fdiv b/\a.tmod b=a.fmod b \/
  ((a.tmod b<0/\0<b)\/(0<a.tmod b/\b<0))/\a.tdiv b-1=a.fdiv b/\a.tmod b+b=a.fmod b:=by
 have e1:=Int.tdiv_eq_ediv (a:=a) (b:=b);have e2:=Int.fdiv_eq_ediv (a:=a) (b:=b);have e3:=Int.tmod_eq_emod (a:=a) (b:=b);have e4:=Int.fmod_eq_emod (a:=a) (b:=b);have p1:=Int.emod_nonneg a hb;have p2:=Int.emod_lt a hb;rw [e1,e2,e3,e4];simp only [Int.dvd_iff_emod_eq_zero];generalize a % b=r at *;generalize a / b=q at *;rcases Int.lt_or_gt_of_ne hb with h | h
 ·have hs:Int.sign b=-1:=Int.sign_eq_neg_one_of_neg h
  rw [hs]
  repeat' split
  all_goals omega
 ·have hs:Int.sign b=1:=Int.sign_eq_one_of_pos h
  rw [hs]
  repeat' split
  all_goals omega
theorem Z4A (a b:Int) (h1:-1000000000000000000<=a) (h2:a<=1000000000000000000):-1000000000000000000<=a.tdiv b/\a.tdiv b<=1000000000000000000:=by
 have h:=Int.natAbs_tdiv a b;have h':a.natAbs.div b.natAbs<=a.natAbs:=Nat.div_le_self a.natAbs b.natAbs;rw [<- h] at h';omega
theorem Z8U (a b:Int) (h3:-1000000000000<=b) (h4:b<=1000000000000) (hb:b≠0):-1000000000000<a.tmod b/\a.tmod b<1000000000000:=by
 have h:=Int.natAbs_tmod a b;have h':=Nat.mod_lt a.natAbs (y:=b.natAbs) (by omega)
 rw [<- h] at h';omega
theorem Za1 (a b:Int) (h1:-1000000000000000000<=a) (h2:a<=1000000000000000000) (hb:b≠0):-1000000000000000001<=a.fdiv b/\a.fdiv b<=1000000000000000000:=by
 rcases Z0X a b hb with h | h
 ·have:=Z4A a b h1 h2;omega
 ·have:=Z4A a b h1 h2;omega
theorem Z50 {a b:Int} (hb:b≠0):a.fmod b=0↔a % b=0:=by
 have e4:=Int.fmod_eq_emod (a:=a) (b:=b);have p1:=Int.emod_nonneg a hb;have p2:=Int.emod_lt a hb;rw [e4];simp only [Int.dvd_iff_emod_eq_zero]
 split <;> omega
theorem ZbA (a b:Int) (hb:b≠0):-((-a).fdiv b)=cdiv a b:=by
 have e:=Int.neg_fdiv (a:=a) (b:=b);have h:=Z50 (a:=a) hb;unfold cdiv upV;rw [e];simp only [Int.dvd_iff_emod_eq_zero];by_cases h':a % b=0
 ·rw [if_pos (Or.inr h'),if_pos (h.2 h')];omega
 ·rw [if_neg (by omega),if_neg (by omega)];omega
def Btw (a b x:Pt):Prop:=(a.x<=x.x\/b.x<=x.x)/\(x.x<=a.x\/x.x<=b.x)/\(a.y<=x.y\/b.y<=x.y)/\(x.y<=a.y\/x.y<=b.y)
instance (a b x:Pt):Decidable (Btw a b x):=by unfold Btw;infer_instance
def LexLt (a b:Pt):Prop:=a.x<b.x\/a.x=b.x/\a.y<b.y
instance (a b:Pt):Decidable (LexLt a b):=by unfold LexLt;infer_instance
theorem LexLt.trans {a b c:Pt} (h:LexLt a b) (k:LexLt b c):LexLt a c:=by unfold LexLt at *;omega
theorem LexLt.irrefl {a:Pt} (h:LexLt a a):False:=by unfold LexLt at h;omega
theorem LexLt.ne {a b:Pt} (h:LexLt a b):a≠b:=fun e=>by subst e;exact h.irrefl
theorem LexLt.tri (a b:Pt):LexLt a b\/a=b\/LexLt b a:=by
 by_cases h:a=b
 ·exact .inr (.inl h)
 ·have:¬ (a.x=b.x/\a.y=b.y):=fun e=>h (Pt.ext' e.1 e.2)
  unfold LexLt;omega
def crs (ux uy vx vy:Int):Int:=ux*vy-uy*vx
def dt (ux uy vx vy:Int):Int:=ux*vx+uy*vy
def HP (dx dy vx vy:Int):Prop:=0<crs dx dy vx vy\/crs dx dy vx vy=0/\dt dx dy vx vy<0
theorem sq_nn (a:Int):0<=a*a:=by
 rcases Int.le_total 0 a with h | h
 ·exact Int.mul_nonneg h h
 ·have:=Int.mul_nonneg (show 0<=-a by omega) (show 0<=-a by omega);rwa [Int.neg_mul_neg] at this
theorem Z0i {x y:Int} (h:¬ (x=0/\y=0)):0<x*x+y*y:=by
 have a:=sq_nn (x);have b:=sq_nn (y);rcases Int.lt_or_le 0 (x*x+y*y) with h' | h'
 ·exact h'
 ·have e1:x*x=0:=by omega
  have e2:y*y=0:=by omega
  exact absurd ⟨by rcases Int.mul_eq_zero.1 e1 with k | k <;> exact k,by rcases Int.mul_eq_zero.1 e2 with k | k <;> exact k⟩ h
theorem HP.ne {dx dy vx vy:Int} (h:HP dx dy vx vy):¬ (dx=0/\dy=0):=by
 rintro ⟨rfl,rfl⟩;unfold HP crs dt at h;simp at h
theorem Z0Q {a b:Int} (ha:0<a) (h:0<a*b):0<b:=by
 rcases Int.lt_or_le 0 b with h' | h'
 ·exact h'
 ·have:=Int.mul_nonneg (Int.le_of_lt ha) (show 0<=-b by omega)
  rw [Int.mul_neg] at this;omega
theorem ZZ {a b:Int} (ha:0<a) (h:0<=a*b):0<=b:=by
 rcases Int.lt_or_le b 0 with h' | h'
 ·have:=Int.mul_pos ha (show 0 < -b by omega)
  rw [Int.mul_neg] at this;omega
 ·exact h'
theorem Z5Y (dx dy ux uy vx vy:Int):(dx*dx+dy*dy)*crs ux uy vx vy=dt dx dy ux uy*crs dx dy vx vy-crs dx dy ux uy*dt dx dy vx vy:=by unfold crs dt;grind
theorem Z8r {p1 q1 p2 q2 p3 q3 : Int} (h1 : 0 < q1 \/ q1 = 0 /\ p1 < 0) (h2 : 0 < q2 \/ q2 = 0 /\ p2 < 0) (h3 : 0 < q3 \/ q3 = 0 /\ p3 < 0)
  (a:0<p1*q2-q1*p2) (b:0<=p2*q3-q2*p3):0<p1*q3-q1*p3:=by
 have id1:q2*(p1*q3-q1*p3)=q3*(p1*q2-q1*p2)+q1*(p2*q3-q2*p3):=by grind
 rcases h2 with h2 | ⟨rfl,h2⟩
 ·refine Z0Q h2 ?_
  rw [id1];rcases h3 with h3 | ⟨rfl,h3⟩
  ·have x:=Int.mul_pos h3 a
   have y:=Int.mul_nonneg (show 0<=q1 by omega) b
   omega
  ·have hb:0<p2*0-q2*p3:=by have:=Int.mul_pos h2 (show 0 < -p3 by omega);rw [Int.mul_neg] at this;omega
   rcases h1 with h1 | ⟨rfl,h1⟩
   ·have:=Int.mul_pos h1 hb;omega
   ·have:=Int.mul_pos (show 0 < -p1 by omega) h2
    rw [Int.neg_mul] at this;omega
 ·have hq1:0<q1:=by
   rcases h1 with h1 | ⟨rfl,h1⟩
   ·exact h1
   ·simp at a
  have hq3:q3=0:=by
   rcases h3 with h3 | ⟨rfl,h3⟩
   ·have:=Int.mul_pos (show 0 < -p2 by omega) h3
    rw [Int.neg_mul] at this;omega
   ·rfl
  subst hq3;have:=Int.mul_pos hq1 (show 0 < -p3 by omega)
  rw [Int.mul_neg] at this;omega
theorem Z4X {dx dy ux uy vx vy wx wy:Int} (hu:HP dx dy ux uy) (hv:HP dx dy vx vy) (hw:HP dx dy wx wy) (a:0<crs ux uy vx vy) (b:0<=crs vx vy wx wy):0<crs ux uy wx wy:=by
 have hd:=Z0i hu.ne;refine Z0Q hd ?_;rw [Z5Y];have a':=Int.mul_pos hd a;have b':=Int.mul_nonneg (Int.le_of_lt hd) b;rw [Z5Y] at a' b';exact Z8r hu hv hw a' b'
theorem Z2X {dx dy ux uy vx vy : Int} (hu : HP dx dy ux uy) (hv : HP dx dy vx vy) (a : crs ux uy vx vy = 0) : 0 < dt ux uy vx vy := by
 have hd:=Z0i hu.ne;have e:(dx*dx+dy*dy)*crs ux uy vx vy=0:=by rw [a,Int.mul_zero]
 have f:(dx*dx+dy*dy)*dt ux uy vx vy=dt dx dy ux uy*dt dx dy vx vy+crs dx dy ux uy*crs dx dy vx vy:=by unfold crs dt;grind
 rw [Z5Y] at e;refine Z0Q hd ?_;rw [f];unfold HP at hu hv;generalize dt dx dy ux uy=p1 at *;generalize crs dx dy ux uy=q1 at *;generalize dt dx dy vx vy=p2 at *;generalize crs dx dy vx vy=q2 at *;clear f;rcases hu with hu | ⟨rfl,hu⟩
 ·have hq2:0<q2:=by
   rcases hv with hv | ⟨rfl,hv⟩
   ·exact hv
   ·have:=Int.mul_pos hu (show 0 < -p2 by omega)
    rw [Int.mul_neg] at this;omega
  have hq:=Int.mul_pos hu hq2;have id:q1*q2*(p1*p2)=(q1*p2)*(q1*p2)+(p1*q2-q1*p2)*(q1*p2):=by grind
  rw [e,Int.zero_mul,Int.add_zero] at id;have:=sq_nn (q1*p2);have:=ZZ hq (b:=p1*p2) (by omega)
  omega
 ·have hq2:q2=0:=by
   rcases hv with hv | ⟨rfl,hv⟩
   ·have:=Int.mul_pos (show 0 < -p1 by omega) hv
    rw [Int.neg_mul] at this;omega
   ·rfl
  subst hq2;have hp2:p2<0:=by omega
  have:=Int.mul_pos (show 0 < -p1 by omega) (show 0 < -p2 by omega)
  rw [Int.neg_mul_neg] at this;omega
theorem Z6c {ux uy vx vy : Int} (hc : crs ux uy vx vy = 0) (hd : 0 < dt ux uy vx vy) :
  ((0<=ux/\ux<=vx\/vx<=ux/\ux<=0)/\(0<=uy/\uy<=vy\/vy<=uy/\uy<=0))\/((0<=vx/\vx<=ux\/ux<=vx/\vx<=0)/\(0<=vy/\vy<=uy\/uy<=vy/\vy<=0)):=by
 have hu:0<ux*ux+uy*uy:=Z0i fun h=>by rw [h.1,h.2] at hd;unfold dt at hd;simp at hd
 have e1:dt ux uy vx vy*ux=(ux*ux+uy*uy)*vx:=by unfold dt crs at *;grind
 have e2:dt ux uy vx vy*uy=(ux*ux+uy*uy)*vy:=by unfold dt crs at *;grind
 generalize dt ux uy vx vy=m at *;generalize ux*ux+uy*uy=n at *;clear hc;have go:∀ u v:Int,m*u=n*v->(m<=n->(0<=v/\v<=u\/u<=v/\v<=0))/\(n<=m->(0<=u/\u<=v\/v<=u/\u<=0)):=by
  intro u v e;constructor
  ·intro h
   rcases Int.le_total 0 u with hu0 | hu0
   ·left
    have a:0<=n*v:=by rw [<- e];exact Int.mul_nonneg (Int.le_of_lt hd) hu0
    have b:=ZZ hu a;have c:=Int.mul_le_mul_of_nonneg_right h hu0;have d:0<=n*(u-v):=by rw [Int.mul_sub];omega
    have:=ZZ hu d;omega
   ·right
    have a:0<=n*(-v):=by rw [Int.mul_neg,<- e];have:=Int.mul_nonneg (Int.le_of_lt hd) (show 0<=-u by omega);rw [Int.mul_neg] at this;exact this
    have b:=ZZ hu a;have c:=Int.mul_le_mul_of_nonneg_right h (show 0<=-u by omega)
    rw [Int.mul_neg,Int.mul_neg] at c;have d:0<=n*(v-u):=by rw [Int.mul_sub];omega
    have:=ZZ hu d;omega
  ·intro h
   rcases Int.le_total 0 v with hv0 | hv0
   ·left
    have a:0<=m*u:=by rw [e];exact Int.mul_nonneg (Int.le_of_lt hu) hv0
    have b:=ZZ hd a;have c:=Int.mul_le_mul_of_nonneg_right h hv0;have d:0<=m*(v-u):=by rw [Int.mul_sub];omega
    have:=ZZ hd d;omega
   ·right
    have a:0<=m*(-u):=by rw [Int.mul_neg,e];have:=Int.mul_nonneg (Int.le_of_lt hu) (show 0<=-v by omega);rw [Int.mul_neg] at this;exact this
    have b:=ZZ hd a;have c:=Int.mul_le_mul_of_nonneg_right h (show 0<=-v by omega)
    rw [Int.mul_neg,Int.mul_neg] at c;have d:0<=m*(u-v):=by rw [Int.mul_sub];omega
    have:=ZZ hd d;omega
 rcases Int.le_total m n with h | h
 ·exact .inr ⟨(go _ _ e1).1 h,(go _ _ e2).1 h⟩
 ·exact .inl ⟨(go _ _ e1).2 h,(go _ _ e2).2 h⟩
def Nx (l:List Pt) (s t:Pt):Prop:=t ∈ l/\(t=s->∀ x,x ∈ l->x=s)/\∀ x,x ∈ l->0<=Z5 s t x/\(Z5 s t x=0->Btw s t x)
theorem Nx.congr {l m:List Pt} (h:∀ x,x ∈ l↔x ∈ m) {s t:Pt} (k:Nx l s t):Nx m s t :=
 ⟨(h t).1 k.1,fun e x hx=>k.2.1 e x ((h x).2 hx),fun x hx=>k.2.2 x ((h x).2 hx)⟩
theorem Z1S (a b c:Pt):Z5 a c b=-Z5 a b c:=by unfold Z5 turnV;grind
theorem Z8R (a b c:Pt):Z5 c b a=-Z5 a b c:=by unfold Z5 turnV;grind
theorem Z8S (a c:Pt):Z5 a a c=0:=by unfold Z5 turnV;grind
theorem Z1s (a c:Pt):Z5 a c a=0:=by unfold Z5 turnV;grind
theorem Z1T (a c:Pt):Z5 a c c=0:=by unfold Z5 turnV;grind
theorem Btw.l (a b:Pt):Btw a b a:=by unfold Btw;omega
theorem Btw.r (a b:Pt):Btw a b b:=by unfold Btw;omega
theorem Btw.anti {a b c:Pt} (h:Btw a b c) (k:Btw a c b):b=c:=by
 unfold Btw at *;exact Pt.ext' (by omega) (by omega)
theorem Btw.anti' {a b c:Pt} (h:Btw a b c) (k:Btw c b a):a=c:=by
 unfold Btw at *;exact Pt.ext' (by omega) (by omega)
theorem Nx.unique {l:List Pt} {s t u:Pt} (h:Nx l s t) (k:Nx l s u):t=u:=by
 have a:=h.2.2 u k.1;have b:=k.2.2 t h.1;rw [Z1S] at b;exact (a.2 (by omega)).anti (b.2 (by omega))
theorem Nx.inj {l:List Pt} {s u t:Pt} (hs:s ∈ l) (hu:u ∈ l) (h:Nx l s t) (k:Nx l u t):s=u:=by
 have a:=h.2.2 u hu;have b:=k.2.2 s hs;rw [Z8R] at b;exact (a.2 (by omega)).anti' (b.2 (by omega))
structure HullOf (l h:List Pt):Prop where
 none:l=[]->h=[]
 some:l≠[]->1<=h.length
 first:l≠[]->nth h 0 ∈ l/\∀ x,x ∈ l->¬ LexLt x (nth h 0)
 next:∀ i,i<h.length->Nx l (nth h i) (nth h ((i+1) % h.length))
 back:∀ i,0<i->i<h.length->nth h i≠nth h 0
theorem HullOf.congr {l m h:List Pt} (e:∀ x,x ∈ l↔x ∈ m) (k:HullOf l h):HullOf m h:=by
 have hn:∀ l:List Pt,l=[]↔∀ x,x ∉ l:=fun l=>⟨fun h=>by rw [h];simp,List.eq_nil_iff_forall_not_mem.2⟩
 have e0:l=[]↔m=[]:=by
  rw [hn,hn];exact⟨fun h x hx=>h x ((e x).2 hx),fun h x hx=>h x ((e x).1 hx)⟩
 refine⟨fun h=>k.none (e0.2 h),fun h=>k.some fun h'=>h (e0.1 h'),fun h=>?_,fun i hi=>(k.next i hi).congr e,k.back⟩
 have:=k.first fun h'=>h (e0.1 h')
 exact⟨(e _).1 this.1,fun x hx=>this.2 x ((e x).2 hx)⟩
theorem Za4 {l m:List Pt} (h:l.length=m.length) (e:∀ i,i<l.length->nth l i=nth m i):l=m:=by
 refine List.ext_getElem h fun i h1 h2=>?_
 have:=e i h1
 simpa [nth,List.getD_eq_getElem?_getD,List.getElem?_eq_getElem h1,List.getElem?_eq_getElem h2] using this
theorem HullOf.unique {l h k:List Pt} (a:HullOf l h) (b:HullOf l k):h=k:=by
 by_cases hl:l=[]
 ·rw [a.none hl,b.none hl]
 have f0:nth h 0=nth k 0:=by
  rcases LexLt.tri (nth h 0) (nth k 0) with c | c | c
  ·exact absurd c ((b.first hl).2 _ (a.first hl).1)
  ·exact c
  ·exact absurd c ((a.first hl).2 _ (b.first hl).1)
 have same:∀ i,i<h.length->i<k.length->nth h i=nth k i:=fun i=>by
  induction i with
  | zero=>exact fun _ _=>f0
  | succ i ih =>
   intro h1 h2;have x:=a.next i (by omega)
   have y:=b.next i (by omega)
   rw [Nat.mod_eq_of_lt (by omega)] at x y
   rw [ih (by omega) (by omega)] at x
   exact x.unique y
 have ha:=a.some hl;have hb:=b.some hl;have len:h.length=k.length:=by
  rcases Nat.lt_trichotomy h.length k.length with c | c | c
  ·have x:=a.next (h.length-1) (by omega)
   have y:=b.next (h.length-1) (by omega)
   rw [show h.length-1+1=h.length by omega] at x y
   rw [Nat.mod_self,same _ (by omega) (by omega)] at x
   rw [Nat.mod_eq_of_lt c] at y;exact absurd ((y.unique x).trans f0) (b.back _ (by omega) c)
  ·exact c
  ·have x:=a.next (k.length-1) (by omega)
   have y:=b.next (k.length-1) (by omega)
   rw [show k.length-1+1=k.length by omega] at x y
   rw [Nat.mod_self,<- same _ (by omega) (by omega)] at y
   rw [Nat.mod_eq_of_lt c] at x;exact absurd ((x.unique y).trans f0.symm) (a.back _ (by omega) c)
 exact Za4 len fun i hi=>same i hi (by omega)
def Ext (l:List Pt) (s:Pt):Prop:=∃ dx dy:Int,∀ x,x ∈ l->x≠s->HP dx dy (x.x-s.x) (x.y-s.y)
theorem Za5 {l:List Pt} {s:Pt} (h:∀ x,x ∈ l->¬ LexLt x s):Ext l s:=by
 refine⟨0,-1,fun x hx hne=>?_⟩
 have a:=h x hx;rcases LexLt.tri s x with b | b | b
 ·unfold HP crs dt;unfold LexLt at b;omega
 ·exact absurd b.symm hne
 ·exact absurd b a
theorem Nx.ext {l : List Pt} {s t : Pt} (h : Nx l s t) : Ext l t := by
 by_cases e:t=s
 ·exact⟨1,1,fun x hx hne=>absurd (h.2.1 e x hx) (by rw [<- e];exact hne)⟩
 ·refine⟨t.x-s.x,t.y-s.y,fun x hx hne=>?_⟩
  obtain⟨a,b⟩:=h.2.2 x hx;have c:crs (t.x-s.x) (t.y-s.y) (x.x-t.x) (x.y-t.y)=Z5 s t x:=by unfold crs Z5 turnV;grind
  unfold HP;rw [c];by_cases z:Z5 s t x=0
  ·right
   refine⟨z,?_⟩;have bt:=b z;have hne':¬ (x.x=t.x/\x.y=t.y):=fun e=>hne (Pt.ext' e.1 e.2)
   have hst:¬ (t.x=s.x/\t.y=s.y):=fun e'=>e (Pt.ext' e'.1 e'.2)
   unfold Z5 turnV at z;unfold Btw at bt;unfold dt;generalize ex:t.x-s.x=p at *;generalize ey:t.y-s.y=q at *;generalize eu:x.x-t.x=u at *;generalize ev:x.y-t.y=v at *;have z':p*v=q*u:=by
    have f1:x.y-s.y=v+q:=by omega
    have f2:x.x-s.x=u+p:=by omega
    rw [f1,f2] at z
    grind
   have m1:p*u<=0:=by
    rcases Int.le_total 0 p with hp | hp
    ·have:=Int.mul_nonneg hp (show 0<=-u by omega);rw [Int.mul_neg] at this;omega
    ·have:=Int.mul_nonneg (show 0<=-p by omega) (show 0<=u by omega);rw [Int.neg_mul] at this;omega
   have m2:q*v<=0:=by
    rcases Int.le_total 0 q with hp | hp
    ·have:=Int.mul_nonneg hp (show 0<=-v by omega);rw [Int.mul_neg] at this;omega
    ·have:=Int.mul_nonneg (show 0<=-q by omega) (show 0<=v by omega);rw [Int.neg_mul] at this;omega
   rcases Int.lt_or_le (p*u+q*v) 0 with h' | h'
   ·exact h'
   ·exfalso
    have hpq:=Z0i (x:=p) (y:=q) (by omega)
    have e1:(p*p+q*q)*u=(p*u+q*v)*p:=by grind
    have e2:(p*p+q*q)*v=(p*u+q*v)*q:=by grind
    rw [show p*u+q*v=0 by omega,Int.zero_mul] at e1 e2
    have u0:u=0:=(Int.mul_eq_zero.1 e1).resolve_left (by omega)
    have v0:v=0:=(Int.mul_eq_zero.1 e2).resolve_left (by omega)
    omega
  ·left;omega
def wrapStep (s t p:Pt):Pt:=if t=s\/Z5 s t p<0\/Z5 s t p=0/\Btw s p t then p else t
def nextTo (l:List Pt) (s:Pt):Nat->Pt
 | 0=>s
 | k+1=>wrapStep s (nextTo l s k) (nth l k)
def nextP (l:List Pt) (s:Pt):Pt:=nextTo l s l.length
theorem nth_mem' {l:List Pt} {k:Nat} (h:k<l.length):nth l k ∈ l:=by
 simp only [nth,List.getD_eq_getElem?_getD,List.getElem?_eq_getElem h,Option.getD_some];exact List.getElem_mem h
theorem mem_nth' {l:List Pt} {x:Pt} (h:x ∈ l):∃ k,k<l.length/\nth l k=x:=by
 obtain⟨k,hk,e⟩:=List.mem_iff_getElem.1 h;exact⟨k,hk,by simp [nth,List.getD_eq_getElem?_getD,List.getElem?_eq_getElem hk,e]⟩
def Kept (l:List Pt) (s t:Pt) (k:Nat):Prop:=(t=s/\∀ j,j<k->nth l j=s)\/(t≠s/\(∃ j,j<k/\nth l j=t)/\∀ j,j<k->0<=Z5 s t (nth l j)/\(Z5 s t (nth l j)=0->Btw s t (nth l j)))
theorem Z9z {l : List Pt} {s t : Pt} {k : Nat} (he : Ext l s) (hk : k < l.length) (h : Kept l s t k) : Kept l s (wrapStep s t (nth l k)) (k + 1) := by
 obtain⟨dx,dy,he⟩:=he;have hpk:=nth_mem' hk;generalize hp:nth l k=p at *;unfold wrapStep;rcases h with⟨rfl,h⟩ | ⟨hne,⟨j0,hj0,ej0⟩,h⟩
 ·rw [if_pos (.inl rfl)]
  by_cases e:p=t
  ·left
   refine⟨e,fun j hj=>?_⟩
   by_cases ej:j=k
   ·rw [ej,hp,e]
   ·exact h j (by omega)
  ·right
   refine⟨e,⟨k,by omega,hp⟩,fun j hj=>?_⟩
   by_cases ej:j=k
   ·rw [ej,hp,Z1T];exact⟨Int.le_refl _,fun _=>Btw.r _ _⟩
   ·rw [h j (by omega),Z1s];exact⟨Int.le_refl _,fun _=>Btw.l _ _⟩
 ·have htl:t ∈ l:=by rw [<- ej0];exact nth_mem' (by omega)
  have ht:=he t htl hne
  split
  ·rename_i hc
   have hps:p≠s:=fun e=>by
    subst e;rcases hc with hc | hc | hc
    ·exact hne hc
    ·rw [Z1s] at hc;omega
    ·have:=hc.2;unfold Btw at this;exact hne (Pt.ext' (by omega) (by omega))
   have hpp:=he p hpk hps
   right
   refine⟨hps,⟨k,by omega,hp⟩,fun j hj=>?_⟩
   by_cases ej:j=k
   ·rw [ej,hp,Z1T];exact⟨Int.le_refl _,fun _=>Btw.r _ _⟩
   ·obtain⟨h1,h2⟩:=h j (by omega)
    have hxl:nth l j ∈ l:=nth_mem' (by omega)
    generalize nth l j=x at *;by_cases hxs:x=s
    ·rw [hxs,Z1s];exact⟨Int.le_refl _,fun _=>Btw.l _ _⟩
    have hx:=he x hxl hxs;rcases hc with hc | hc | ⟨hc,hb⟩
    ·exact absurd hc hne
    ·have a:0<Z5 s p t:=by rw [Z1S];omega
     have:=Z4X hpp ht hx a h1
     change 0<Z5 s p x at this
     exact⟨Int.le_of_lt this,fun e=>by omega⟩
    ·
     have al:=Z2X ht hpp hc;have lk:dt (t.x-s.x) (t.y-s.y) (p.x-s.x) (p.y-s.y)*Z5 s t x=((t.x-s.x)*(t.x-s.x)+(t.y-s.y)*(t.y-s.y))*Z5 s p x:=by
      unfold Z5 turnV dt at *;grind
     have hn:0<(t.x-s.x)*(t.x-s.x)+(t.y-s.y)*(t.y-s.y):=Z0i fun e=>hne (Pt.ext' (by omega) (by omega))
     refine⟨ZZ hn (by rw [<- lk];exact Int.mul_nonneg (Int.le_of_lt al) h1),fun e=>?_⟩
     rw [e,Int.mul_zero] at lk;have:=h2 ((Int.mul_eq_zero.1 lk).resolve_left (by omega))
     unfold Btw at *;omega
  ·rename_i hc
   right
   refine⟨hne,⟨j0,by omega,ej0⟩,fun j hj=>?_⟩
   by_cases ej:j=k
   ·rw [ej,hp]
    have hc1:¬ Z5 s t p<0:=fun h=>hc (.inr (.inl h))
    refine⟨by omega,fun e=>?_⟩
    by_cases hps:p=s
    ·rw [hps];exact Btw.l _ _
    have hpp:=he p hpk hps;have al:=Z2X ht hpp e;rcases Z6c e al with b | b
    ·exact absurd (.inr (.inr ⟨e,by unfold Btw;omega⟩)) hc
    ·unfold Btw;omega
   ·exact h j (by omega)
theorem Z9y {l:List Pt} {s:Pt} (he:Ext l s):∀ k,k<=l.length->Kept l s (nextTo l s k) k
 | 0,_=>.inl ⟨rfl,fun j h=>by omega⟩
 | k+1,h=>Z9z he (by omega) (Z9y he k (by omega))
theorem Z7m {l:List Pt} {s:Pt} (he:Ext l s) (hs:s ∈ l):Nx l s (nextP l s):=by
 rcases Z9y he l.length (qN _) with⟨h1,h2⟩ | ⟨h1,⟨j,hj,ej⟩,h2⟩
 ·change nextP l s=s at h1
  rw [h1];have all:∀ x,x ∈ l->x=s:=fun x hx=>by obtain⟨k,hk,rfl⟩:=mem_nth' hx;exact h2 k hk
  exact⟨hs,fun _=>all,fun x hx=>by rw [all x hx,Z8S];exact⟨Int.le_refl _,fun _=>Btw.l _ _⟩⟩
 ·change nextP l s≠s at h1
  change nth l j=nextP l s at ej
  refine⟨by rw [<- ej];exact nth_mem' hj,fun e=>absurd e h1,fun x hx=>?_⟩
  obtain⟨k,hk,rfl⟩:=mem_nth' hx;exact h2 k hk
def walkP (l:List Pt) (s:Pt):Nat->Pt
 | 0=>s
 | k+1=>nextP l (walkP l s k)
theorem Z2k {l:List Pt} {s:Pt} (hs:s ∈ l) (hf:∀ x,x ∈ l->¬ LexLt x s):∀ k,walkP l s k ∈ l/\Ext l (walkP l s k)
 | 0=>⟨hs,Za5 hf⟩
 | k + 1 => by
  obtain⟨a,b⟩:=Z2k hs hf k;have:=Z7m b a;exact⟨this.1,this.ext⟩
theorem Z6g {l:List Pt} {s:Pt} (hs:s ∈ l) (hf:∀ x,x ∈ l->¬ LexLt x s) (k:Nat):Nx l (walkP l s k) (walkP l s (k+1)) :=
 Z7m (Z2k hs hf k).2 (Z2k hs hf k).1
theorem Z7k:∀ {l m:List Pt},l.Nodup->(∀ x,x ∈ l->x ∈ m)->l.length<=m.length
 | [],_,_,_=>Nat.zero_le _
 | a :: l, m, hn, h => by
  have hn':=List.nodup_cons.1 hn;have ham:=h a (by simp)
  have:=Z7k (l:=l) (m:=m.erase a) hn'.2 fun x hx=>by
   have hne:x≠a:=fun e=>hn'.1 (e ▸ hx)
   exact (List.mem_erase_of_ne hne).2 (h x (List.mem_cons_of_mem _ hx))
  rw [List.length_erase_of_mem ham] at this;have:0<m.length:=List.length_pos_of_mem ham;simp only [List.length_cons];omega
theorem pigeon {m:List Pt} (f:Nat->Pt) (h:∀ k,f k ∈ m):∃ i j,i<j/\j<=m.length/\f i=f j:=by
 apply Classical.byContradiction
 intro hn;have nd:((List.range (m.length+1)).map f).Nodup:=by
  rw [List.nodup_iff_pairwise_ne,List.pairwise_map];refine List.Pairwise.imp_of_mem ?_ List.pairwise_lt_range;intro a b ha hb hab e;exact hn ⟨a,b,hab,by have:=List.mem_range.1 hb;omega,e⟩
 have:=Z7k nd (m:=m) fun x hx=>by
  obtain⟨i,_,rfl⟩:=List.mem_map.1 hx;exact h i
 simp at this;omega
theorem Z8N {l:List Pt} {s:Pt} (hs:s ∈ l) (hf:∀ x,x ∈ l->¬ LexLt x s):∃ n,1<=n/\n<=l.length/\walkP l s n=s:=by
 obtain⟨i,j,hij,hj,e⟩:=pigeon (walkP l s) fun k=>(Z2k hs hf k).1
 have down:∀ i j,i<j->walkP l s i=walkP l s j->walkP l s (j-i)=s:=fun i=>by
  induction i with
  | zero=>intro j _ e;exact e.symm
  | succ i ih =>
   intro j hj e;have a:=Z6g hs hf i;have b:=Z6g hs hf (j-1);rw [show j-1+1=j by omega,<- e] at b
   have:=ih (j-1) (by omega) (a.inj (Z2k hs hf i).1 (Z2k hs hf (j-1)).1 b)
   rwa [show j-(i+1)=j-1-i by omega]
 exact⟨j-i,by omega,by omega,down i j hij e⟩
theorem Z9s {p:Nat->Prop}:∀ n,p n->∃ m,m<=n/\p m/\∀ k,k<m->¬ p k:=fun n=>by
 induction n using Nat.strongRecOn with
 | ind n ih =>
  intro hn;by_cases h:∃ k,k<n/\p k
  ·obtain⟨k,hk,pk⟩:=h
   obtain⟨m,h1,h2,h3⟩:=ih k hk pk;exact⟨m,by omega,h2,h3⟩
  ·exact⟨n,qN _,hn,fun k hk pk=>h ⟨k,hk,pk⟩⟩
theorem Z7X {l:List Pt} {s:Pt} (hs:s ∈ l) (hf:∀ x,x ∈ l->¬ LexLt x s):∃ n,1<=n/\n<=l.length/\walkP l s n=s/\∀ k,1<=k->k<n->walkP l s k≠s:=by
 obtain⟨n,h1,h2,h3⟩:=Z8N hs hf;obtain⟨m,a,⟨b,c⟩,d⟩:=Z9s (p:=fun k=>1<=k/\walkP l s k=s) n ⟨h1,h3⟩
 exact⟨m,b,by omega,c,fun k k1 k2 e=>d k k2 ⟨k1,e⟩⟩
theorem Z1e (f:Nat->Pt) {n k:Nat} (h:k<n):nth ((List.range n).map f) k=f k:=by
 simp [nth,List.getD_eq_getElem?_getD,h]
theorem Z9H {l:List Pt} {s:Pt} {n:Nat} (hs:s ∈ l) (hf:∀ x,x ∈ l->¬ LexLt x s) (h1:1<=n) (hr:walkP l s n=s) (hb:∀ k,1<=k->k<n->walkP l s k≠s):HullOf l ((List.range n).map (walkP l s)):=by
 refine⟨fun h=>by rw [h] at hs;simp at hs,fun _=>by simp;omega,fun _=>?_,fun i hi=>?_,fun i h0 hi=>?_⟩
 ·rw [Z1e _ (by omega)];exact⟨hs,hf⟩
 ·simp only [List.length_map,List.length_range] at hi ⊢
  rw [Z1e _ hi,Z1e _ (Nat.mod_lt _ (by omega))]
  have:=Z6g hs hf i;by_cases e:i+1=n
  ·rw [e,Nat.mod_self]
   rw [e,hr] at this;exact this
  ·rw [Nat.mod_eq_of_lt (by omega)];exact this
 ·simp only [List.length_map,List.length_range] at hi
  rw [Z1e _ hi,Z1e _ (by omega)]
  exact hb i h0 hi
def leastTo (l:List Pt):Nat->Pt
 | 0=>nth l 0
 | k+1=>if LexLt (nth l k) (leastTo l k) then nth l k else leastTo l k
theorem Z3t {l:List Pt} (h1:1<=l.length):∀ k,k<=l.length->leastTo l k ∈ l
 | 0,_=>nth_mem' (by omega)
 | k + 1, h => by
  simp only [leastTo]
  split
  ·exact nth_mem' (by omega)
  ·exact Z3t h1 k (by omega)
theorem Z4c {l:List Pt}:∀ k j,j<k->¬ LexLt (nth l j) (leastTo l k)
 | 0,j,h=>by omega
 | k + 1, j, h => by
  simp only [leastTo];by_cases e:j=k
  ·subst e
   split
   ·exact fun h=>h.irrefl
   ·assumption
  ·have ih:=Z4c (l:=l) k j (by omega)
   split
   ·rename_i h';exact fun h''=>ih (h''.trans h')
   ·exact ih
def leastP (l:List Pt):Pt:=leastTo l l.length
theorem Z4d {l:List Pt} (h1:1<=l.length):leastP l ∈ l:=Z3t h1 _ (qN _)
theorem Z5F {l:List Pt}:∀ x,x ∈ l->¬ LexLt x (leastP l):=fun x hx=>by
 obtain⟨j,hj,rfl⟩:=mem_nth' hx;exact Z4c _ j hj
theorem Z1N (l:List Pt):∃ h,HullOf l h/\h.length<=l.length:=by
 by_cases hl:l=[]
 ·exact⟨[],⟨fun _=>rfl,fun h=>absurd hl h,fun h=>absurd hl h,fun i hi=>by simp at hi,fun i _ hi=>by simp at hi⟩,by simp⟩
 ·have h1:1<=l.length:=List.length_pos_iff.2 hl
  obtain⟨n,a,b,c,d⟩:=Z7X (Z4d h1) Z5F;exact⟨_,Z9H (Z4d h1) Z5F a c d,by simpa using b⟩
noncomputable def hullP (l:List Pt):List Pt:=Classical.choose (Z1N l)
theorem Z1z (l:List Pt):HullOf l (hullP l):=(Classical.choose_spec (Z1N l)).1
theorem Z27 (l:List Pt):(hullP l).length<=l.length:=(Classical.choose_spec (Z1N l)).2
theorem Z2W {l h:List Pt} (k:HullOf l h):h=hullP l:=k.unique (Z1z l)
theorem Z6F {l m:List Pt} (e:∀ x,x ∈ l↔x ∈ m):hullP l=hullP m:=Z2W ((Z1z l).congr e)
theorem Z9I {l:List Pt} {x:Pt} (h:x ∈ hullP l):x ∈ l:=by
 obtain⟨k,hk,rfl⟩:=mem_nth' h;have e:=Z1z l;by_cases h0:k=0
 ·subst h0
  by_cases hl:l=[]
  ·rw [e.none hl] at hk;simp at hk
  ·exact (e.first hl).1
 ·have:=e.next (k-1) (by omega)
  rw [show k-1+1=k by omega,Nat.mod_eq_of_lt hk] at this
  exact this.1
theorem Z1g {a b:Pt} (h:LexLt a b):HP 0 (-1) (b.x-a.x) (b.y-a.y):=by
 unfold HP crs dt;unfold LexLt at h;omega
theorem half_trans' {p1 q1 p2 q2 p3 q3:Int} (h1:0<q1\/q1=0/\p1<0) (h2:0<q2\/q2=0/\p2<0) (h3:0<q3\/q3=0/\p3<0)
  (a:0<=p1*q2-q1*p2) (b:0<p2*q3-q2*p3):0<p1*q3-q1*p3:=by
 have id1:q2*(p1*q3-q1*p3)=q3*(p1*q2-q1*p2)+q1*(p2*q3-q2*p3):=by grind
 rcases h2 with h2 | ⟨rfl,h2⟩
 ·refine Z0Q h2 ?_
  rw [id1];rcases h1 with h1 | ⟨rfl,h1⟩
  ·have x:=Int.mul_pos h1 b
   have y:=Int.mul_nonneg (show 0<=q3 by omega) a
   omega
  ·have:=Int.mul_pos (show 0 < -p1 by omega) h2
   rw [Int.neg_mul] at this;omega
 ·rcases h3 with h3 | ⟨rfl,h3⟩
  ·have:=Int.mul_pos (show 0 < -p2 by omega) h3
   rw [Int.neg_mul] at this;omega
  ·simp at b
theorem hp_trans' {dx dy ux uy vx vy wx wy:Int} (hu:HP dx dy ux uy) (hv:HP dx dy vx vy) (hw:HP dx dy wx wy) (a:0<=crs ux uy vx vy) (b:0<crs vx vy wx wy):0<crs ux uy wx wy:=by
 have hd:=Z0i hu.ne;refine Z0Q hd ?_;rw [Z5Y];have a':=Int.mul_nonneg (Int.le_of_lt hd) a;have b':=Int.mul_pos hd b;rw [Z5Y] at a' b';exact half_trans' hu hv hw a' b'
theorem Z9q {a b y:Pt} (h:Z5 a b y=0) (h1:LexLt a y) (h2:LexLt y b):Btw a b y:=by
 have hy:=Z1g h1;have hb:=Z1g (h1.trans h2);have e:crs (b.x-a.x) (b.y-a.y) (y.x-a.x) (y.y-a.y)=0:=h;rcases Z6c e (Z2X hb hy e) with k | k
 ·
  unfold crs at e;have h3:=h1.trans h2;unfold LexLt at h1 h2 h3;unfold Btw;by_cases c:a.x<b.x
  ·have c2:y.x=b.x:=by omega
   rw [c2] at e;have e2:(b.x-a.x)*(y.y-b.y)=0:=by grind
   have:y.y-b.y=0:=(Int.mul_eq_zero.1 e2).resolve_left (by omega)
   omega
  ·omega
 ·unfold Btw;omega
def keepN (l:List Pt) (x:Pt):Nat->Nat
 | 0=>0
 | n+1=>if 0<n/\Z5 (nth l (n-1)) (nth l n) x<=0 then keepN l x n else n+1
theorem Z0I (l:List Pt) (x:Pt):∀ n,keepN l x n<=n
 | 0=>qN _
 | n+1=>by simp only [keepN];split;exact Nat.le_succ_of_le (Z0I l x n);exact qN _
theorem Z5I (l:List Pt) (x:Pt):∀ n,1<=n->1<=keepN l x n
 | 0,h=>by omega
 | n + 1, _ => by
  simp only [keepN]
  split
  ·exact Z5I l x n (by omega)
  ·omega
theorem Z4g (l:List Pt) (x:Pt):∀ n,2<=keepN l x n->0<Z5 (nth l (keepN l x n-2)) (nth l (keepN l x n-1)) x
 | 0,h=>by simp [keepN] at h
 | n + 1, h => by
  simp only [keepN] at h ⊢
  split
  ·rename_i c;rw [if_pos c] at h;exact Z4g l x n h
  ·rename_i c
   rw [if_neg c] at h;have:¬ Z5 (nth l (n-1)) (nth l n) x<=0:=fun h'=>c ⟨by omega,h'⟩
   rw [show n+1-2=n-1 by omega,Nat.add_sub_cancel]
   omega
theorem Z5J (l:List Pt) (x:Pt):∀ n,keepN l x n<n->Z5 (nth l (keepN l x n-1)) (nth l (keepN l x n)) x<=0
 | 0,h=>by omega
 | n + 1, h => by
  simp only [keepN] at h ⊢;by_cases c:0<n/\Z5 (nth l (n-1)) (nth l n) x<=0
  ·rw [if_pos c] at h ⊢
   by_cases e:keepN l x n=n
   ·rw [e];exact c.2
   ·exact Z5J l x n (by have:=Z0I l x n;omega)
  ·rw [if_neg c] at h;omega
def pushP (l:List Pt) (x:Pt):List Pt:=l.take (keepN l x l.length)++[x]
def chainTo (s:List Pt):Nat->List Pt
 | 0=>[]
 | k+1=>pushP (chainTo s k) (nth s k)
def chainP (s:List Pt):List Pt:=chainTo s s.length
theorem Z5u (l:List Pt) (x:Pt):(pushP l x).length=keepN l x l.length+1:=by
 simp only [pushP,List.length_append,List.length_take,List.length_singleton];have:=Z0I l x l.length;omega
theorem Z6w {l:List Pt} {x:Pt} {i:Nat} (h:i<keepN l x l.length):nth (pushP l x) i=nth l i:=by
 have:=Z0I l x l.length;unfold pushP nth;rw [List.getD_eq_getElem?_getD,List.getD_eq_getElem?_getD,List.getElem?_append_left (by rw [List.length_take];omega),List.getElem?_take_of_lt h]
theorem Z6x {l:List Pt} {x:Pt}:nth (pushP l x) (keepN l x l.length)=x:=by
 have:=Z0I l x l.length;simp [pushP,nth,List.getD_eq_getElem?_getD,Nat.min_eq_left this]
theorem Z0A (s:List Pt):∀ k,(chainTo s k).length<=k
 | 0=>qN _
 | k + 1 => by
  simp only [chainTo];rw [Z5u];have:=Z0I (chainTo s k) (nth s k) (chainTo s k).length;have:=Z0A s k;omega
def Inc (s:List Pt):Prop:=∀ i j,i<j->j<s.length->LexLt (nth s i) (nth s j)
structure ChainI (s:List Pt) (k:Nat) (L:List Pt):Prop where
 pos:1<=L.length
 first:nth L 0=nth s 0
 last:nth L (L.length-1)=nth s (k-1)
 inc:∀ i,i+1<L.length->LexLt (nth L i) (nth L (i+1))
 mem:∀ i,i<L.length->∃ j,j<k/\nth s j=nth L i
 left:∀ i,i+1<L.length->∀ j,j<k->0<=Z5 (nth L i) (nth L (i+1)) (nth s j)/\(Z5 (nth L i) (nth L (i+1)) (nth s j)=0->Btw (nth L i) (nth L (i+1)) (nth s j))
theorem ChainI.inc' {s L:List Pt} {k:Nat} (h:ChainI s k L):∀ d i,i+d+1<L.length->LexLt (nth L i) (nth L (i+d+1)):=fun d=>by
 induction d with
 | zero=>exact fun i hi=>h.inc i hi
 | succ d ih=>exact fun i hi=>(ih i (by omega)).trans (h.inc (i+d+1) (by omega))
theorem ChainI.strict {s L:List Pt} {k:Nat} (h:ChainI s k L) {i:Nat} (hi:i+2<L.length):0<Z5 (nth L i) (nth L (i+1)) (nth L (i+2)):=by
 obtain⟨j,hj,e⟩:=h.mem (i+2) hi;have a:=h.left i (by omega) j hj
 rw [e] at a;rcases Int.lt_or_le 0 (Z5 (nth L i) (nth L (i+1)) (nth L (i+2))) with c | c
 ·exact c
 ·have b:=a.2 (by omega)
  have c1:=h.inc i (by omega)
  have c2:=h.inc (i+1) (by omega)
  rw [show i+1+1=i+2 by omega] at c2
  have b2:=Z9q (a:=nth L i) (b:=nth L (i+2)) (y:=nth L (i+1)) (by rw [Z1S];omega) c1 c2
  exact absurd (b.anti b2) c2.ne
theorem Z8D {s L : List Pt} {k : Nat} (hs : Inc s) (h1 : 1 <= k) (hk : k < s.length) (h : ChainI s k L) : ChainI s (k + 1) (pushP L (nth s k)) := by
 have hx:∀ j,j<k->LexLt (nth s j) (nth s k):=fun j hj=>hs j k hj hk
 generalize hxk:nth s k=x at *;have n1:=Z5I L x L.length h.pos;have n2:=Z0I L x L.length;have n3:=Z4g L x L.length;have n4:=Z5J L x L.length;have pl:=Z5u L x;have e1:∀ i,i<keepN L x L.length->nth (pushP L x) i=nth L i:=fun i hi=>Z6w hi
 have e2:nth (pushP L x) (keepN L x L.length)=x:=Z6x;generalize pushP L x=M at *;generalize keepN L x L.length=n at *;have Lx:∀ i,i<L.length->LexLt (nth L i) x:=fun i hi=>by
  obtain⟨j,hj,e⟩:=h.mem i hi;rw [<- e];exact hx j hj
 have low:∀ d i,i+d+2=n->0<Z5 (nth L i) (nth L (i+1)) x:=fun d=>by
  induction d with
  | zero =>
   intro i hi;have:=n3 (by omega)
   rw [show n-2=i by omega,show n-1=i+1 by omega] at this
   exact this
  | succ d ih =>
   intro i hi;have a:=ih (i+1) (by omega)
   have b:=h.strict (i:=i) (by omega)
   have u:=Z1g (h.inc i (by omega))
   have v:=Z1g (h.inc (i+1) (by omega))
   have w:=Z1g (Lx (i+1) (by omega))
   have b':0<crs ((nth L (i+1)).x-(nth L i).x) ((nth L (i+1)).y-(nth L i).y) ((nth L (i+1+1)).x-(nth L (i+1)).x) ((nth L (i+1+1)).y-(nth L (i+1)).y):=by
    have e:crs ((nth L (i+1)).x-(nth L i).x) ((nth L (i+1)).y-(nth L i).y) ((nth L (i+1+1)).x-(nth L (i+1)).x) ((nth L (i+1+1)).y-(nth L (i+1)).y)=Z5 (nth L i) (nth L (i+1)) (nth L (i+2)):=by unfold crs Z5 turnV;grind
    rw [e];exact b
   have c:=Z4X u v w b' (Int.le_of_lt a);have e:crs ((nth L (i+1)).x-(nth L i).x) ((nth L (i+1)).y-(nth L i).y) (x.x-(nth L (i+1)).x) (x.y-(nth L (i+1)).y)=Z5 (nth L i) (nth L (i+1)) x:=by unfold crs Z5 turnV;grind
   rw [e] at c;exact c
 have top:∀ j,j<k->0<=Z5 (nth L (n-1)) x (nth s j)/\(Z5 (nth L (n-1)) x (nth s j)=0->Btw (nth L (n-1)) x (nth s j)):=fun j hj=>by
  have hq:=Lx (n-1) (by omega)
  have hy:=hx j hj;rcases LexLt.tri (nth s j) (nth L (n-1)) with c | c | c
  ·
   have hn:2<=n:=by
    rcases Nat.lt_or_ge n 2 with h' | h'
    ·have e:n-1=0:=by omega
     rw [e,h.first] at c
     by_cases e0:j=0
     ·subst e0;exact absurd c (fun h=>h.irrefl)
     ·exact absurd (c.trans (hs 0 j (by omega) (by omega))) (fun h=>h.irrefl)
    ·exact h'
   have t1:=n3 hn;have t2:=(h.left (n-2) (by omega) j hj).1
   have d1:=Z1g (h.inc (n-2) (by omega))
   rw [show n-2+1=n-1 by omega] at t2 d1
   have d2:=Z1g hq;have d3:=Z1g c;generalize nth L (n-2)=p at *;generalize nth L (n-1)=q at *;generalize nth s j=y at *;have a:crs (q.x-y.x) (q.y-y.y) (q.x-p.x) (q.y-p.y)=Z5 p q y:=by unfold crs Z5 turnV;grind
   have b:crs (q.x-p.x) (q.y-p.y) (x.x-q.x) (x.y-q.y)=Z5 p q x:=by unfold crs Z5 turnV;grind
   have r:=hp_trans' d3 d1 d2 (by omega) (by omega)
   have e:crs (q.x-y.x) (q.y-y.y) (x.x-q.x) (x.y-q.y)=Z5 q x y:=by unfold crs Z5 turnV;grind
   rw [e] at r;exact⟨Int.le_of_lt r,fun h=>by omega⟩
  ·rw [c,Z1s];exact⟨Int.le_refl _,fun _=>Btw.l _ _⟩
  ·have hn:n<L.length:=by
    rcases Nat.lt_or_ge n L.length with h' | h'
    ·exact h'
    ·have e:n-1=L.length-1:=by omega
     rw [e,h.last] at c;by_cases e0:j=k-1
     ·subst e0;exact absurd c (fun h=>h.irrefl)
     ·exact absurd (c.trans (hs j (k-1) (by omega) (by omega))) (fun h=>h.irrefl)
   have t1:=n4 hn;have t2:=(h.left (n-1) (by omega) j hj).1
   have d1:=Z1g (h.inc (n-1) (by omega))
   rw [show n-1+1=n by omega] at t2 d1
   have d2:=Z1g hq;have d3:=Z1g c;refine⟨?_,fun e=>Z9q e c hy⟩
   generalize nth L (n-1)=q at *;generalize nth L n=r at *;generalize nth s j=y at *;by_cases z:Z5 q r x=0
   ·have al:=Z2X d1 d2 z
    have lk:dt (r.x-q.x) (r.y-q.y) (x.x-q.x) (x.y-q.y)*Z5 q r y=((r.x-q.x)*(r.x-q.x)+(r.y-q.y)*(r.y-q.y))*Z5 q x y:=by
     unfold Z5 turnV dt at *;grind
    have hn:0<(r.x-q.x)*(r.x-q.x)+(r.y-q.y)*(r.y-q.y):=Z0i fun e=>by unfold HP crs dt at d1;omega
    exact ZZ hn (by rw [<- lk];exact Int.mul_nonneg (Int.le_of_lt al) t2)
   ·have a:0<Z5 q x r:=by rw [Z1S];omega
    have:=Z4X d2 d1 d3 a t2
    change 0<Z5 q x y at this
    exact Int.le_of_lt this
 refine⟨by omega,?_,?_,fun i hi=>?_,fun i hi=>?_,fun i hi j hj=>?_⟩
 ·rw [e1 0 (by omega)];exact h.first
 ·rw [show M.length-1=n by omega,e2,Nat.add_sub_cancel]
  exact hxk.symm
 ·by_cases e:i+1=n
  ·rw [e,e2,e1 i (by omega)];exact Lx i (by omega)
  ·rw [e1 i (by omega),e1 (i+1) (by omega)];exact h.inc i (by omega)
 ·by_cases e:i=n
  ·exact⟨k,by omega,by rw [e,e2,hxk]⟩
  ·rw [e1 i (by omega)]
   obtain⟨j,hj,ej⟩:=h.mem i (by omega)
   exact⟨j,by omega,ej⟩
 ·by_cases e:i+1=n
  ·rw [e,e2,e1 i (by omega)]
   by_cases ej:j=k
   ·rw [ej,hxk,Z1T];exact⟨Int.le_refl _,fun _=>Btw.r _ _⟩
   ·rw [show i=n-1 by omega];exact top j (by omega)
  ·rw [e1 i (by omega),e1 (i+1) (by omega)]
   by_cases ej:j=k
   ·have:=low (n-i-2) i (by omega)
    rw [ej,hxk];exact⟨Int.le_of_lt this,fun h=>by omega⟩
   ·exact h.left i (by omega) j (by omega)
theorem Z1o {s:List Pt} (hs:Inc s):∀ k,1<=k->k<=s.length->ChainI s k (chainTo s k)
 | 0,h,_=>by omega
 | k + 1, _, hk => by
  by_cases e:k=0
  ·subst e
   have e1:chainTo s 1=[nth s 0]:=by simp [chainTo,pushP,keepN]
   rw [e1];exact⟨by simp,rfl,rfl,fun i hi=>by simp at hi,fun i hi=>⟨0,by omega,by simp at hi;subst hi;rfl⟩,fun i hi=>by simp at hi⟩
  ·exact Z8D hs (by omega) (by omega) (Z1o hs k (by omega) (by omega))
def ng (a:Pt):Pt:=⟨-a.x,-a.y⟩
theorem Z0d (l:List Pt) (i:Nat):nth (l.map ng) i=ng (nth l i):=by
 by_cases h:i<l.length
 ·simp [nth,List.getD_eq_getElem?_getD,h]
 ·simp [nth,List.getD_eq_getElem?_getD,List.getElem?_eq_none (Nat.le_of_not_lt h),ng]
theorem Z8Q (a b c:Pt):Z5 (ng a) (ng b) (ng c)=Z5 a b c:=by unfold Z5 turnV ng;grind
theorem btw_ng {a b c:Pt}:Btw (ng a) (ng b) (ng c)↔Btw a b c:=by simp only [Btw,ng];omega
theorem Z9p {a b:Pt}:LexLt (ng a) (ng b)↔LexLt b a:=by simp only [LexLt,ng];omega
theorem Z7l {a b:Pt} (h:ng a=ng b):a=b:=by
 unfold ng at h;simp only [Pt.mk.injEq] at h;exact Pt.ext' (by omega) (by omega)
theorem Z7s (l:List Pt) (x:Pt):∀ n,keepN (l.map ng) (ng x) n=keepN l x n
 | 0=>rfl
 | n+1=>by simp only [keepN,Z0d,Z8Q,Z7s l x n]
theorem Zc7 (l:List Pt) (x:Pt):pushP (l.map ng) (ng x)=(pushP l x).map ng:=by
 simp [pushP,Z7s,List.map_take]
theorem Z2y (s:List Pt):∀ k,chainTo (s.map ng) k=(chainTo s k).map ng
 | 0=>rfl
 | k+1=>by simp only [chainTo,Z0d,Z2y s k,Zc7]
theorem Z0w {s:List Pt} {i:Nat} (h:i<s.length):nth s.reverse i=nth s (s.length-1-i):=by
 simp [nth,List.getD_eq_getElem?_getD,List.getElem?_reverse h]
def twoP (s:List Pt):List Pt:=(chainP s).dropLast++(chainP s.reverse).dropLast
theorem Z2D {l:List Pt} {i:Nat} (h:i+1<l.length):nth l.dropLast i=nth l i:=by
 simp [nth,List.getD_eq_getElem?_getD,show i<l.length-1 by omega,List.getElem?_eq_getElem (show i<l.length by omega)]
theorem Z5E {l m:List Pt} {i:Nat} (h:i<l.length):nth (l++m) i=nth l i:=by
 simp [nth,List.getD_eq_getElem?_getD,List.getElem?_append,h]
theorem Z9k {l m:List Pt} {i:Nat} (h:l.length<=i):nth (l++m) i=nth m (i-l.length):=by
 simp [nth,List.getD_eq_getElem?_getD,List.getElem?_append,show ¬ i<l.length by omega]
theorem ZaH {s : List Pt} (hs : Inc s) (h2 : 2 <= s.length) : HullOf s (twoP s) := by
 have low:=Z1o hs s.length (by omega) (qN _)
 have hr:Inc (s.reverse.map ng):=fun i j hij hj=>by
  simp only [List.length_map,List.length_reverse] at hj;rw [Z0d,Z0d,Z9p,Z0w (by omega),Z0w (by omega)]
  exact hs _ _ (by omega) (by omega)
 have high:=Z1o hr s.length (by omega) (by simp)
 rw [Z2y] at high;have el:chainTo s s.length=chainP s:=rfl;have eh:chainTo s.reverse s.length=chainP s.reverse:=by unfold chainP;rw [List.length_reverse]
 rw [el] at low;rw [eh] at high;unfold twoP;generalize chainP s=A at *;generalize chainP s.reverse=B at *;have hne:nth s 0≠nth s (s.length-1):=(hs 0 (s.length-1) (by omega) (by omega)).ne
 have bl:(B.map ng).length=B.length:=by simp
 have hb0:nth B 0=nth s (s.length-1):=by
  have:=high.first
  rw [Z0d,Z0d,Z0w (by omega)] at this
  exact Z7l this
 have hbl:nth B (B.length-1)=nth s 0:=by
  have:=high.last;rw [bl,Z0d,Z0d,Z0w (by omega)] at this
  have:=Z7l this
  rwa [show s.length-1-(s.length-1)=0 by omega] at this
 have hbi:∀ i,i+1<B.length->LexLt (nth B (i+1)) (nth B i):=fun i hi=>by
  have:=high.inc i (by rw [bl];exact hi)
  rwa [Z0d,Z0d,Z9p] at this
 have hbm:∀ i,i<B.length->nth B i ∈ s:=fun i hi=>by
  obtain⟨j,hj,e⟩:=high.mem i (by rw [bl];exact hi)
  rw [Z0d,Z0d] at e;rw [<- Z7l e,Z0w hj];exact nth_mem' (by omega)
 have hbf:∀ i,i+1<B.length->∀ x,x ∈ s->0<=Z5 (nth B i) (nth B (i+1)) x/\(Z5 (nth B i) (nth B (i+1)) x=0->Btw (nth B i) (nth B (i+1)) x):=fun i hi x hx=>by
  obtain⟨j,hj,rfl⟩:=mem_nth' hx;have:=high.left i (by rw [bl];exact hi) (s.length-1-j) (by omega)
  rwa [Z0d,Z0d,Z0d,Z8Q,btw_ng,Z0w (by omega),show s.length-1-(s.length-1-j)=j by omega] at this
 have ham:∀ i,i<A.length->nth A i ∈ s:=fun i hi=>by
  obtain⟨j,hj,e⟩:=low.mem i hi;rw [<- e];exact nth_mem' hj
 have haf:∀ i,i+1<A.length->∀ x,x ∈ s->0<=Z5 (nth A i) (nth A (i+1)) x/\(Z5 (nth A i) (nth A (i+1)) x=0->Btw (nth A i) (nth A (i+1)) x):=fun i hi x hx=>by
  obtain⟨j,hj,rfl⟩:=mem_nth' hx;exact low.left i hi j hj
 have a2:2<=A.length:=by
  rcases Nat.lt_or_ge A.length 2 with h | h
  ·have:=low.last
   rw [show A.length-1=0 by have:=low.pos;omega,low.first] at this
   exact absurd this hne
  ·exact h
 have b2:2<=B.length:=by
  rcases Nat.lt_or_ge B.length 2 with h | h
  ·have hp:=high.pos
   rw [bl] at hp;rw [show B.length-1=0 by omega,hb0] at hbl
   exact absurd hbl.symm hne
  ·exact h
 have nA:∀ i,i+1<A.length->nth (A.dropLast++B.dropLast) i=nth A i:=fun i hi=>by
  rw [Z5E (by simp;omega),Z2D hi]
 have nB:∀ i,i+1<B.length->nth (A.dropLast++B.dropLast) (A.length-1+i)=nth B i:=fun i hi=>by
  rw [Z9k (by simp),List.length_dropLast,show A.length-1+i-(A.length-1)=i by omega,Z2D hi]
 have len:(A.dropLast++B.dropLast).length=A.length-1+(B.length-1):=by simp
 have n0:nth (A.dropLast++B.dropLast) 0=nth s 0:=by rw [nA 0 (by omega),low.first]
 have s0:∀ x,x ∈ s->x=nth s 0\/LexLt (nth s 0) x:=fun x hx=>by
  obtain⟨j,hj,rfl⟩:=mem_nth' hx;by_cases e:j=0
  ·left;rw [e]
  ·right;exact hs 0 j (by omega) hj
 generalize A.dropLast++B.dropLast=H at *;refine⟨fun h=>by rw [h] at h2;simp at h2,fun _=>by omega,fun _=>?_,fun i hi=>?_,fun i h0 hi=>?_⟩
 ·rw [n0]
  exact⟨nth_mem' (by omega),fun x hx h=>by rcases s0 x hx with e | e;exact (e ▸ h).irrefl;exact (h.trans e).irrefl⟩
 ·by_cases c:i+1<A.length
  ·have e1:nth H ((i+1) % H.length)=nth A (i+1):=by
    rw [Nat.mod_eq_of_lt (by omega)]
    by_cases c2:i+2<A.length
    ·exact nA (i+1) c2
    ·have:=nB 0 (by omega)
     rw [show i+1=A.length-1+0 by omega,this,hb0,Nat.add_zero,low.last]
   rw [e1,nA i c];exact⟨ham _ c,fun e=>absurd e (Ne.symm (low.inc i c).ne),haf i c⟩
  ·obtain⟨k,rfl⟩:∃ k,i=A.length-1+k:=⟨i-(A.length-1),by omega⟩
   have e1:nth H ((A.length-1+k+1) % H.length)=nth B (k+1):=by
    by_cases c2:k+2<B.length
    ·rw [Nat.mod_eq_of_lt (by omega)]
     exact nB (k+1) c2
    ·rw [show A.length-1+k+1=H.length by omega,Nat.mod_self,n0,show k+1=B.length-1 by omega,hbl]
   rw [e1,nB k (by omega)]
   exact⟨hbm _ (by omega),fun e=>absurd e (hbi k (by omega)).ne,hbf k (by omega)⟩
 ·rw [n0]
  by_cases c:i+1<A.length
  ·rw [nA i c]
   have:=low.inc' (i-1) 0 (by omega)
   rw [low.first,show 0+(i-1)+1=i by omega] at this
   exact Ne.symm this.ne
  ·obtain⟨k,rfl⟩:∃ k,i=A.length-1+k:=⟨i-(A.length-1),by omega⟩
   rw [nB k (by omega)]
   have down:∀ d k,k+d+1<B.length->LexLt (nth B (k+d+1)) (nth B k):=fun d=>by
    induction d with
    | zero=>exact fun k hk=>hbi k hk
    | succ d ih=>exact fun k hk=>(hbi (k+d+1) (by omega)).trans (ih k (by omega))
   have:=down (B.length-1-k-1) k (by omega)
   rw [show k+(B.length-1-k-1)+1=B.length-1 by omega,hbl] at this
   exact Ne.symm this.ne
theorem Z7g (a:Pt):HullOf [a] [a]:=by
 refine⟨fun h=>by simp at h,fun _=>by simp,fun _=>⟨by simp [nth],fun x hx h=>?_⟩,fun i hi=>?_,fun i h0 hi=>?_⟩
 ·simp only [List.mem_singleton] at hx
  subst hx;exact h.irrefl
 ·simp only [List.length_singleton] at hi ⊢
  obtain rfl:i=0:=by omega
  refine⟨by simp [nth],fun _ x hx=>by simpa [nth] using hx,fun x hx=>?_⟩
  simp only [List.mem_singleton] at hx;subst hx;simp only [nth,Nat.zero_add,Nat.mod_self]
  show 0<=Z5 x x x/\(_->Btw x x x)
  rw [Z8S];exact⟨Int.le_refl _,fun _=>Btw.l _ _⟩
 ·simp only [List.length_singleton] at hi;omega
theorem Z9e {a b:Pt} (h:LexLt a b):HullOf [a,b] [a,b]:=by
 refine⟨fun h=>by simp at h,fun _=>by simp,fun _=>⟨by simp [nth],fun x hx k=>?_⟩,fun i hi=>?_,fun i h0 hi=>?_⟩
 ·simp only [List.mem_cons,List.not_mem_nil,or_false] at hx
  have k':LexLt x a:=k;rcases hx with rfl | rfl
  ·exact k'.irrefl
  ·exact (k'.trans h).irrefl
 ·simp only [List.length_cons,List.length_nil] at hi
  obtain rfl | rfl:i=0\/i=1:=by omega
  ·show Nx [a,b] a b
   refine⟨by simp,fun e=>absurd e.symm h.ne,fun x hx=>?_⟩
   simp only [List.mem_cons,List.not_mem_nil,or_false] at hx;rcases hx with rfl | rfl
   ·rw [Z1s];exact⟨Int.le_refl _,fun _=>Btw.l _ _⟩
   ·rw [Z1T];exact⟨Int.le_refl _,fun _=>Btw.r _ _⟩
  ·have e:(1+1) % [a,b].length=0:=by simp
   rw [e]
   show Nx [a,b] b a
   refine⟨by simp,fun e=>absurd e h.ne,fun x hx=>?_⟩
   simp only [List.mem_cons,List.not_mem_nil,or_false] at hx;rcases hx with rfl | rfl
   ·rw [Z1T];exact⟨Int.le_refl _,fun _=>Btw.r _ _⟩
   ·rw [Z1s];exact⟨Int.le_refl _,fun _=>Btw.l _ _⟩
 ·simp only [List.length_cons,List.length_nil] at hi
  obtain rfl:i=1:=by omega
  exact Ne.symm h.ne
def goHull (s:List Pt):List Pt:=if s.length<3 then s else twoP s
theorem Z9S {s:List Pt} (hs:Inc s):HullOf s (goHull s):=by
 unfold goHull
 split
 ·match s with
  | []=>exact⟨fun _=>rfl,fun h=>absurd rfl h,fun h=>absurd rfl h,fun i hi=>by simp at hi,fun i _ hi=>by simp at hi⟩
  | [a]=>exact Z7g a
  | [a,b]=>exact Z9e (hs 0 1 (by omega) (by simp))
  | a::b::c::r=>rename_i h;simp at h;omega
 ·exact ZaH hs (by omega)
end Go.Proofs.YthipcinibldgnaaGreat
