/- mission.from, mission.isWay -/
import Derived.Test.YtcfkhkgldboddaaGreatBin02
namespace Go.Proofs.YtcfkhkgldboddaaGreat
open Go.RowKit
theorem ZF (n most:Int) (w:World) :
  Calls Tryz.prog 85 #[.int .i64 n,.int .i64 most] w fun e w'=>e=.returned (.bool (inB n 0 most))∧w=w':=by
 cases h:inB n 0 most
 ·rcases Z1a h with h1 | ⟨h1,h2⟩
  ·have d1:decide (0≤n)=false:=by simp;omega
   clear h;go_enter Tryz.func85,Tryz.ntmps85;go_wp2;go_ret;exact⟨rfl,rfl⟩
  ·have d1:decide (0≤n)=true:=by simp;omega
   have d2:decide (n≤most)=false:=by simp;omega
   clear h;go_enter Tryz.func85,Tryz.ntmps85;go_wp2;go_ret;exact⟨rfl,rfl⟩
 ·obtain⟨h1,h2⟩:=ZH h
  clear h;go_enter Tryz.func85,Tryz.ntmps85;go_wp2;go_ret;exact⟨rfl,rfl⟩
theorem Z96 (k : Nat) (x y fix wait back : Int) (w : World) (h : ¬ (-300000 ≤ x ∧ x ≤ 300000 ∧ -300000 ≤ y ∧ y ≤ 300000)) :
  Calls Tryz.prog 79 #[.int .i64 k,.agg #[.int .i64 x,.int .i64 y,.int .i64 fix,.int .i64 wait,.int .i64 back]] w fun e w'=>e=.returned (.bool false)∧Below w.heap.size w w':=by
 rcases Int.lt_or_le y x with hxy | hxy
 ·by_cases hm:maxI4 x (wrap64 (-x)) y (wrap64 (-y))≤300000
  ·have d1:decide (maxI4 x (wrap64 (-x)) y (wrap64 (-y))≤300000)=true:=by simpa using hm
   have hb:x≤300000∧y≤300000:=by unfold maxI4 at hm;omega
   have d3:decide (-300000≤y)=false:=by simp;omega
   clear h hb hm;go_enter Tryz.func79,Tryz.ntmps79;go_wp2
   all_goals
    go_ret;exact⟨rfl,zB2⟩
  ·have d1:decide (maxI4 x (wrap64 (-x)) y (wrap64 (-y))≤300000)=false:=by simpa using hm
   clear h hm;go_enter Tryz.func79,Tryz.ntmps79;go_wp2
   all_goals
    go_ret;exact⟨rfl,zB2⟩
 ·by_cases hm:maxI4 x (wrap64 (-x)) y (wrap64 (-y))≤300000
  ·have d1:decide (maxI4 x (wrap64 (-x)) y (wrap64 (-y))≤300000)=true:=by simpa using hm
   have hb:x≤300000∧y≤300000:=by unfold maxI4 at hm;omega
   have d3:decide (-300000≤x)=false:=by simp;omega
   clear h hb hm;go_enter Tryz.func79,Tryz.ntmps79;go_wp2
   all_goals
    go_ret;exact⟨rfl,zB2⟩
  ·have d1:decide (maxI4 x (wrap64 (-x)) y (wrap64 (-y))≤300000)=false:=by simpa using hm
   clear h hm;go_enter Tryz.func79,Tryz.ntmps79;go_wp2
   all_goals
    go_ret;exact⟨rfl,zB2⟩
theorem Z7I (x y fix wait back : Int) (w : World) (h1 : -300000 ≤ x) (h2 : x ≤ 300000) (h3 : -300000 ≤ y) (h4 : y ≤ 300000) (hf : inB fix 0 100000 = true) (hw : inB wait 0 100000 = true) (hfw : 0 < fix ∨ wait = 0) :
  Calls Tryz.prog 79 #[.int .i64 0,.agg #[.int .i64 x,.int .i64 y,.int .i64 fix,.int .i64 wait,.int .i64 back]] w fun e w'=>e=.returned (.bool (inB back 0 0))∧Below w.heap.size w w':=by
 have d1:decide (maxI4 x (-x) y (-y)≤300000)=true:=by simp [maxI4];omega
 cases hb:inB back 0 0
 all_goals
  by_cases hfx:0<fix
  ·clear hfw
   go_enter Tryz.func79,Tryz.ntmps79;go_wp2_with (go_at_call 85;refine (ZF _ _ _).mono ?_;rintro e w' ⟨rfl,rfl⟩)
   all_goals
    go_ret;exact⟨rfl,zB2⟩
  ·obtain rfl:wait=0:=by omega
   have d2:decide (0<fix)=false:=by simpa using hfx
   clear hfx hfw;go_enter Tryz.func79,Tryz.ntmps79;go_wp2_with (go_at_call 85;refine (ZF _ _ _).mono ?_;rintro e w' ⟨rfl,rfl⟩)
   all_goals
    go_ret;exact⟨rfl,zB2⟩
theorem Z95 (x y fix wait back : Int) (w : World) (h1 : -300000 ≤ x) (h2 : x ≤ 300000) (h3 : -300000 ≤ y) (h4 : y ≤ 300000) (hf : inB fix 0 100000 = true) (hw : inB wait 0 100000 = true) (hfw : 0 < fix ∨ wait = 0) :
  Calls Tryz.prog 79 #[.int .i64 1,.agg #[.int .i64 x,.int .i64 y,.int .i64 fix,.int .i64 wait,.int .i64 back]] w fun e w'=>e=.returned (.bool (inB back 0 0))∧Below w.heap.size w w':=by
 have d1:decide (maxI4 x (-x) y (-y)≤300000)=true:=by simp [maxI4];omega
 cases hb:inB back 0 0
 all_goals
  by_cases hfx:0<fix
  ·clear hfw
   go_enter Tryz.func79,Tryz.ntmps79;go_wp2_with (go_at_call 85;refine (ZF _ _ _).mono ?_;rintro e w' ⟨rfl,rfl⟩)
   all_goals
    go_ret;exact⟨rfl,zB2⟩
  ·obtain rfl:wait=0:=by omega
   have d2:decide (0<fix)=false:=by simpa using hfx
   clear hfx hfw;go_enter Tryz.func79,Tryz.ntmps79;go_wp2_with (go_at_call 85;refine (ZF _ _ _).mono ?_;rintro e w' ⟨rfl,rfl⟩)
   all_goals
    go_ret;exact⟨rfl,zB2⟩
theorem Z7J (n : Nat) (x y fix wait back : Int) (w : World) (h1 : -300000 ≤ x) (h2 : x ≤ 300000) (h3 : -300000 ≤ y) (h4 : y ≤ 300000) (hf : inB fix 0 100000 = true) (hw : inB wait 0 100000 = true) (hfw : 0 < fix ∨ wait = 0) (hk : n ≤ 1000000) (hn0 : (0 : Int) < n) :
  Calls Tryz.prog 79 #[.int .i64 ((n:Int)+1),.agg #[.int .i64 x,.int .i64 y,.int .i64 fix,.int .i64 wait,.int .i64 back]] w fun e w'=>e=.returned (.bool (inB back 0 (n:Int)))∧Below w.heap.size w w':=by
 have d1:decide (maxI4 x (-x) y (-y)≤300000)=true:=by simp [maxI4];omega
 cases hb:inB back 0 (n:Int)
 all_goals
  by_cases hfx:0<fix
  ·clear hfw
   go_enter Tryz.func79,Tryz.ntmps79;go_wp2_with (go_at_call 85;refine (ZF _ _ _).mono ?_;rintro e w' ⟨rfl,rfl⟩)
   all_goals
    go_ret;exact⟨rfl,zB2⟩
  ·obtain rfl:wait=0:=by omega
   have d2:decide (0<fix)=false:=by simpa using hfx
   clear hfx hfw;go_enter Tryz.func79,Tryz.ntmps79;go_wp2_with (go_at_call 85;refine (ZF _ _ _).mono ?_;rintro e w' ⟨rfl,rfl⟩)
   all_goals
    go_ret;exact⟨rfl,zB2⟩
theorem Z97 (k : Nat) (a : Wy) (w : World) (hk : k ≤ 1000000) :
  Calls Tryz.prog 79 #[.int .i64 k,wyVal a] w fun e w'=>e=.returned (.bool (wayB k a))∧Below w.heap.size w w':=by
 obtain⟨x,y,fix,wait,back⟩:=a;by_cases h:-300000≤x∧x≤300000∧-300000≤y∧y≤300000
 ·obtain⟨h1,h2,h3,h4⟩:=h
  unfold wyVal;have d1:decide (maxI4 x (-x) y (-y)≤300000)=true:=by simp [maxI4];omega
  cases hf:inB fix 0 100000
  ·have e:wayB k ⟨x,y,fix,wait,back⟩=false:=by
    cases e:wayB k ⟨x,y,fix,wait,back⟩
    ·rfl
    ·have:=ZL e;rcases Z1a hf with h | h <;> simp only at this <;> omega
   rw [e];clear e;go_enter Tryz.func79,Tryz.ntmps79;go_wp2_with (go_at_call 85;refine (ZF _ _ _).mono ?_;rintro e w' ⟨rfl,rfl⟩)
   all_goals
    go_ret;exact⟨rfl,zB2⟩
  cases hw:inB wait 0 100000
  ·have e:wayB k ⟨x,y,fix,wait,back⟩=false:=by
    cases e:wayB k ⟨x,y,fix,wait,back⟩
    ·rfl
    ·have:=ZL e;rcases Z1a hw with h | h <;> simp only at this <;> omega
   rw [e];clear e;go_enter Tryz.func79,Tryz.ntmps79;go_wp2_with (go_at_call 85;refine (ZF _ _ _).mono ?_;rintro e w' ⟨rfl,rfl⟩)
   all_goals
    go_ret;exact⟨rfl,zB2⟩
  obtain⟨f1,f2⟩:=ZH hf;obtain⟨w1,w2⟩:=ZH hw;by_cases hfw:0<fix∨wait=0
  ·have hB:∀ m:Int,m=((k-1:Nat):Int)→wayB k ⟨x,y,fix,wait,back⟩=inB back 0 m:=by
    rintro m rfl;unfold wayB inB
    congr 1
    simp only [eq_iff_iff];constructor
    ·rintro ⟨_,_,_,_,_,_,_,_,_,h⟩;exact h
    ·intro h;exact⟨h1,h2,h3,h4,f1,f2,w1,w2,hfw,h⟩
   rcases k with _ | n
   ·rw [hB 0 rfl]
    exact Z7I x y fix wait back w h1 h2 h3 h4 hf hw hfw
   ·by_cases hn:n=0
    ·subst hn
     rw [hB 0 rfl];exact Z95 x y fix wait back w h1 h2 h3 h4 hf hw hfw
    rw [hB (n:Int) (by simp)]
    exact Z7J n x y fix wait back w h1 h2 h3 h4 hf hw hfw (by omega) (by omega)
  ·have e:wayB k ⟨x,y,fix,wait,back⟩=false:=by
    cases e:wayB k ⟨x,y,fix,wait,back⟩
    ·rfl
    ·have:=ZL e;simp only at this;exact absurd this.2.2.2.2.2.2.2.2.1 hfw
   rw [e];clear e;have d2:decide (0<fix)=false:=by simp;omega
   have d3:(wait == 0)=false:=by simp;omega
   clear f1 w1 hfw;go_enter Tryz.func79,Tryz.ntmps79;go_wp2_with (go_at_call 85;refine (ZF _ _ _).mono ?_;rintro e w' ⟨rfl,rfl⟩)
   all_goals
    go_ret;exact⟨rfl,zB2⟩
 ·have e:wayB k ⟨x,y,fix,wait,back⟩=false:=by
   cases e:wayB k ⟨x,y,fix,wait,back⟩
   ·rfl
   ·have:=ZL e;simp only at this;omega
  rw [e];exact Z96 k x y fix wait back w h
end Go.Proofs.YtcfkhkgldboddaaGreat
