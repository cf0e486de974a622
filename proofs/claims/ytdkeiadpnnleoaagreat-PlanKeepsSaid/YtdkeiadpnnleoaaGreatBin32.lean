/- the example of layer 35, reckoned. | the example of layer 35, walked. | head of the laws of layer 35. | Fewer rocks, more battery, a later deadline: plain laws. No program here. | clear of layer 35's laws. -/
import Derived.Test.YtdkeiadpnnleoaaGreatBin31
import Derived.Test.YtdkeiadpnnleoaaGreatBin12
import Derived.Test.YtdkeiadpnnleoaaGreatBin21
import Derived.Test.YtdkeiadpnnleoaaGreatBin10
import Derived.Test.YtdkeiadpnnleoaaGreatBin16
import Derived.Test.YtdkeiadpnnleoaaGreatBin29
namespace Go.Proofs.YtdkeiadpnnleoaaGreat


def roX : List Pt := [⟨185, 90⟩, ⟨190, 15⟩, ⟨195, 90⟩]
def hmA : List Pt := [⟨-100, -100⟩, ⟨100, -100⟩, ⟨100, 100⟩, ⟨-100, 100⟩]
def hmB : List Pt := [⟨0, 0⟩]
/-- the mission of the chapter, with a home -/
def exP (h : List Pt) : Msn := ⟨[⟨0, 0, 0, 0, 0⟩, ⟨100, 0, 2, 0, 0⟩, ⟨200, 0, 0, 0, 0⟩], h, 0, [roX], 10000, 100, 0, 0, 0, 1000, 1000⟩
theorem exP_dist (h : List Pt) : dLeg (exP h) 0 1 = 100 ∧ dLeg (exP h) 1 2 = 100 ∧ dLeg (exP h) 1 0 = 100 ∧ dLeg (exP h) 2 0 = 200 :=
  ⟨show distV 0 0 100 0 = 100 from rdist_of (by decide) (by decide) (by decide), show distV 100 0 200 0 = 100 from rdist_of (by decide) (by decide) (by decide), show distV 100 0 0 0 = 100 from rdist_of (by decide) (by decide) (by decide), show distV 200 0 0 0 = 200 from rdist_of (by decide) (by decide) (by decide)⟩
theorem exP_legs (h : List Pt) : gLeg (exP h) 0 1 = 10 ∧ gLeg (exP h) 1 2 = 10 ∧ gLeg (exP h) 1 0 = 10 ∧ gLeg (exP h) 2 0 = 20 := by
  obtain ⟨d1, d2, d3, d4⟩ := exP_dist h
  unfold gLeg
  rw [d1, d2, d3, d4]
  exact ⟨show growthV 10000 100 0 100 = 10 by decide, show growthV 10000 100 0 100 = 10 by decide, show growthV 10000 100 0 100 = 10 by decide, show growthV 10000 100 0 200 = 20 by decide⟩
theorem exP_times (h : List Pt) : tLeg (exP h) 0 1 = 1 ∧ tLeg (exP h) 1 2 = 1 ∧ tLeg (exP h) 1 0 = 1 ∧ tLeg (exP h) 2 0 = 2 := by
  obtain ⟨d1, d2, d3, d4⟩ := exP_dist h
  unfold tLeg
  rw [d1, d2, d3, d4]
  exact ⟨show lastsV 10000 100 = 1 by decide, show lastsV 10000 100 = 1 by decide, show lastsV 10000 100 = 1 by decide, show lastsV 10000 200 = 2 by decide⟩
theorem exP_grown (h : List Pt) : grownV (exP h) = 50 := by
  obtain ⟨g1, g2, g3, g4⟩ := exP_legs h
  show (0 : Int) + (gLeg (exP h) 0 1 + gLeg (exP h) 1 0) + (gLeg (exP h) 1 2 + gLeg (exP h) 2 0) = 50
  rw [g1, g2, g3, g4]
  rfl
theorem roX_valid : goValid roX = true := by rw [goValid_eq]; decide +kernel
theorem hmA_valid : goValid hmA = true := by rw [goValid_eq]; decide +kernel
theorem hmB_valid : goValid hmB = true := by rw [goValid_eq]; decide +kernel
theorem exP_valid {h : List Pt} (hh : goValid h = true) : validB (exP h) = true := by
  rw [validB_iff]
  refine ⟨by show 2 ≤ 3; decide, by show 3 ≤ 41; decide, by show 1 ≤ 100; decide, by show waysB [⟨0, 0, 0, 0, 0⟩, ⟨100, 0, 2, 0, 0⟩, ⟨200, 0, 0, 0, 0⟩] = true; decide, hh, ?_, by show (0 : Int) ≤ 0 ∧ (0 : Int) ≤ 100000; decide, by show (1 : Int) ≤ 10000 ∧ (10000 : Int) ≤ 20000 ∧ (0 : Int) ≤ 100 ∧ (100 : Int) ≤ 500 ∧ (0 : Int) ≤ 0 ∧ (0 : Int) ≤ 5000; decide, by show (0 : Int) ≤ 0 ∧ (0 : Int) ≤ 1000; decide, by show (0 : Int) ≤ 0 ∧ (0 : Int) ≤ 1000; decide, by show (0 : Int) ≤ 1000 ∧ (1000 : Int) ≤ 1000000000; decide, by show (0 : Int) ≤ 1000 ∧ (1000 : Int) ≤ 1000000000; decide, by rw [exP_grown]; decide⟩
  simp only [rocksB, exP]
  refine decide_eq_true fun j hj => ?_
  obtain rfl : j = 0 := by simp at hj; omega
  exact roX_valid
theorem exP_e (h : List Pt) (i j : Nat) : eLeg (exP h) i j = 0 := by simp [eLeg, exP]
theorem clr_of {h : List Pt} {a b : Nat} {u w : Int} {c : List Pt} {t : Bool} (hc : corL (atW (exP h) a) u (atW (exP h) b) w = c) (hv : goValid c = true) (ht : touchB c roX = t) : clrB (exP h) a u b w = !t := by
  unfold clrB
  rw [hc, show (exP h).rocks = [roX] from rfl, (first_one hv roX_valid).1, ht]
set_option maxRecDepth 100000 in
theorem disk_10 : diskP 10 = [⟨-10, -5⟩, ⟨-5, -10⟩, ⟨5, -10⟩, ⟨10, -5⟩, ⟨10, 5⟩, ⟨5, 10⟩, ⟨-5, 10⟩, ⟨-10, 5⟩] := hullB_of (by decide +kernel)
set_option maxRecDepth 100000 in
theorem disk_12 : diskP 12 = [⟨-12, -5⟩, ⟨-5, -12⟩, ⟨5, -12⟩, ⟨12, -5⟩, ⟨12, 5⟩, ⟨5, 12⟩, ⟨-5, 12⟩, ⟨-12, 5⟩] := hullB_of (by decide +kernel)
set_option maxRecDepth 100000 in
theorem disk_20 : diskP 20 = [⟨-20, -9⟩, ⟨-9, -20⟩, ⟨9, -20⟩, ⟨20, -9⟩, ⟨20, 9⟩, ⟨9, 20⟩, ⟨-9, 20⟩, ⟨-20, 9⟩] := hullB_of (by decide +kernel)
set_option maxRecDepth 100000 in
theorem disk_32 : diskP 32 = [⟨-32, -14⟩, ⟨-14, -32⟩, ⟨14, -32⟩, ⟨32, -14⟩, ⟨32, 14⟩, ⟨14, 32⟩, ⟨-14, 32⟩, ⟨-32, 14⟩] := hullB_of (by decide +kernel)
def c1L : List Pt := [⟨0, 0⟩, ⟨95, -10⟩, ⟨105, -10⟩, ⟨110, -5⟩, ⟨110, 5⟩, ⟨105, 10⟩, ⟨95, 10⟩]
theorem c1_valid : goValid c1L = true := by rw [goValid_eq]; decide +kernel
theorem c1_cor : corL ⟨0, 0⟩ 0 ⟨100, 0⟩ 10 = c1L := by
  have e : corE ⟨0, 0⟩ 0 ⟨100, 0⟩ 10 = 0 := by
    unfold corE
    rw [show (0 : Int).toNat = 0 from rfl, show (10 : Int).toNat = 10 from rfl, disk_0, disk_10]
    decide +kernel
  unfold corL
  rw [if_pos e]
  unfold corH
  rw [show (0 : Int).toNat = 0 from rfl, show (10 : Int).toNat = 10 from rfl, disk_0, disk_10]
  exact hullB_of (by decide +kernel)
theorem c1_touch : touchB c1L roX = false := by
  have a : cornersP c1L roX = [] := by unfold cornersP; rw [cornersC_eq roX_valid]; decide +kernel
  have b : cornersP roX c1L = [] := by unfold cornersP; rw [cornersC_eq c1_valid]; decide +kernel
  have c : crossP c1L roX = [] := by decide +kernel
  unfold touchB sharedP
  rw [a, b, c]
  simp
theorem c1_clr (h : List Pt) : clrB (exP h) 0 0 1 10 = true := clr_of (h := h) (a := 0) (b := 1) (u := 0) (w := 10) c1_cor c1_valid c1_touch
def c2L : List Pt := [⟨-20, -9⟩, ⟨-9, -20⟩, ⟨9, -20⟩, ⟨105, -10⟩, ⟨110, -5⟩, ⟨110, 5⟩, ⟨105, 10⟩, ⟨9, 20⟩, ⟨-9, 20⟩, ⟨-20, 9⟩]
theorem c2_valid : goValid c2L = true := by rw [goValid_eq]; decide +kernel
theorem c2_cor : corL ⟨100, 0⟩ 10 ⟨0, 0⟩ 20 = c2L := by
  have e : corE ⟨100, 0⟩ 10 ⟨0, 0⟩ 20 = 0 := by
    unfold corE
    rw [show (10 : Int).toNat = 10 from rfl, show (20 : Int).toNat = 20 from rfl, disk_10, disk_20]
    decide +kernel
  unfold corL
  rw [if_pos e]
  unfold corH
  rw [show (10 : Int).toNat = 10 from rfl, show (20 : Int).toNat = 20 from rfl, disk_10, disk_20]
  exact hullB_of (by decide +kernel)
theorem c2_touch : touchB c2L roX = false := by
  have a : cornersP c2L roX = [] := by unfold cornersP; rw [cornersC_eq roX_valid]; decide +kernel
  have b : cornersP roX c2L = [] := by unfold cornersP; rw [cornersC_eq c2_valid]; decide +kernel
  have c : crossP c2L roX = [] := by decide +kernel
  unfold touchB sharedP
  rw [a, b, c]
  simp
theorem c2_clr (h : List Pt) : clrB (exP h) 1 10 0 20 = true := clr_of (h := h) (a := 1) (b := 0) (u := 10) (w := 20) c2_cor c2_valid c2_touch
def c3L : List Pt := [⟨90, -5⟩, ⟨95, -10⟩, ⟨191, -20⟩, ⟨209, -20⟩, ⟨220, -9⟩, ⟨220, 9⟩, ⟨209, 20⟩, ⟨191, 20⟩, ⟨95, 10⟩, ⟨90, 5⟩]
theorem c3_valid : goValid c3L = true := by rw [goValid_eq]; decide +kernel
theorem c3_cor : corL ⟨100, 0⟩ 10 ⟨200, 0⟩ 20 = c3L := by
  have e : corE ⟨100, 0⟩ 10 ⟨200, 0⟩ 20 = 0 := by
    unfold corE
    rw [show (10 : Int).toNat = 10 from rfl, show (20 : Int).toNat = 20 from rfl, disk_10, disk_20]
    decide +kernel
  unfold corL
  rw [if_pos e]
  unfold corH
  rw [show (10 : Int).toNat = 10 from rfl, show (20 : Int).toNat = 20 from rfl, disk_10, disk_20]
  exact hullB_of (by decide +kernel)
theorem c3_touch : touchB c3L roX = true := by
  have b : cornersP roX c3L = [⟨190, 15⟩] := by unfold cornersP; rw [cornersC_eq c3_valid]; decide +kernel
  unfold touchB sharedP
  rw [b, c3_valid, roX_valid]
  simp
theorem c3_clr (h : List Pt) : clrB (exP h) 1 10 2 20 = false := clr_of (h := h) (a := 1) (b := 2) (u := 10) (w := 20) c3_cor c3_valid c3_touch
def c4L : List Pt := [⟨98, -1⟩, ⟨99, -2⟩, ⟨195, -12⟩, ⟨205, -12⟩, ⟨212, -5⟩, ⟨212, 5⟩, ⟨205, 12⟩, ⟨195, 12⟩, ⟨99, 2⟩, ⟨98, 1⟩]
theorem c4_valid : goValid c4L = true := by rw [goValid_eq]; decide +kernel
theorem c4_cor : corL ⟨100, 0⟩ 2 ⟨200, 0⟩ 12 = c4L := by
  have e : corE ⟨100, 0⟩ 2 ⟨200, 0⟩ 12 = 0 := by
    unfold corE
    rw [show (2 : Int).toNat = 2 from rfl, show (12 : Int).toNat = 12 from rfl, disk_2, disk_12]
    decide +kernel
  unfold corL
  rw [if_pos e]
  unfold corH
  rw [show (2 : Int).toNat = 2 from rfl, show (12 : Int).toNat = 12 from rfl, disk_2, disk_12]
  exact hullB_of (by decide +kernel)
theorem c4_touch : touchB c4L roX = false := by
  have a : cornersP c4L roX = [] := by unfold cornersP; rw [cornersC_eq roX_valid]; decide +kernel
  have b : cornersP roX c4L = [] := by unfold cornersP; rw [cornersC_eq c4_valid]; decide +kernel
  have c : crossP c4L roX = [] := by decide +kernel
  unfold touchB sharedP
  rw [a, b, c]
  simp
theorem c4_clr (h : List Pt) : clrB (exP h) 1 2 2 12 = true := clr_of (h := h) (a := 1) (b := 2) (u := 2) (w := 12) c4_cor c4_valid c4_touch
def c5L : List Pt := [⟨-32, -14⟩, ⟨-14, -32⟩, ⟨14, -32⟩, ⟨205, -12⟩, ⟨212, -5⟩, ⟨212, 5⟩, ⟨205, 12⟩, ⟨14, 32⟩, ⟨-14, 32⟩, ⟨-32, 14⟩]
theorem c5_valid : goValid c5L = true := by rw [goValid_eq]; decide +kernel
theorem c5_cor : corL ⟨200, 0⟩ 12 ⟨0, 0⟩ 32 = c5L := by
  have e : corE ⟨200, 0⟩ 12 ⟨0, 0⟩ 32 = 0 := by
    unfold corE
    rw [show (12 : Int).toNat = 12 from rfl, show (32 : Int).toNat = 32 from rfl, disk_12, disk_32]
    decide +kernel
  unfold corL
  rw [if_pos e]
  unfold corH
  rw [show (12 : Int).toNat = 12 from rfl, show (32 : Int).toNat = 32 from rfl, disk_12, disk_32]
  exact hullB_of (by decide +kernel)
theorem c5_touch : touchB c5L roX = false := by
  have a : cornersP c5L roX = [] := by unfold cornersP; rw [cornersC_eq roX_valid]; decide +kernel
  have b : cornersP roX c5L = [] := by unfold cornersP; rw [cornersC_eq c5_valid]; decide +kernel
  have c : crossP c5L roX = [] := by decide +kernel
  unfold touchB sharedP
  rw [a, b, c]
  simp
theorem c5_clr (h : List Pt) : clrB (exP h) 2 12 0 32 = true := clr_of (h := h) (a := 2) (b := 0) (u := 12) (w := 32) c5_cor c5_valid c5_touch
theorem lie_20_hmA : lieB (exP hmA) 20 = true := by
  unfold lieB
  rw [show (20 : Int).toNat = 20 from rfl, disk_20]
  unfold cornersP
  rw [show (exP hmA).home = hmA from rfl, cornersC_eq hmA_valid]
  decide +kernel
theorem lie_32_hmA : lieB (exP hmA) 32 = true := by
  unfold lieB
  rw [show (32 : Int).toNat = 32 from rfl, disk_32]
  unfold cornersP
  rw [show (exP hmA).home = hmA from rfl, cornersC_eq hmA_valid]
  decide +kernel
theorem lie_20_hmB : lieB (exP hmB) 20 = false := by
  unfold lieB
  rw [show (20 : Int).toNat = 20 from rfl, disk_20]
  unfold cornersP
  rw [show (exP hmB).home = hmB from rfl, cornersC_eq hmB_valid]
  decide +kernel
theorem exP_deps (h : List Pt) : dep (exP h) 1 = 1 ∧ dep (exP h) 2 = 1 := ⟨rfl, rfl⟩
theorem exP_r0 (h : List Pt) : rdA (exP h) [] 0 = 0 ∧ rdB (exP h) [] 1 = 10 ∧ rdA (exP h) [] 1 = 10 ∧ rdB (exP h) [] 2 = 20 := by
  obtain ⟨g1, g2, g3, g4⟩ := exP_legs h
  have a0 : rdA (exP h) [] 0 = 0 := rfl
  have b1 : rdB (exP h) [] 1 = 10 := by rw [rdB_succ, a0, g1]; rfl
  have a1 : rdA (exP h) [] 1 = 10 := by rw [rdA_succ, if_neg (by simp), b1]
  exact ⟨a0, b1, a1, by rw [rdB_succ, a1, g2]; rfl⟩
theorem exP_r1 (h : List Pt) : rdA (exP h) [1] 0 = 0 ∧ rdB (exP h) [1] 1 = 10 ∧ rdA (exP h) [1] 1 = 2 ∧ rdB (exP h) [1] 2 = 12 := by
  obtain ⟨g1, g2, g3, g4⟩ := exP_legs h
  have a0 : rdA (exP h) [1] 0 = 0 := rfl
  have b1 : rdB (exP h) [1] 1 = 10 := by rw [rdB_succ, a0, g1]; rfl
  have a1 : rdA (exP h) [1] 1 = 2 := by rw [rdA_succ, if_pos (by simp), b1]; rfl
  exact ⟨a0, b1, a1, by rw [rdB_succ, a1, g2]; rfl⟩
theorem exP_us (h : List Pt) (l : List Int) : usE (exP h) l 1 = 0 ∧ usE (exP h) l 2 = 0 ∧ usT (exP h) l 1 ≤ 10 ∧ usT (exP h) l 2 ≤ 10 := by
  obtain ⟨t1, t2, t3, t4⟩ := exP_times h
  have w0 : ∀ k, waitT (exP h) l k = 0 := fun k => by
    unfold waitT
    split
    · match k with
      | 0 => rfl
      | 1 => rfl
      | 2 => rfl
      | k + 3 => rfl
    · rfl
  have i0 : (exP h).idle = 0 := rfl
  simp only [usE, usT, w0, exP_e, i0, t1, t2]
  decide
theorem exP_home (h : List Pt) : homeE (exP h) 1 1 = 0 ∧ homeE (exP h) 2 1 = 0 ∧ homeT (exP h) 1 1 = 1 ∧ homeT (exP h) 2 1 = 2 := by
  obtain ⟨t1, t2, t3, t4⟩ := exP_times h
  simp only [homeE, homeT, exP_e]
  refine ⟨rfl, rfl, ?_, ?_⟩
  · show 0 + tLeg (exP h) 1 0 = 1; rw [t3]; rfl
  · show 0 + tLeg (exP h) 2 0 = 2; rw [t4]; rfl
theorem exP_bk (h : List Pt) (r : Int) : bkR (exP h) 1 r 1 = r + 10 ∧ bkR (exP h) 2 r 1 = r + 20 ∧ bkC (exP h) 1 r 1 = clrB (exP h) 1 r 0 (r + 10) ∧ bkC (exP h) 2 r 1 = clrB (exP h) 2 r 0 (r + 20) := by
  obtain ⟨g1, g2, g3, g4⟩ := exP_legs h
  have b1 : bkR (exP h) 1 r 1 = r + 10 := by show r + gLeg (exP h) 1 0 = _; rw [g3]
  have b2 : bkR (exP h) 2 r 1 = r + 20 := by show r + gLeg (exP h) 2 0 = _; rw [g4]
  refine ⟨b1, b2, ?_, ?_⟩
  · show (true && clrB (exP h) 1 r 0 (bkR (exP h) 1 r 1)) = _; rw [b1]; rfl
  · show (true && clrB (exP h) 2 r 0 (bkR (exP h) 2 r 1)) = _; rw [b2]; rfl
theorem exP_lim (h : List Pt) : (exP h).battery = 1000 ∧ (exP h).deadline = 1000 := ⟨rfl, rfl⟩
theorem k0_kind : kindV (exP hmA) [] 0 = 0 := by
  obtain ⟨a0, b1, a1, b2⟩ := exP_r0 hmA
  obtain ⟨d1, d2⟩ := exP_deps hmA
  obtain ⟨u1, u2, u3, u4⟩ := exP_us hmA []
  obtain ⟨h1, h2, h3, h4⟩ := exP_home hmA
  obtain ⟨m1, m2⟩ := exP_lim hmA
  unfold kindV
  obtain ⟨q1, q2, q3, q4⟩ := exP_bk hmA 10
  rw [show (0 : Nat) + 1 = 1 from rfl, a0, b1, c1_clr, d1, q3, q1, show (10 : Int) + 10 = 20 from rfl, c2_clr, lie_20_hmA, if_neg (by decide), if_neg (by decide), if_neg (by decide), u1, h1, m1, h3, m2, if_neg (by decide), if_neg (by omega)]
theorem k1_kind : kindV (exP hmA) [] 1 = 1 := by
  obtain ⟨a0, b1, a1, b2⟩ := exP_r0 hmA
  obtain ⟨d1, d2⟩ := exP_deps hmA
  obtain ⟨u1, u2, u3, u4⟩ := exP_us hmA []
  obtain ⟨h1, h2, h3, h4⟩ := exP_home hmA
  obtain ⟨m1, m2⟩ := exP_lim hmA
  unfold kindV
  rw [show (1 : Nat) + 1 = 2 from rfl, a1, b2, c3_clr, if_pos rfl]
theorem k2_kind : kindV (exP hmA) [1] 0 = 0 := by
  obtain ⟨a0, b1, a1, b2⟩ := exP_r1 hmA
  obtain ⟨d1, d2⟩ := exP_deps hmA
  obtain ⟨u1, u2, u3, u4⟩ := exP_us hmA [1]
  obtain ⟨h1, h2, h3, h4⟩ := exP_home hmA
  obtain ⟨m1, m2⟩ := exP_lim hmA
  unfold kindV
  obtain ⟨q1, q2, q3, q4⟩ := exP_bk hmA 10
  rw [show (0 : Nat) + 1 = 1 from rfl, a0, b1, c1_clr, d1, q3, q1, show (10 : Int) + 10 = 20 from rfl, c2_clr, lie_20_hmA, if_neg (by decide), if_neg (by decide), if_neg (by decide), u1, h1, m1, h3, m2, if_neg (by decide), if_neg (by omega)]
theorem k3_kind : kindV (exP hmA) [1] 1 = 0 := by
  obtain ⟨a0, b1, a1, b2⟩ := exP_r1 hmA
  obtain ⟨d1, d2⟩ := exP_deps hmA
  obtain ⟨u1, u2, u3, u4⟩ := exP_us hmA [1]
  obtain ⟨h1, h2, h3, h4⟩ := exP_home hmA
  obtain ⟨m1, m2⟩ := exP_lim hmA
  unfold kindV
  obtain ⟨q1, q2, q3, q4⟩ := exP_bk hmA 12
  rw [show (1 : Nat) + 1 = 2 from rfl, a1, b2, c4_clr, d2, q4, q2, show (12 : Int) + 20 = 32 from rfl, c5_clr, lie_32_hmA, if_neg (by decide), if_neg (by decide), if_neg (by decide), u2, h2, m1, h4, m2, if_neg (by decide), if_neg (by omega)]
theorem k4_kind : kindV (exP hmB) [] 0 = 2 := by
  obtain ⟨a0, b1, a1, b2⟩ := exP_r0 hmB
  obtain ⟨d1, d2⟩ := exP_deps hmB
  obtain ⟨u1, u2, u3, u4⟩ := exP_us hmB []
  obtain ⟨h1, h2, h3, h4⟩ := exP_home hmB
  obtain ⟨m1, m2⟩ := exP_lim hmB
  unfold kindV
  obtain ⟨q1, q2, q3, q4⟩ := exP_bk hmB 10
  rw [show (0 : Nat) + 1 = 1 from rfl, a0, b1, c1_clr, d1, q3, q1, show (10 : Int) + 10 = 20 from rfl, c2_clr, lie_20_hmB, if_neg (by decide), if_neg (by decide), if_pos rfl]
theorem k5_kind : kindV (exP hmB) [1] 0 = 2 := by
  obtain ⟨a0, b1, a1, b2⟩ := exP_r1 hmB
  obtain ⟨d1, d2⟩ := exP_deps hmB
  obtain ⟨u1, u2, u3, u4⟩ := exP_us hmB [1]
  obtain ⟨h1, h2, h3, h4⟩ := exP_home hmB
  obtain ⟨m1, m2⟩ := exP_lim hmB
  unfold kindV
  obtain ⟨q1, q2, q3, q4⟩ := exP_bk hmB 10
  rw [show (0 : Nat) + 1 = 1 from rfl, a0, b1, c1_clr, d1, q3, q1, show (10 : Int) + 10 = 20 from rfl, c2_clr, lie_20_hmB, if_neg (by decide), if_neg (by decide), if_pos rfl]
theorem exP_len (h : List Pt) : (exP h).ways.length = 3 := rfl
theorem exP_stops (h : List Pt) : stopsB (exP h) [] = true ∧ stopsB (exP h) [1] = true ∧ stopsB (exP h) [2] = false := by
  refine ⟨?_, ?_, ?_⟩
  · unfold stopsB; exact decide_eq_true fun k hk => absurd hk (by simp)
  · show stopsB (exP hmB) [1] = true; decide
  · show stopsB (exP hmB) [2] = false; decide
theorem exP_ok {h : List Pt} (hh : goValid h = true) : radOkB (exP h) [] = true ∧ radOkB (exP h) [1] = true ∧ radOkB (exP h) [2] = false := by
  obtain ⟨a, b, c⟩ := exP_stops h
  simp [radOkB, exP_valid hh, a, b, c]
theorem exA_0 : kpL (exP hmA) [] = 1 ∧ kpK (exP hmA) [] = 1 ∧ kpE (exP hmA) [] = 0 := by
  have e : leadN (exP hmA) [] = 1 := lead_iff (by rw [exP_len]; decide) (fun j hj => by obtain rfl : j = 0 := by omega
                                                                                        exact k0_kind) (fun _ => by rw [k1_kind]; decide)
  simp only [kpL, kpK, kpE, (exP_ok hmA_valid).1, if_true, leadV, leadK, e]
  exact ⟨rfl, by rw [if_pos (by rw [exP_len]; decide)]; exact k1_kind, trivial⟩
theorem exA_1 : kpL (exP hmA) [1] = 2 ∧ kpK (exP hmA) [1] = 0 ∧ kpE (exP hmA) [1] = 0 := by
  have e : leadN (exP hmA) [1] = 2 := lead_iff (by rw [exP_len]; decide) (fun j hj => by
    match j, hj with
    | 0, _ => exact k2_kind
    | 1, _ => exact k3_kind
    | j + 2, hj => exact absurd hj (by omega)) (fun h => absurd h (by rw [exP_len]; decide))
  simp only [kpL, kpK, kpE, (exP_ok hmA_valid).2.1, if_true, leadV, leadK, e]
  exact ⟨rfl, by rw [if_neg (by rw [exP_len]; decide)], trivial⟩
theorem exA_2 (h : List Pt) (hh : goValid h = true) : kpL (exP h) [2] = 0 ∧ kpK (exP h) [2] = 0 ∧ kpE (exP h) [2] = 1 := by
  simp [kpL, kpK, kpE, (exP_ok hh).2.2]
theorem exB_0 : kpL (exP hmB) [] = 0 ∧ kpK (exP hmB) [] = 2 ∧ kpE (exP hmB) [] = 0 := by
  have e : leadN (exP hmB) [] = 0 := lead_iff (by rw [exP_len]; decide) (fun j hj => by omega) (fun _ => by rw [k4_kind]; decide)
  simp only [kpL, kpK, kpE, (exP_ok hmB_valid).1, if_true, leadV, leadK, e]
  exact ⟨rfl, by rw [if_pos (by rw [exP_len]; decide)]; exact k4_kind, trivial⟩
theorem exB_1 : kpL (exP hmB) [1] = 0 := by
  have e : leadN (exP hmB) [1] = 0 := lead_iff (by rw [exP_len]; decide) (fun j hj => by omega) (fun _ => by rw [k5_kind]; decide)
  simp only [kpL, (exP_ok hmB_valid).2.1, if_true, leadV, e]
  rfl
theorem exP_fix (h : List Pt) : fixL (exP h) = [1] := rfl
theorem exA_best : bestP (exP hmA) = (2, [1]) := by
  unfold bestP farL
  rw [exP_fix, show allTo [1] (([1] : List Int).length + 1) = [[], [1]] from rfl]
  simp [farS, exA_0.1, exA_1.1]
theorem exB_best : bestP (exP hmB) = (0, []) := by
  unfold bestP farL
  rw [exP_fix, show allTo [1] (([1] : List Int).length + 1) = [[], [1]] from rfl]
  simp [farS, exB_0.1, exB_1]
theorem exA_all : bsB (exP hmA) = true ∧ bsL (exP hmA) = [1] ∧ plE (exP hmA) = 0 ∧ rfB (exP hmA) = false ∧ rfL (exP hmA) = [] ∧ rfG (exP hmA) = 0 := by
  have hv := exP_valid hmA_valid
  simp [bsB, bsL, rfB, rfL, rfG, plE, hv, exA_best, exP_len]
theorem exB_all : bsB (exP hmB) = false ∧ bsL (exP hmB) = [] ∧ plE (exP hmB) = 0 ∧ rfB (exP hmB) = true ∧ rfL (exP hmB) = [] ∧ rfG (exP hmB) = 0 := by
  have hv := exP_valid hmB_valid
  simp [bsB, bsL, rfB, rfL, rfG, plE, hv, exB_best, exP_len]
end Go.Proofs.YtdkeiadpnnleoaaGreat

namespace Go.Proofs.YtdkeiadpnnleoaaGreat
open Go.RowKit
attribute [local irreducible] wpQuiet

/-- a whole struct of 11 cells laid into a block -/
theorem set11 {X Z : World} {B : Nat} {cs : Array Value} {T : TypeId} {v0 v1 v2 v3 v4 v5 v6 v7 v8 v9 v10 : Value} (H : Has X B cs T) (hs : cs.size = 11) (hz : (((((((((((X.setCell ⟨B, 0, none⟩ v0).setCell ⟨B, 1, none⟩ v1).setCell ⟨B, 2, none⟩ v2).setCell ⟨B, 3, none⟩ v3).setCell ⟨B, 4, none⟩ v4).setCell ⟨B, 5, none⟩ v5).setCell ⟨B, 6, none⟩ v6).setCell ⟨B, 7, none⟩ v7).setCell ⟨B, 8, none⟩ v8).setCell ⟨B, 9, none⟩ v9).setCell ⟨B, 10, none⟩ v10) = Z) :
    Has Z B #[v0, v1, v2, v3, v4, v5, v6, v7, v8, v9, v10] T ∧ (∀ n, n ≤ B → Below n X Z) ∧ Z.heap.size = X.heap.size ∧ ∀ b, b ≠ B → Z.heap[b]? = X.heap[b]? := by
  subst hz
  obtain ⟨l, rfl⟩ : ∃ l : List Value, cs = l.toArray := ⟨cs.toList, by simp⟩
  obtain ⟨u0, u1, u2, u3, u4, u5, u6, u7, u8, u9, u10, rfl⟩ : ∃ u0 u1 u2 u3 u4 u5 u6 u7 u8 u9 u10, l = [u0, u1, u2, u3, u4, u5, u6, u7, u8, u9, u10] := by
    match l, hs with
    | [u0, u1, u2, u3, u4, u5, u6, u7, u8, u9, u10], _ => exact ⟨_, _, _, _, _, _, _, _, _, _, _, rfl⟩
  refine ⟨?_, fun n hn => ?_, by simp, fun b hb => ?_⟩
  · have := (((((((((((H.set 0 v0).set 1 v1).set 2 v2).set 3 v3).set 4 v4).set 5 v5).set 6 v6).set 7 v7).set 8 v8).set 9 v9).set 10 v10)
    simpa only [List.setIfInBounds_toArray, List.set_cons_zero, List.set_cons_succ] using this
  · exact ((((((((((((Below.refl n X).setCell (p := ⟨B, 0, none⟩) hn v0).setCell (p := ⟨B, 1, none⟩) hn v1).setCell (p := ⟨B, 2, none⟩) hn v2).setCell (p := ⟨B, 3, none⟩) hn v3).setCell (p := ⟨B, 4, none⟩) hn v4).setCell (p := ⟨B, 5, none⟩) hn v5).setCell (p := ⟨B, 6, none⟩) hn v6).setCell (p := ⟨B, 7, none⟩) hn v7).setCell (p := ⟨B, 8, none⟩) hn v8).setCell (p := ⟨B, 9, none⟩) hn v9).setCell (p := ⟨B, 10, none⟩) hn v10)
  · iterate 11 (rw [Below.heap_setCell _ _ _ _ (by exact hb)])
theorem at35_any (x y : Int) (w : World) :
    Calls Tryz.prog 112 #[.int .i64 x, .int .i64 y] w fun e w' => e = .returned (.agg #[.int .i64 x, .int .i64 y]) ∧ Below w.heap.size w w' := by
  go_enter Tryz.func112, Tryz.ntmps112
  go_wp2
  exact bodyPost_ret (v := .agg #[.int .i64 x, .int .i64 y]) (by simp [results, Tryz.f112, go_sem]) rfl ⟨rfl, by repeat (first | exact Below.refl _ _ | assumption | apply Below.drew | refine Below.setCell ?_ (by first | omega | (simp; done) | (simp; omega)) _ | refine Below.alloc ?_ (by first | omega | (simp; done) | (simp; omega)) _ | refine Below.call (by assumption) ?_ (by first | omega | (simp; done) | (simp; omega)))⟩
theorem few35_any (m : Msn) (vw vh vr : Value) (w : World) (hm : MsnAt w.heap.size w m vw vh vr) :
    Calls Tryz.prog 43 #[.agg (msnCells m vw vh vr)] w fun e w' => e = .returned (.bool (fewB m)) ∧ Below w.heap.size w w' := by
  have hf := fun w1 (B : Below w.heap.size w w1) => few_any m vw vh vr w1 ((hm.below B).mono B.size)
  obtain ⟨⟨-, a1, c1, rfl, -⟩, ⟨-, a2, c2, rfl, -⟩, ⟨-, a3, c3, rfl, -⟩⟩ := hm
  unfold msnCells at *
  replace hf := Lib.hid hf
  have BW := Lib.hid (Below.refl w.heap.size w)
  go_enter Tryz.func43, Tryz.ntmps43
  go_wp2_with fail
  generalize hXX0 : World.alloc w _ = X0
  obtain ⟨q0, hA, hzX0⟩ := box1 hXX0
  clear hXX0
  have BW := Lib.hid hA
  clear hA
  have MB := Lib.hid q0
  clear q0
  refine (hf.out _ BW.out).mono ?_
  rintro e w1 ⟨rfl, b1⟩
  replace BW := Lib.hid (BW.out.trans (b1.mono BW.out.size))
  have B_X0 := Lib.hid b1
  clear b1
  go_wp2
  go_ret
  exact ⟨rfl, BW.out⟩
theorem exP_at {W : World} {a b c d : Nat} (h1 : Has W a #[.int .i64 0, .int .i64 0, .int .i64 0, .int .i64 0, .int .i64 0, .int .i64 100, .int .i64 0, .int .i64 2, .int .i64 0, .int .i64 0, .int .i64 200, .int .i64 0, .int .i64 0, .int .i64 0, .int .i64 0] 65) (h2 : Has W b #[.int .i64 (-100), .int .i64 (-100), .int .i64 100, .int .i64 (-100), .int .i64 100, .int .i64 100, .int .i64 (-100), .int .i64 100] 36) (h3 : Has W c #[.int .i64 185, .int .i64 90, .int .i64 190, .int .i64 15, .int .i64 195, .int .i64 90] 36) (h4 : Has W d #[.slice (some ⟨c, 0, none⟩) 3 3] 23) :
    MsnAt W.heap.size W (exP hmA) (.slice (some ⟨a, 0, none⟩) 3 3) (.slice (some ⟨b, 0, none⟩) 4 4) (.slice (some ⟨d, 0, none⟩) 1 1) := by
  refine ⟨⟨by simp [exP], some ⟨a, 0, none⟩, 0, rfl, .inr ⟨a, 0, rfl, h1.lt, fun j hj => ?_⟩⟩, PtsAt.has (l := hmA) (cap := 0) h2 (by simp [hmA]) rfl, RocksAt.has (ls := [roX]) (cap := 0) h4 (by simp) fun j hj => ?_⟩
  · rcases (show j = 0 ∨ j = 1 ∨ j = 2 by simp [exP] at hj; omega) with rfl | rfl | rfl
    · exact ⟨h1.cell (i := 0) rfl, h1.cell (i := 1) rfl, h1.cell (i := 2) rfl, h1.cell (i := 3) rfl, h1.cell (i := 4) rfl⟩
    · exact ⟨h1.cell (i := 5) rfl, h1.cell (i := 6) rfl, h1.cell (i := 7) rfl, h1.cell (i := 8) rfl, h1.cell (i := 9) rfl⟩
    · exact ⟨h1.cell (i := 10) rfl, h1.cell (i := 11) rfl, h1.cell (i := 12) rfl, h1.cell (i := 13) rfl, h1.cell (i := 14) rfl⟩
  · obtain rfl : j = 0 := by simp at hj; omega
    exact ⟨_, rfl, PtsAt.has (l := roX) (cap := 0) h3 (by simp [roX]) rfl⟩
set_option linter.unusedSimpArgs false in
set_option linter.unusedVariables false in
set_option maxRecDepth 8000 in
set_option maxHeartbeats 3200000 in
theorem example35_any (w : World) : Calls Tryz.prog 111 #[] w fun e w' => ∃ a b d, e = .returned (.agg (msnCells (exP hmA) (.slice (some ⟨a, 0, none⟩) 3 3) (.slice (some ⟨b, 0, none⟩) 4 4) (.slice (some ⟨d, 0, none⟩) 1 1))) ∧ MsnAt w'.heap.size w' (exP hmA) (.slice (some ⟨a, 0, none⟩) 3 3) (.slice (some ⟨b, 0, none⟩) 4 4) (.slice (some ⟨d, 0, none⟩) 1 1) ∧ Below w.heap.size w w' := by
  have f1 := Lib.hid (fun x y w1 => at35_any x y w1)
  have BW := Lib.hid (Below.refl w.heap.size w)
  go_enter Tryz.func111, Tryz.ntmps111
  go_wp2_with fail
  generalize hXX0 : World.alloc w _ = X0
  obtain ⟨q0, hA, hzX0⟩ := box1 hXX0
  clear hXX0
  have BW := Lib.hid hA
  clear hA
  have RV := Lib.hid q0
  clear q0
  refine (f1.out (-100) (-100) X0).mono ?_
  rintro e w1 ⟨rfl, b1⟩
  replace BW := Lib.hid (BW.out.trans (b1.mono BW.out.size))
  have B_X0 := Lib.hid b1
  clear b1
  go_wp2_with fail
  refine (f1.out 100 (-100) w1).mono ?_
  rintro e w2 ⟨rfl, b2⟩
  replace BW := Lib.hid (BW.out.trans (b2.mono BW.out.size))
  replace B_X0 := Lib.hid (B_X0.out.trans (b2.mono B_X0.out.size))
  clear b2
  go_wp2_with fail
  refine (f1.out 100 100 w2).mono ?_
  rintro e w3 ⟨rfl, b3⟩
  replace BW := Lib.hid (BW.out.trans (b3.mono BW.out.size))
  replace B_X0 := Lib.hid (B_X0.out.trans (b3.mono B_X0.out.size))
  clear b3
  go_wp2_with fail
  refine (f1.out (-100) 100 w3).mono ?_
  rintro e w4 ⟨rfl, b4⟩
  replace BW := Lib.hid (BW.out.trans (b4.mono BW.out.size))
  replace B_X0 := Lib.hid (B_X0.out.trans (b4.mono B_X0.out.size))
  clear b4
  have nh := Lib.hid (show w.heap.size < w4.heap.size by have := B_X0.out.size; omega)
  go_upto_region 2 with fail
  generalize hXX1 : World.alloc w4 _ = X1
  obtain ⟨q0, hA, hzX1⟩ := box1 hXX1
  clear hXX1
  replace BW := Lib.hid (BW.out.trans (hA.mono BW.out.size))
  replace B_X0 := Lib.hid (B_X0.out.trans (hA.mono B_X0.out.size))
  clear hA
  have HB := Lib.hid q0
  clear q0
  go_wp2_with fail
  refine (f1.out 185 90 X1).mono ?_
  rintro e w5 ⟨rfl, b5⟩
  replace BW := Lib.hid (BW.out.trans (b5.mono BW.out.size))
  replace B_X0 := Lib.hid (B_X0.out.trans (b5.mono B_X0.out.size))
  have B_X1 := Lib.hid b5
  clear b5
  go_wp2_with fail
  refine (f1.out 190 15 w5).mono ?_
  rintro e w6 ⟨rfl, b6⟩
  replace BW := Lib.hid (BW.out.trans (b6.mono BW.out.size))
  replace B_X0 := Lib.hid (B_X0.out.trans (b6.mono B_X0.out.size))
  replace B_X1 := Lib.hid (B_X1.out.trans (b6.mono B_X1.out.size))
  clear b6
  go_wp2_with fail
  refine (f1.out 195 90 w6).mono ?_
  rintro e w7 ⟨rfl, b7⟩
  replace BW := Lib.hid (BW.out.trans (b7.mono BW.out.size))
  replace B_X0 := Lib.hid (B_X0.out.trans (b7.mono B_X0.out.size))
  replace B_X1 := Lib.hid (B_X1.out.trans (b7.mono B_X1.out.size))
  clear b7
  have nk := Lib.hid (show w.heap.size < w7.heap.size by have := B_X0.out.size; omega)
  go_upto_region 3 with fail
  generalize hXX2 : World.alloc w7 _ = X2
  obtain ⟨q0, hA, hzX2⟩ := box1 hXX2
  clear hXX2
  replace BW := Lib.hid (BW.out.trans (hA.mono BW.out.size))
  replace B_X0 := Lib.hid (B_X0.out.trans (hA.mono B_X0.out.size))
  replace B_X1 := Lib.hid (B_X1.out.trans (hA.mono B_X1.out.size))
  clear hA
  have KB := Lib.hid q0
  clear q0
  go_wp2_with fail
  refine (f1.out 100 0 X2).mono ?_
  rintro e w8 ⟨rfl, b8⟩
  replace BW := Lib.hid (BW.out.trans (b8.mono BW.out.size))
  replace B_X0 := Lib.hid (B_X0.out.trans (b8.mono B_X0.out.size))
  replace B_X1 := Lib.hid (B_X1.out.trans (b8.mono B_X1.out.size))
  have B_X2 := Lib.hid b8
  clear b8
  go_wp2_with fail
  refine (f1.out 200 0 w8).mono ?_
  rintro e w9 ⟨rfl, b9⟩
  replace BW := Lib.hid (BW.out.trans (b9.mono BW.out.size))
  replace B_X0 := Lib.hid (B_X0.out.trans (b9.mono B_X0.out.size))
  replace B_X1 := Lib.hid (B_X1.out.trans (b9.mono B_X1.out.size))
  replace B_X2 := Lib.hid (B_X2.out.trans (b9.mono B_X2.out.size))
  clear b9
  clear hzX1 hzX2
  have hR := (RV.out.below B_X0.out RV.out.lt)
  have ltR := hR.lt
  have HB9 := Lib.hid (HB.out.below B_X1.out HB.out.lt)
  have KB9 := Lib.hid (KB.out.below B_X2.out KB.out.lt)
  have r0 := hR.cell (i := 0) rfl
  have z0 := cells_free hR 0
  have r1 := hR.cell (i := 1) rfl
  have z1 := cells_free hR 1
  have r2 := hR.cell (i := 2) rfl
  have z2 := cells_free hR 2
  have r3 := hR.cell (i := 3) rfl
  have z3 := cells_free hR 3
  have r4 := hR.cell (i := 4) rfl
  have z4 := cells_free hR 4
  have r5 := hR.cell (i := 5) rfl
  have z5 := cells_free hR 5
  have r6 := hR.cell (i := 6) rfl
  have z6 := cells_free hR 6
  have r7 := hR.cell (i := 7) rfl
  have z7 := cells_free hR 7
  have r8 := hR.cell (i := 8) rfl
  have z8 := cells_free hR 8
  have r9 := hR.cell (i := 9) rfl
  have z9 := cells_free hR 9
  have r10 := hR.cell (i := 10) rfl
  have z10 := cells_free hR 10
  have HR := Lib.hid hR
  clear hR
  go_wp2
  clear r0 z0 r1 z1 r2 z2 r3 z3 r4 z4 r5 z5 r6 z6 r7 z7 r8 z8 r9 z9 r10 z10
  generalize hZ : World.setCell (World.setCell (World.setCell (World.setCell (World.setCell (World.setCell (World.setCell (World.setCell (World.setCell (World.setCell (World.setCell w9 _ _) _ _) _ _) _ _) _ _) _ _) _ _) _ _) _ _) _ _) _ _ = Z
  obtain ⟨HZ, hl2, hs2, he2⟩ := set11 HR.out rfl hZ
  clear hZ
  generalize hX9 : World.alloc (World.alloc Z _) _ = X
  obtain ⟨q0, q1, hA, -⟩ := box2 hX9
  clear hX9
  have ltZ : w.heap.size < Z.heap.size := HZ.lt
  have hR := HZ.below hA ltZ
  have hH := (Has.eq HB9.out he2 (by have := nh.out; omega)).below hA (by rw [hs2]; exact HB9.out.lt)
  have hK := (Has.eq KB9.out he2 (by have := nk.out; omega)).below hA (by rw [hs2]; exact KB9.out.lt)
  have BX := BW.out.trans ((hl2 w.heap.size (Nat.le_refl _)).trans (hA.mono (by omega)))
  rw [hs2] at q0 q1
  have hM := exP_at q0 hH hK q1
  have r0 := hR.cell (i := 0) rfl
  have r1 := hR.cell (i := 1) rfl
  have r2 := hR.cell (i := 2) rfl
  have r3 := hR.cell (i := 3) rfl
  have r4 := hR.cell (i := 4) rfl
  have r5 := hR.cell (i := 5) rfl
  have r6 := hR.cell (i := 6) rfl
  have r7 := hR.cell (i := 7) rfl
  have r8 := hR.cell (i := 8) rfl
  have r9 := hR.cell (i := 9) rfl
  have r10 := hR.cell (i := 10) rfl
  exact bodyPost_ret (v := .agg (msnCells (exP hmA) _ _ _)) (by simp [results, msnCells, exP, Tryz.f111, go_sem, r0, r1, r2, r3, r4, r5, r6, r7, r8, r9, r10]) rfl ⟨_, _, _, rfl, hM, BX⟩
end Go.Proofs.YtdkeiadpnnleoaaGreat

namespace Go.Proofs.YtdkeiadpnnleoaaGreat
open Go.RowKit
attribute [local irreducible] wpQuiet

theorem ints_one {W : World} {B : Nat} {x : Int} {T : TypeId} (h : Has W B #[.int .i64 x] T) : IntsAt W.heap.size W (.slice (some ⟨B, 0, none⟩) 1 1) [x] := by
  refine ⟨by simp, some ⟨B, 0, none⟩, 0, rfl, .inr ⟨B, 0, rfl, h.lt, fun j hj => ?_⟩⟩
  obtain rfl : j = 0 := by simp at hj; omega
  exact h.cell (i := 0) rfl
theorem grown_cell (W : World) (a : Addr) (v : Value) : W.grownBy (W.setCell a v) (some a.block) := ⟨rfl, rfl, rfl, by simp [World.setCell], fun k _ hk => Below.heap_setCell _ _ _ k (fun e => hk (by rw [e]))⟩
theorem MsnAt.homeB {W : World} {vw vh vr vb : Value} (h : MsnAt W.heap.size W (exP hmA) vw vh vr) (hp : PtsAt W.heap.size W vb hmB) : MsnAt W.heap.size W (exP hmB) vw vb vr := ⟨h.1, hp, h.2.2⟩
set_option linter.unusedSimpArgs false in
set_option linter.unusedVariables false in
set_option maxRecDepth 8000 in
set_option maxHeartbeats 6400000 in
theorem head35_any (w : World) : Calls Tryz.prog 42 #[] w fun e w' => e = .returned (.bool true) ∧ Below w.heap.size w w' := by
  have fx := Lib.hid (fun w1 => example35_any w1)
  have fa := Lib.hid (fun w1 => at35_any 0 0 w1)
  have BW := Lib.hid (Below.refl w.heap.size w)
  go_enter Tryz.func42, Tryz.ntmps42
  go_wp2_with fail
  refine (fx.out w).mono ?_
  rintro e w1 ⟨a, b, d, rfl, hM, b1⟩
  have BW := Lib.hid b1
  clear b1
  have MM := Lib.hid hM
  clear hM
  simp only [msnCells, exP]
  have ltw1 := Lib.hid BW.out.size
  go_wp2_with fail
  generalize hXX1 : World.alloc w1 _ = X1
  obtain ⟨q0, hA, hzX1⟩ := box1 hXX1
  clear hXX1
  replace BW := Lib.hid (BW.out.trans (hA.mono BW.out.size))
  have B_w1 := Lib.hid hA
  clear hA
  have MB := Lib.hid q0
  clear q0
  clear hzX1
  obtain ⟨c0, c1, c2, c3, c4, c5, c6, c7, c8, c9, c10⟩ := msn_cells (m := exP hmA) MB.out
  have ltMB := MB.out.lt
  have g1 := tkeeps_any (exP hmA) _ _ _ (.slice none 0 0) [] X1 ((MM.out.below B_w1.out).mono B_w1.out.size) (IntsAt.nil _ _)
  rw [exA_0.1, exA_0.2.1, exA_0.2.2] at g1
  refine (g1).mono ?_
  rintro e w2 ⟨rfl, b2⟩
  replace BW := Lib.hid (BW.out.trans (b2.mono BW.out.size))
  replace B_w1 := Lib.hid (B_w1.out.trans (b2.mono B_w1.out.size))
  have B_X1 := Lib.hid b2
  clear b2
  clear c0 c1 c2 c3 c4 c5 c6 c7 c8 c9 c10 ltMB
  obtain ⟨c0, c1, c2, c3, c4, c5, c6, c7, c8, c9, c10⟩ := msn_cells (m := exP hmA) (MB.out.below B_X1.out MB.out.lt)
  have ltMB := (MB.out.below B_X1.out MB.out.lt).lt
  clear g1
  go_wp2_with fail
  generalize hXX2 : World.alloc w2 _ = X2
  obtain ⟨q0, hA, hzX2⟩ := box1 hXX2
  clear hXX2
  replace BW := Lib.hid (BW.out.trans (hA.mono BW.out.size))
  replace B_w1 := Lib.hid (B_w1.out.trans (hA.mono B_w1.out.size))
  replace B_X1 := Lib.hid (B_X1.out.trans (hA.mono B_X1.out.size))
  clear hA
  have S1 := Lib.hid q0
  clear q0
  clear c0 c1 c2 c3 c4 c5 c6 c7 c8 c9 c10 ltMB
  obtain ⟨c0, c1, c2, c3, c4, c5, c6, c7, c8, c9, c10⟩ := msn_cells (m := exP hmA) (MB.out.below B_X1.out MB.out.lt)
  have ltMB := (MB.out.below B_X1.out MB.out.lt).lt
  clear hzX2
  have g2 := tkeeps_any (exP hmA) _ _ _ _ [1] X2 ((MM.out.below B_w1.out).mono B_w1.out.size) (ints_one S1.out)
  rw [exA_1.1, exA_1.2.1, exA_1.2.2] at g2
  refine (g2).mono ?_
  rintro e w3 ⟨rfl, b3⟩
  replace BW := Lib.hid (BW.out.trans (b3.mono BW.out.size))
  replace B_w1 := Lib.hid (B_w1.out.trans (b3.mono B_w1.out.size))
  replace B_X1 := Lib.hid (B_X1.out.trans (b3.mono B_X1.out.size))
  have B_X2 := Lib.hid b3
  clear b3
  clear c0 c1 c2 c3 c4 c5 c6 c7 c8 c9 c10 ltMB
  obtain ⟨c0, c1, c2, c3, c4, c5, c6, c7, c8, c9, c10⟩ := msn_cells (m := exP hmA) (MB.out.below B_X1.out MB.out.lt)
  have ltMB := (MB.out.below B_X1.out MB.out.lt).lt
  clear g2
  clear S1
  clear B_X2
  go_wp2_with fail
  have g3 := tbest_any (exP hmA) _ _ _ w3 ((MM.out.below B_w1.out).mono B_w1.out.size) (by rw [exP_len]; decide)
  simp only [exA_all.1, exA_all.2.1, exA_all.2.2.1, exA_all.2.2.2.1, exA_all.2.2.2.2.1, exA_all.2.2.2.2.2] at g3
  refine (g3).mono ?_
  rintro e w4 ⟨v1, rfl, p1, b4, n1'⟩
  replace BW := Lib.hid (BW.out.trans (b4.mono BW.out.size))
  replace B_w1 := Lib.hid (B_w1.out.trans (b4.mono B_w1.out.size))
  replace B_X1 := Lib.hid (B_X1.out.trans (b4.mono B_X1.out.size))
  clear b4
  have PB := Lib.hid p1
  clear p1
  obtain ⟨-, ga3, gk3, hv3, -⟩ := PB.out
  subst hv3
  have NB := Lib.hid (fun r e => show w1.heap.size < r by have := n1' r e; omega)
  clear n1'
  clear c0 c1 c2 c3 c4 c5 c6 c7 c8 c9 c10 ltMB
  obtain ⟨c0, c1, c2, c3, c4, c5, c6, c7, c8, c9, c10⟩ := msn_cells (m := exP hmA) (MB.out.below B_X1.out MB.out.lt)
  have ltMB := (MB.out.below B_X1.out MB.out.lt).lt
  clear g3
  go_wp2_with fail
  have g4 := trefused_any (exP hmA) _ _ _ w4 ((MM.out.below B_w1.out).mono B_w1.out.size) (by rw [exP_len]; decide)
  simp only [exA_all.1, exA_all.2.1, exA_all.2.2.1, exA_all.2.2.2.1, exA_all.2.2.2.2.1, exA_all.2.2.2.2.2] at g4
  refine (g4).mono ?_
  rintro e w5 ⟨v2, rfl, p2, b5, -⟩
  replace BW := Lib.hid (BW.out.trans (b5.mono BW.out.size))
  replace B_w1 := Lib.hid (B_w1.out.trans (b5.mono B_w1.out.size))
  replace B_X1 := Lib.hid (B_X1.out.trans (b5.mono B_X1.out.size))
  have B_w4 := Lib.hid b5
  clear b5
  have PR := Lib.hid p2
  clear p2
  obtain ⟨-, ga4, gk4, hv4, -⟩ := PR.out
  subst hv4
  clear c0 c1 c2 c3 c4 c5 c6 c7 c8 c9 c10 ltMB
  obtain ⟨c0, c1, c2, c3, c4, c5, c6, c7, c8, c9, c10⟩ := msn_cells (m := exP hmA) (MB.out.below B_X1.out MB.out.lt)
  have ltMB := (MB.out.below B_X1.out MB.out.lt).lt
  clear g4
  go_wp2_with fail
  refine (fa.out w5).mono ?_
  rintro e w6 ⟨rfl, b6⟩
  replace BW := Lib.hid (BW.out.trans (b6.mono BW.out.size))
  replace B_w1 := Lib.hid (B_w1.out.trans (b6.mono B_w1.out.size))
  replace B_X1 := Lib.hid (B_X1.out.trans (b6.mono B_X1.out.size))
  replace B_w4 := Lib.hid (B_w4.out.trans (b6.mono B_w4.out.size))
  have B_w5 := Lib.hid b6
  clear b6
  clear c0 c1 c2 c3 c4 c5 c6 c7 c8 c9 c10 ltMB
  obtain ⟨c0, c1, c2, c3, c4, c5, c6, c7, c8, c9, c10⟩ := msn_cells (m := exP hmA) (MB.out.below B_X1.out MB.out.lt)
  have ltMB := (MB.out.below B_X1.out MB.out.lt).lt
  have hMB := (MB.out.below B_X1.out MB.out.lt)
  have l0 := hMB.cell (i := 1) rfl
  have l1 := cells_free hMB 1
  have HMB := Lib.hid hMB
  have ltw := hMB.lt
  clear hMB
  go_upto_region 7 with fail
  clear l0 l1
  clear c0 c1 c2 c3 c4 c5 c6 c7 c8 c9 c10 ltMB
  generalize hZ : World.setCell w6 _ _ = Z
  have HZ := HMB.out.set 1 (.slice (some ⟨w6.heap.size, 0, none⟩) 1 1)
  have BZ := B_w1.out.setCell (p := ⟨w1.heap.size, 1, none⟩) (Nat.le_refl _) (.slice (some ⟨w6.heap.size, 0, none⟩) 1 1)
  have BZ0 := BW.out.setCell (p := ⟨w1.heap.size, 1, none⟩) ltw1.out (.slice (some ⟨w6.heap.size, 0, none⟩) 1 1)
  have PB2 := IntsAt.offG ((PB.out.below B_w4.out).mono B_w4.out.size) (grown_cell w6 ⟨w1.heap.size, 1, none⟩ (.slice (some ⟨w6.heap.size, 0, none⟩) 1 1)) (fun r e => .inr fun e2 => by cases e; exact absurd (NB.out _ e2) (Nat.lt_irrefl _))
  have SZ : Z.heap.size = w6.heap.size := by rw [← hZ]; simp
  rw [hZ] at HZ BZ BZ0 PB2
  clear hZ
  simp only [List.setIfInBounds_toArray, List.set_cons_zero, List.set_cons_succ] at HZ
  generalize hY : World.alloc Z _ = Y
  obtain ⟨q0, hA, hzY⟩ := box1 hY
  clear hY hzY
  rw [SZ] at q0
  have BZY := BZ.trans (hA.mono BZ.size)
  have M2 := Lib.hid (MsnAt.homeB ((MM.out.below BZY).mono BZY.size) (PtsAt.has (l := hmB) (cap := 0) q0 (by simp [hmB]) rfl))
  have B2 := Lib.hid (HZ.below hA HZ.lt)
  have P2 := Lib.hid ((PB2.below hA).mono hA.size)
  replace BW := Lib.hid (BZ0.trans (hA.mono BZ0.size))
  clear HZ BZ BZ0 PB2 SZ q0 hA BZY MM MB PB PR NB HMB B_w1 ltw
  obtain ⟨c0, c1, c2, c3, c4, c5, c6, c7, c8, c9, c10⟩ := msn_cells (m := exP hmB) B2.out
  have ltB2 := B2.out.lt
  go_wp2_with fail
  have g5 := tbest_any (exP hmB) _ _ _ Y M2.out (by rw [exP_len]; decide)
  simp only [exB_all.1, exB_all.2.1, exB_all.2.2.1, exB_all.2.2.2.1, exB_all.2.2.2.2.1, exB_all.2.2.2.2.2] at g5
  refine (g5).mono ?_
  rintro e w7 ⟨v3, rfl, p3, b7, -⟩
  replace BW := Lib.hid (BW.out.trans (b7.mono BW.out.size))
  have B_Y := Lib.hid b7
  clear b7
  have P3 := Lib.hid p3
  clear p3
  obtain ⟨-, ga5, gk5, hv5, -⟩ := P3.out
  subst hv5
  clear c0 c1 c2 c3 c4 c5 c6 c7 c8 c9 c10 ltB2
  obtain ⟨c0, c1, c2, c3, c4, c5, c6, c7, c8, c9, c10⟩ := msn_cells (m := exP hmB) (B2.out.below B_Y.out B2.out.lt)
  have ltB2 := (B2.out.below B_Y.out B2.out.lt).lt
  clear g5
  go_wp2_with fail
  have g6 := trefused_any (exP hmB) _ _ _ w7 ((M2.out.below B_Y.out).mono B_Y.out.size) (by rw [exP_len]; decide)
  simp only [exB_all.1, exB_all.2.1, exB_all.2.2.1, exB_all.2.2.2.1, exB_all.2.2.2.2.1, exB_all.2.2.2.2.2] at g6
  refine (g6).mono ?_
  rintro e w8 ⟨v4, rfl, p4, b8, -⟩
  replace BW := Lib.hid (BW.out.trans (b8.mono BW.out.size))
  replace B_Y := Lib.hid (B_Y.out.trans (b8.mono B_Y.out.size))
  have B_w7 := Lib.hid b8
  clear b8
  have P4 := Lib.hid p4
  clear p4
  obtain ⟨-, ga6, gk6, hv6, -⟩ := P4.out
  subst hv6
  clear c0 c1 c2 c3 c4 c5 c6 c7 c8 c9 c10 ltB2
  obtain ⟨c0, c1, c2, c3, c4, c5, c6, c7, c8, c9, c10⟩ := msn_cells (m := exP hmB) (B2.out.below B_Y.out B2.out.lt)
  have ltB2 := (B2.out.below B_Y.out B2.out.lt).lt
  clear g6
  go_wp2_with fail
  have g7 := tkeeps_any (exP hmB) _ _ _ (.slice none 0 0) [] w8 ((M2.out.below B_Y.out).mono B_Y.out.size) (IntsAt.nil _ _)
  rw [exB_0.1, exB_0.2.1, exB_0.2.2] at g7
  refine (g7).mono ?_
  rintro e w9 ⟨rfl, b9⟩
  replace BW := Lib.hid (BW.out.trans (b9.mono BW.out.size))
  replace B_Y := Lib.hid (B_Y.out.trans (b9.mono B_Y.out.size))
  replace B_w7 := Lib.hid (B_w7.out.trans (b9.mono B_w7.out.size))
  have B_w8 := Lib.hid b9
  clear b9
  clear c0 c1 c2 c3 c4 c5 c6 c7 c8 c9 c10 ltB2
  obtain ⟨c0, c1, c2, c3, c4, c5, c6, c7, c8, c9, c10⟩ := msn_cells (m := exP hmB) (B2.out.below B_Y.out B2.out.lt)
  have ltB2 := (B2.out.below B_Y.out B2.out.lt).lt
  clear g7
  go_wp2_with fail
  generalize hXY2 : World.alloc w9 _ = Y2
  obtain ⟨q0, hA, hzY2⟩ := box1 hXY2
  clear hXY2
  replace BW := Lib.hid (BW.out.trans (hA.mono BW.out.size))
  replace B_Y := Lib.hid (B_Y.out.trans (hA.mono B_Y.out.size))
  replace B_w7 := Lib.hid (B_w7.out.trans (hA.mono B_w7.out.size))
  replace B_w8 := Lib.hid (B_w8.out.trans (hA.mono B_w8.out.size))
  clear hA
  have S2 := Lib.hid q0
  clear q0
  clear c0 c1 c2 c3 c4 c5 c6 c7 c8 c9 c10 ltB2
  obtain ⟨c0, c1, c2, c3, c4, c5, c6, c7, c8, c9, c10⟩ := msn_cells (m := exP hmB) (B2.out.below B_Y.out B2.out.lt)
  have ltB2 := (B2.out.below B_Y.out B2.out.lt).lt
  clear hzY2
  have g9 := tkeeps_any (exP hmB) _ _ _ _ [2] Y2 ((M2.out.below B_Y.out).mono B_Y.out.size) (ints_one S2.out)
  rw [(exA_2 hmB hmB_valid).1, (exA_2 hmB hmB_valid).2.1, (exA_2 hmB hmB_valid).2.2] at g9
  refine (g9).mono ?_
  rintro e w10 ⟨rfl, b10⟩
  replace BW := Lib.hid (BW.out.trans (b10.mono BW.out.size))
  replace B_Y := Lib.hid (B_Y.out.trans (b10.mono B_Y.out.size))
  replace B_w7 := Lib.hid (B_w7.out.trans (b10.mono B_w7.out.size))
  replace B_w8 := Lib.hid (B_w8.out.trans (b10.mono B_w8.out.size))
  have B_Y2 := Lib.hid b10
  clear b10
  clear c0 c1 c2 c3 c4 c5 c6 c7 c8 c9 c10 ltB2
  obtain ⟨c0, c1, c2, c3, c4, c5, c6, c7, c8, c9, c10⟩ := msn_cells (m := exP hmB) (B2.out.below B_Y.out B2.out.lt)
  have ltB2 := (B2.out.below B_Y.out B2.out.lt).lt
  clear g9
  clear S2
  clear B_Y2
  clear c0 c1 c2 c3 c4 c5 c6 c7 c8 c9 c10 ltB2
  go_wp2_with fail
  generalize hXY3 : World.alloc w10 _ = Y3
  obtain ⟨q0, hA, hzY3⟩ := box1 hXY3
  clear hXY3
  replace BW := Lib.hid (BW.out.trans (hA.mono BW.out.size))
  replace B_Y := Lib.hid (B_Y.out.trans (hA.mono B_Y.out.size))
  replace B_w7 := Lib.hid (B_w7.out.trans (hA.mono B_w7.out.size))
  replace B_w8 := Lib.hid (B_w8.out.trans (hA.mono B_w8.out.size))
  clear hA
  have S3 := Lib.hid q0
  clear q0
  clear hzY3
  have g8 := same32_any _ _ [1] [1] Y3 ((P2.out.below B_Y.out).mono B_Y.out.size) (ints_one S3.out)
  rw [decide_eq_true rfl] at g8
  refine (g8).mono ?_
  rintro e w11 ⟨rfl, b11⟩
  replace BW := Lib.hid (BW.out.trans (b11.mono BW.out.size))
  replace B_Y := Lib.hid (B_Y.out.trans (b11.mono B_Y.out.size))
  replace B_w7 := Lib.hid (B_w7.out.trans (b11.mono B_w7.out.size))
  replace B_w8 := Lib.hid (B_w8.out.trans (b11.mono B_w8.out.size))
  have B_Y3 := Lib.hid b11
  clear b11
  clear g8
  go_wp2
  go_ret
  exact ⟨rfl, BW.out⟩
end Go.Proofs.YtdkeiadpnnleoaaGreat

namespace Go.Proofs.YtdkeiadpnnleoaaGreat

section
variable (m : Msn) (R : List (List Pt)) (b d : Int)
end
section
variable {m : Msn} {R : List (List Pt)} {b d : Int}
/-- a rock of the one list is one of the other -/
def Fewer (R ls : List (List Pt)) : Prop := R.length ≤ ls.length ∧ ∀ j, j < R.length → ∃ i, i < ls.length ∧ rk R j = rk ls i
theorem Fewer.ok {ls : List (List Pt)} (h : Fewer R ls) (hv : rocksB ls = true) : rocksB R = true := by
  refine decide_eq_true fun j hj => ?_
  obtain ⟨i, hi, e⟩ := h.2 j hj
  rw [e]
  exact of_decide_eq_true hv i hi
variable (hF : Fewer R m.rocks) (V : VMsn m)
include hF V
omit hF V in
end
end Go.Proofs.YtdkeiadpnnleoaaGreat

namespace Go.Proofs.YtdkeiadpnnleoaaGreat
open Go.RowKit
attribute [local irreducible] wpQuiet

theorem firE_cor {m : Msn} (V : VMsn m) {a b : Nat} {u v : Int} (h : corE (atW m a) u (atW m b) v = 0) : firE (corL (atW m a) u (atW m b) v) m.rocks = 0 := by
  unfold corL
  rw [if_pos h]
  have g := goValid_of (cor_valid h)
  have o1 : okRocks (corH (atW m a) u.toNat (atW m b) v.toNat) m.rocks = true := by unfold okRocks; rw [g, Bool.true_and]; exact V.rocks
  unfold firE
  rw [if_pos V.nr, if_pos o1]
set_option linter.unusedSimpArgs false in
set_option linter.unusedVariables false in
set_option maxRecDepth 8000 in
set_option maxHeartbeats 1600000 in
theorem lclear_any (m : Msn) (vw vh vr : Value) (w : World) (hm : MsnAt w.heap.size w m vw vh vr) (V : VMsn m) (a b : Nat) (u v : Int) (ha : a < m.ways.length) (hb : b < m.ways.length) (hu : 0 ≤ u ∧ u ≤ 100000) (hv : 0 ≤ v ∧ v ≤ 100000) :
    Calls Tryz.prog 116 #[.agg (msnCells m vw vh vr), .int .i64 a, .int .i64 u, .int .i64 b, .int .i64 v] w fun e w' => e = .returned (.bool (clrB m a u b v)) ∧ Below w.heap.size w w' := by
  have n41 := V.n41
  have hce := cor_ok V ha hb hu hv
  have hfe := firE_cor V hce
  unfold atW at hce hfe
  have f1 := fun w1 => corridor_any ⟨(wy m.ways a).x, (wy m.ways a).y⟩ ⟨(wy m.ways b).x, (wy m.ways b).y⟩ u v w1
  have f2 := fun vc w1 (B : Below w.heap.size w w1) h => first_any vc vr (corL ⟨(wy m.ways a).x, (wy m.ways a).y⟩ u ⟨(wy m.ways b).x, (wy m.ways b).y⟩ v) m.rocks w1 h (((hm.2.2).below B).mono B.size)
  rw [hce] at f1
  rw [hfe] at f2
  unfold clrB atW
  obtain ⟨⟨-, a1, c1, rfl, hcw⟩, ⟨-, a2, c2, rfl, -⟩, ⟨-, a3, c3, rfl, -⟩⟩ := hm
  obtain ⟨bw, ow, rfl, hbw, hcw⟩ := hcw.resolve_left (by intro h; rw [h] at ha; simp at ha)
  obtain ⟨x1, x2, -⟩ := hcw a ha
  obtain ⟨x3, x4, -⟩ := hcw b hb
  clear hcw hce hfe V
  unfold msnCells at *
  generalize corL ⟨(wy m.ways a).x, (wy m.ways a).y⟩ u ⟨(wy m.ways b).x, (wy m.ways b).y⟩ v = cl at *
  simp only at f1
  obtain ⟨px, h1⟩ : ∃ x, (wy m.ways a).x = x := ⟨_, rfl⟩
  obtain ⟨py, h2⟩ : ∃ x, (wy m.ways a).y = x := ⟨_, rfl⟩
  obtain ⟨qx, h3⟩ : ∃ x, (wy m.ways b).x = x := ⟨_, rfl⟩
  obtain ⟨qy, h4⟩ : ∃ x, (wy m.ways b).y = x := ⟨_, rfl⟩
  rw [h1, h2, h3, h4] at f1
  rw [h1] at x1
  rw [h2] at x2
  rw [h3] at x3
  rw [h4] at x4
  clear h1 h2 h3 h4
  generalize firB cl m.rocks = fb at *
  generalize firI cl m.rocks = fi at *
  replace f1 := Lib.hid f1
  replace f2 := Lib.hid f2
  have ha' : (a : Int) < m.ways.length := by omega
  have hb' : (b : Int) < m.ways.length := by omega
  have ha0 : (0 : Int) ≤ a := by omega
  have hb0 : (0 : Int) ≤ b := by omega
  have BW := Lib.hid (Below.refl w.heap.size w)
  go_enter Tryz.func116, Tryz.ntmps116
  go_upto_region 1 with fail
  generalize hXX0 : World.alloc w _ = X0
  obtain ⟨q0, hA, hzX0⟩ := box1 hXX0
  clear hXX0
  have BW := Lib.hid hA
  clear hA
  have RB := Lib.hid q0
  clear q0
  replace x1 := (BW.out.cell (p := ⟨bw, ow + a * 5, none⟩) hbw).trans x1
  replace x2 := (BW.out.cell (p := ⟨bw, ow + a * 5 + 1, none⟩) hbw).trans x2
  replace x3 := (BW.out.cell (p := ⟨bw, ow + b * 5, none⟩) hbw).trans x3
  replace x4 := (BW.out.cell (p := ⟨bw, ow + b * 5 + 1, none⟩) hbw).trans x4
  have x0 : X0.cell? ⟨w.heap.size, 0, none⟩ = some (.slice (some ⟨bw, ow, none⟩) m.ways.length (m.ways.length + c1)) := RB.out.cell (i := 0) rfl
  refine (wpIn_wide (n := 9)).1 ?_
  refine wpIn_region_sched (lets_wide _) 19 (fun X => Below X0.heap.size X0 X) (by kernel_rfl) (by kernel_rfl) (by kernel_rfl) fun hH inv0 => ?_
  have hD := Below.drew (Below.refl X0.heap.size X0)
  generalize hXX1 : X0.drew = X1 at *
  clear hXX1
  replace BW := Lib.hid (BW.out.trans (hD.mono BW.out.size))
  have B_X0 := Lib.hid hD
  clear hD
  refine sched_take hH (i := 0) (v := .pointer (some ⟨w.heap.size, 0, none⟩)) (drop_get rfl) (by omega) inv0 (by kernel_rfl) (by kernel_rfl) rfl (fun X hX => ?_) fun inv1 => ?_
  · go_simp
  simp only [Act.put, List.setIfInBounds_toArray, List.set_cons_zero, List.set_cons_succ]
  clear inv0
  refine sched_take hH (i := 1) (v := .slice (some ⟨bw, ow, none⟩) m.ways.length (m.ways.length + c1)) (drop_get rfl) (by omega) inv1 (by kernel_rfl) (by kernel_rfl) rfl (fun X hX => ?_) fun inv2 => ?_
  · have r0 := (hX.cell (p := ⟨w.heap.size, 0, none⟩) (World.block_lt_of_cell? _ _ x0)).trans x0; go_simp
  simp only [Act.put, List.setIfInBounds_toArray, List.set_cons_zero, List.set_cons_succ]
  clear inv1
  refine sched_take hH (i := 2) (v := .int .i64 (a : Int)) (drop_get rfl) (by omega) inv2 (by kernel_rfl) (by kernel_rfl) rfl (fun X hX => ?_) fun inv3 => ?_
  · go_simp
  simp only [Act.put, List.setIfInBounds_toArray, List.set_cons_zero, List.set_cons_succ]
  clear inv2
  refine sched_take hH (i := 3) (v := .pointer (some ⟨bw, ow + a * 5, none⟩)) (drop_get rfl) (by omega) inv3 (by kernel_rfl) (by kernel_rfl) rfl (fun X hX => ?_) fun inv4 => ?_
  · go_simp
  simp only [Act.put, List.setIfInBounds_toArray, List.set_cons_zero, List.set_cons_succ]
  clear inv3
  refine sched_take hH (i := 4) (v := .pointer (some ⟨bw, ow + a * 5, none⟩)) (drop_get rfl) (by omega) inv4 (by kernel_rfl) (by kernel_rfl) rfl (fun X hX => ?_) fun inv5 => ?_
  · go_simp
  simp only [Act.put, List.setIfInBounds_toArray, List.set_cons_zero, List.set_cons_succ]
  clear inv4
  refine sched_take hH (i := 5) (v := .agg #[.int .i64 px, .int .i64 py]) (drop_get rfl) (by omega) inv5 (by kernel_rfl) (by kernel_rfl) rfl (fun X hX => ?_) fun inv6 => ?_
  · have r0 := (hX.cell (p := ⟨bw, ow + a * 5, none⟩) (World.block_lt_of_cell? _ _ x1)).trans x1; have r1 := (hX.cell (p := ⟨bw, ow + a * 5 + 1, none⟩) (World.block_lt_of_cell? _ _ x2)).trans x2; go_simp
  simp only [Act.put, List.setIfInBounds_toArray, List.set_cons_zero, List.set_cons_succ]
  clear inv5
  refine sched_take hH (i := 6) (v := .int .i64 u) (drop_get rfl) (by omega) inv6 (by kernel_rfl) (by kernel_rfl) rfl (fun X hX => ?_) fun inv7 => ?_
  · go_simp
  simp only [Act.put, List.setIfInBounds_toArray, List.set_cons_zero, List.set_cons_succ]
  clear inv6
  refine sched_take hH (i := 7) (v := .pointer (some ⟨w.heap.size, 0, none⟩)) (drop_get rfl) (by omega) inv7 (by kernel_rfl) (by kernel_rfl) rfl (fun X hX => ?_) fun inv8 => ?_
  · go_simp
  simp only [Act.put, List.setIfInBounds_toArray, List.set_cons_zero, List.set_cons_succ]
  clear inv7
  refine sched_take hH (i := 8) (v := .slice (some ⟨bw, ow, none⟩) m.ways.length (m.ways.length + c1)) (drop_get rfl) (by omega) inv8 (by kernel_rfl) (by kernel_rfl) rfl (fun X hX => ?_) fun inv9 => ?_
  · have r0 := (hX.cell (p := ⟨w.heap.size, 0, none⟩) (World.block_lt_of_cell? _ _ x0)).trans x0; go_simp
  simp only [Act.put, List.setIfInBounds_toArray, List.set_cons_zero, List.set_cons_succ]
  clear inv8
  refine sched_take hH (i := 9) (v := .int .i64 (b : Int)) (drop_get rfl) (by omega) inv9 (by kernel_rfl) (by kernel_rfl) rfl (fun X hX => ?_) fun inv10 => ?_
  · go_simp
  simp only [Act.put, List.setIfInBounds_toArray, List.set_cons_zero, List.set_cons_succ]
  clear inv9
  refine sched_take hH (i := 10) (v := .pointer (some ⟨bw, ow + b * 5, none⟩)) (drop_get rfl) (by omega) inv10 (by kernel_rfl) (by kernel_rfl) rfl (fun X hX => ?_) fun inv11 => ?_
  · go_simp
  simp only [Act.put, List.setIfInBounds_toArray, List.set_cons_zero, List.set_cons_succ]
  clear inv10
  refine sched_take hH (i := 11) (v := .pointer (some ⟨bw, ow + b * 5, none⟩)) (drop_get rfl) (by omega) inv11 (by kernel_rfl) (by kernel_rfl) rfl (fun X hX => ?_) fun inv12 => ?_
  · go_simp
  simp only [Act.put, List.setIfInBounds_toArray, List.set_cons_zero, List.set_cons_succ]
  clear inv11
  refine sched_take hH (i := 12) (v := .agg #[.int .i64 qx, .int .i64 qy]) (drop_get rfl) (by omega) inv12 (by kernel_rfl) (by kernel_rfl) rfl (fun X hX => ?_) fun inv13 => ?_
  · have r0 := (hX.cell (p := ⟨bw, ow + b * 5, none⟩) (World.block_lt_of_cell? _ _ x3)).trans x3; have r1 := (hX.cell (p := ⟨bw, ow + b * 5 + 1, none⟩) (World.block_lt_of_cell? _ _ x4)).trans x4; go_simp
  simp only [Act.put, List.setIfInBounds_toArray, List.set_cons_zero, List.set_cons_succ]
  clear inv12
  refine sched_take hH (i := 13) (v := .int .i64 v) (drop_get rfl) (by omega) inv13 (by kernel_rfl) (by kernel_rfl) rfl (fun X hX => ?_) fun inv14 => ?_
  · go_simp
  simp only [Act.put, List.setIfInBounds_toArray, List.set_cons_zero, List.set_cons_succ]
  clear inv13
  have inv15 := HeadInv.put2 inv14 (j := 14) (by kernel_rfl) (by omega)
  clear inv14
  refine sched_all (rs := [14]) (by kernel_rfl) (by simp) B_X0.out (by simp) (fun i hi' => ?_)
  simp only [List.mem_cons, List.not_mem_nil, or_false] at hi'
  subst hi'
  refine okOp_call (drop_get rfl) rfl (f := 65) (args := #[.agg #[.int .i64 px, .int .i64 py], .int .i64 u, .agg #[.int .i64 qx, .int .i64 qy], .int .i64 v]) (by go_simp) (f1.out X1) ?_
  rintro e w1 ⟨v1, rfl, p1, b1⟩
  refine ⟨_, rfl, ?_⟩
  simp only [Act.put, List.setIfInBounds_toArray, List.set_cons_zero, List.set_cons_succ]
  replace BW := Lib.hid (BW.out.trans (b1.mono BW.out.size))
  replace B_X0 := Lib.hid (B_X0.out.trans (b1.mono B_X0.out.size))
  clear b1
  have P1 := Lib.hid p1
  clear p1
  refine sched_take hH (i := 15) (v := .tuple #[v1, .int .i64 0]) (drop_get rfl) (by omega) inv15 (by kernel_rfl) (by kernel_rfl) rfl (fun X hX => ?_) fun inv16 => ?_
  · go_simp
  simp only [Act.put, List.setIfInBounds_toArray, List.set_cons_zero, List.set_cons_succ]
  clear inv15
  refine sched_take hH (i := 16) (v := v1) (drop_get rfl) (by omega) inv16 (by kernel_rfl) (by kernel_rfl) rfl (fun X hX => ?_) fun inv17 => ?_
  · go_simp
  simp only [Act.put, List.setIfInBounds_toArray, List.set_cons_zero, List.set_cons_succ]
  clear inv16
  refine sched_take hH (i := 17) (v := .int .i64 0) (drop_get rfl) (by omega) inv17 (by kernel_rfl) (by kernel_rfl) rfl (fun X hX => ?_) fun inv18 => ?_
  · go_simp
  simp only [Act.put, List.setIfInBounds_toArray, List.set_cons_zero, List.set_cons_succ]
  clear inv17
  refine sched_take hH (i := 18) (v := v1) (drop_get rfl) (by omega) inv18 (by kernel_rfl) (by kernel_rfl) rfl (fun X hX => ?_) fun inv19 => ?_
  · go_simp
  simp only [Act.put, List.setIfInBounds_toArray, List.set_cons_zero, List.set_cons_succ]
  clear inv18
  clear inv19 hH
  refine sched_done (by kernel_rfl) B_X0.out ?_
  simp only [List.drop_succ_cons, List.drop_zero]
  obtain ⟨g1, d1, hv1⟩ := P1.out.len
  subst hv1
  clear x0 x1 x2 x3 x4
  have x3 : w1.cell? ⟨w.heap.size, 3, none⟩ = some (.slice a3 m.rocks.length (m.rocks.length + c3)) := (RB.out.below B_X0.out RB.out.lt).cell (i := 3) rfl
  gi_wp2
  go_wp2_with fail
  refine (f2.out _ _ BW.out P1.out).mono ?_
  rintro e w2 ⟨rfl, b2⟩
  replace BW := Lib.hid (BW.out.trans (b2.mono BW.out.size))
  replace B_X0 := Lib.hid (B_X0.out.trans (b2.mono B_X0.out.size))
  have B_w1 := Lib.hid b2
  clear b2
  cases fb
  all_goals
    go_wp2
    go_ret
    exact ⟨rfl, BW.out⟩
end Go.Proofs.YtdkeiadpnnleoaaGreat
